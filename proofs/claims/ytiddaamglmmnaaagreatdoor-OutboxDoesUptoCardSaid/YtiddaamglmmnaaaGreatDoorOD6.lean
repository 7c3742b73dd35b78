/-
  Texts of the proof, put together: LdJ, LdK, LtA, LtB, LtD, LbB, LhA, LhB, LsA, LrA, LsC, LsD, LrB, LbC, LbD, LbE, LbF, PN, PO, PlF, LbG, LbI, LbA, LbH, LbJ, LbM, LbN, LwODoes.
-/
import Derived.Test.YtiddaamglmmnaaaGreatDoorOD5
import Derived.Sort.Walk0
open Decidable renaming decide → Ac
open Option renaming some → Ad, none → Ai
open Bool renaming true → Af, false → Ah
open List renaming length → Ae, drop → Ap, take → Aq, replicate → Au, range → As
open Int renaming toNat → Ao
open UInt8 renaming ofNat → Ar
open Go.Proofs.Tryz
namespace Go.Proofs.YtiddaamglmmnaaaGreatDoor
open Go
set_option linter.unusedVariables false
set_option linter.unusedSimpArgs false
theorem ZG:∀(n:Nat) (s:Aw),Ae s=n→Eh Af s=match Eh Ah s with
  | none=>Ai
  | some (t,u)=>bif t.all P9 then Ad (t,u) else Ai:=by
 intro n
 induction n using Nat.strongRecOn with
 | ind n ih=>
  intro s hn
  cases s with
  | nil=>rfl
  | cons c r=>
   simp only[Aqp] at hn;rw[H8,H8]
   cases h1:Ac (c=34) with
   | true=>rfl
   | false=>
    simp only[Aqr,Aq3,AqN]
    cases h3:Ac (c=92) with
    | true=>
     have hc:P9 c=Af:=by simp only[Aqq] at h3;subst h3;rfl
     rw[hc]
     cases r with
     | nil=>rfl
     | cons d r'=>
      simp only[Aq5,Aqr,Aqv];simp only[Aqp] at hn
      cases h4:(Ac (d=34)||decide (d=92)) with
      | false=>rfl
      | true=>
       have hd:P9 d=Af:=by
        simp only[AqF,Aqq] at h4;rcases h4 with e | e<;>subst e<;>rfl
       simp only[Aqv];rw[ih (Ae r') Ab r' rfl]
       cases Eh Ah r' with
       | none=>rfl
       | some q=>
        obtain⟨t,u⟩:=q;simp only[Are,hd,Aq3]
        cases t.all P9<;>rfl
    | false=>
     simp only[Aqr];rw[ih (Ae r) Ab r rfl]
     cases hc:P9 c with
     | false=>
      simp only[AqR,Aqv]
      cases Eh Ah r with
      | none=>rfl
      | some q=>obtain⟨t,u⟩:=q;simp[hc]
     | true=>
      simp only[Aq5,Aqr]
      cases Eh Ah r with
      | none=>rfl
      | some q=>
       obtain⟨t,u⟩:=q;simp only[Are,hc,Aq3]
       cases t.all P9<;>rfl
theorem AiE (m:Bool)(last:Option Aw)(s:Aw):GC Af m last s=match GC Ah m Ai s with
  | none=>Ai
  | some (k,u)=>bif C6 m last k then Ad (k,u) else Ai:=by
 cases m with
 | false=>rfl
 | true=>
  cases s with
  | nil=>rfl
  | cons c r=>
   unfold GC;simp only[Aqv,Aq3,AqN,Aqr]
   cases hc:Ac (c=34) with
   | false=>rfl
   | true=>
    simp only[Aqv];rw[ZG _ r rfl]
    cases Eh Ah r with
    | none=>rfl
    | some q=>
     obtain⟨t,u⟩:=q;simp only
     cases ht:t.all P9 with
     | false=>
      have hk:C6 Af last (Ad t)=Ah:=by simp[C6,ht]
      simp only[Aqr]
      cases u with
      | nil=>rfl
      | cons d u'=>
       simp only
       cases Ac (d=58) with
       | false=>rfl
       | true=>simp only[Aqv,hk];rfl
     | true=>
      simp only[Aqv]
      cases u with
      | nil=>cases C6 Af last (Ad t)<;>rfl
      | cons d u'=>
       simp only
       cases Ac (d=58) with
       | false=>cases C6 Af last (Ad t)<;>rfl
       | true=>cases hk:C6 Af last (Ad t)<;>simp[hk]
def plr (c:Av):Bool:=bif Ac (c.aa=4) then Ac (c.ay=0)&&Ac (c.fN=0) else pl c
def Fo.rw:Bool→Fo→Bool
 | _,.nil=>Af
 | m,.cell k c r=>(k.isSome ==m)&&plr c&&!Ac (0<c.fN)&&r.rw m
 | m,.node k c kids r=>(k.isSome ==m)&&plr c&&Ac (0<c.fN)&&Ac (c.fN=kids.cnt)&&kids.rw (Ac (c.aa=6))&&r.rw m
variable{m:Bool}{last:Option Aw}
theorem Ad1 {k:Option Aw}{r:List Av}(h:(k.isSome ==m)=Af):M1 m last (Ct k++r)=bif C6 m last k then Ad (k,r) else Ai:=by
 cases hk:C6 m last k with
 | true=>exact Yt hk
 | false=>
  cases k with
  | none=>
   have hm:m=Ah:=by cases m<;>simp_all
   subst hm
   cases hk
  | some s=>
   have hm:m=Af:=by cases m<;>simp_all
   subst hm;show(bif pl ⟨4,0,s,0⟩&&Ac ((4:Int)=4)&&C6 Af last (Ad s) then _ else Ai)=_;rw[hk,AqW];rfl
theorem TE:∀(f:Fo) (m:Bool) (last:Option Aw) (ys:List Av),f.rw m=Af→Tt m last f.cnt (f.flat++ys)=bif f.wf m last then Ad (f,ys) else Ai
 | .nil,_,_,_,_=>rfl
 | .cell k c r,m,last,ys,hw=>by
  simp only[Fo.rw,Aqu,Aq6] at hw;obtain⟨⟨⟨w1,w2⟩,w3⟩,w4⟩:=hw;simp only[Fo.cnt,Fo.flat,Aq4,Ara];rw[IE,Ad1 w1];simp only[Fo.wf,w3,AqR,AqQ]
  cases C6 m last k with
  | false=>rfl
  | true=>
   simp only[Aqv,Jx,w3,Aqr,Aq3]
   cases hp:pl c with
   | false=>rfl
   | true=>
    simp only[Aq5,Aqr,TE r m k ys w4,Aq3]
    cases r.wf m k<;>rfl
 | .node k c kids r,m,last,ys,hw=>by
  simp only[Fo.rw,Aqu,Aqq] at hw;obtain⟨⟨⟨⟨⟨w1,w2⟩,w3⟩,w5⟩,w6⟩,w4⟩:=hw;simp only[Fo.cnt,Fo.flat,Aq4,Ara];rw[IE,Ad1 w1];have e:c.fN.toNat=kids.cnt:=Ab
  have w5':Ac (c.fN=kids.cnt)=Af:=Aqo w5;simp only[Fo.wf,Aqo w3,w5',AqQ]
  cases C6 m last k with
  | false=>rfl
  | true=>
   simp only[Aqv,Jx,Aqo w3,Aq3]
   cases hp:pl c with
   | false=>rfl
   | true=>
    simp only[Aq5,Aqr,e,TE kids _ Ai (r.flat++ys) w6,Aq3]
    cases kids.wf (Ac (c.aa=6)) Ai with
    | false=>rfl
    | true=>
     simp only[Aqv,TE r m k ys w4,Aq3]
     cases r.wf m k<;>rfl
variable{f:Fo}
theorem AhE (h:f.one=Af)(m:Bool)(last key:Option Aw)(r:Fo):(f.put key r).wf m last=(C6 m last key&&f.wf Ah Ai&&r.wf m key):=by
 cases f with
 | nil=>cases h
 | cell k c r'=>
  cases k with
  | some _=>cases h
  | none=>cases r' with
   | nil=>simp[Fo.put,Fo.wf,C6,Bool.and_assoc]
   | cell _ _ _=>cases h
   | node _ _ _ _=>cases h
 | node k c kids r'=>
  cases k with
  | some _=>cases h
  | none=>cases r' with
   | nil=>simp[Fo.put,Fo.wf,C6,Bool.and_assoc]
   | cell _ _ _=>cases h
   | node _ _ _ _=>cases h
theorem AhF (h:f.one=Af)(m:Bool)(key:Option Aw)(r:Fo):(f.put key r).rw m=((key.isSome ==m)&&f.rw Ah&&r.rw m):=by
 cases f with
 | nil=>cases h
 | cell k c r'=>
  cases k with
  | some _=>cases h
  | none=>cases r' with
   | nil=>simp[Fo.put,Fo.rw,Bool.and_assoc]
   | cell _ _ _=>cases h
   | node _ _ _ _=>cases h
 | node k c kids r'=>
  cases k with
  | some _=>cases h
  | none=>cases r' with
   | nil=>simp[Fo.put,Fo.rw,Bool.and_assoc]
   | cell _ _ _=>cases h
   | node _ _ _ _=>cases h
theorem AdE (m:Bool)(g:Fo):(nd m g).wf Ah Ai=g.wf m Ai∧(nd m g).rw Ah=g.rw m:=by
 unfold nd
 cases hd:Ac (g.cnt=0) with
 | true=>
  simp only[Aqq] at hd;rw[LR hd]
  cases m<;>exact⟨rfl,rfl⟩
 | false=>
  simp only[Aqt] at hd;have h1:Ac ((0:Int)<(g.cnt:Int))=Af:=Aqo Ab;have h2:Ac ((0:Int)≤(g.cnt:Int))=Af:=Aqo Ab
  cases m<;>simp[Fo.wf,Fo.rw,C6,pl,plr]<;>omega
variable{s:Aw}
theorem AfQ {k:Option Aw}{u:Aw}{b:Bool}(h:GC b m last s=Ad (k,u)):(k.isSome ==m)=Af:=by
 unfold GC at h
 cases m with
 | false=>cases h;rfl
 | true=>
  simp only[Aqv] at h
  cases s with
  | nil=>cases h
  | cons c r=>
   simp only at h
   cases h1:Ac (c=34) with
   | false=>rw[h1] at h;cases h
   | true=>
    rw[h1] at h;simp only[Aqv] at h
    cases h2:Eh b r with
    | none=>rw[h2] at h;cases h
    | some q=>
     obtain⟨t,w⟩:=q;rw[h2] at h;simp only at h
     cases h3:(b&&!C6 Af last (Ad t)) with
     | true=>rw[h3] at h;cases h
     | false=>
      rw[h3] at h;simp only[Aqr] at h
      cases w with
      | nil=>cases h
      | cons d w'=>
       simp only at h
       cases h4:Ac (d=58) with
       | false=>rw[h4] at h;cases h
       | true=>rw[h4] at h;cases h;rfl
theorem TH:∀F:Nat,(∀s,Kl Af F s=(match Kl Ah F s with
   | none=>Ai
   | some (f,u)=>bif f.wf Ah Ai then Ad (f,u) else Ai)∧∀f u,Kl Ah F s=Ad (f,u)→f.rw Ah=Af)∧
  (∀m last last' s,Gw Af F m last s=(match Gw Ah F m last' s with
   | none=>Ai
   | some (g,u)=>bif g.wf m last then Ad (g,u) else Ai)∧∀g u,Gw Ah F m last' s=Ad (g,u)→g.rw m=Af)
 | 0=>⟨λs=>⟨by rw[Kl.eq_def,Kl.eq_def],(λf u h=>by rw[Kl.eq_def] at h;cases h)⟩,λm last last' s=>⟨by rw[Gw.eq_def,Gw.eq_def],(λg u h=>by rw[Gw.eq_def] at h;cases h)⟩⟩
 | F+1=>by
  obtain⟨ih1,ih2⟩:=TH F;have lfw:∀k i t,pl ⟨k,i,t,0⟩=Af→(lf k i t).wf Ah Ai=Af:=λk i t h=>by simp[lf,Fo.wf,C6,h]
  have lfr:∀k i t,plr ⟨k,i,t,0⟩=Af→(lf k i t).rw Ah=Af:=λk i t h=>by simp[lf,Fo.rw,h]
  constructor
  ·intro s;rw[HU,HU]
   cases h1:pre [110,117,108,108] s with
   | some r=>exact⟨rfl,λf u h=>by cases h;rfl⟩
   | none=>
   simp only
   cases h2:pre [116,114,117,101] s with
   | some r=>exact⟨rfl,λf u h=>by cases h;rfl⟩
   | none=>
   simp only
   cases h3:pre [102,97,108,115,101] s with
   | some r=>exact⟨rfl,λf u h=>by cases h;rfl⟩
   | none=>
   simp only
   cases s with
   | nil=>exact⟨rfl,λf u h=>by cases h⟩
   | cons c r=>
   simp only
   cases h4:Ac (c=34) with
   | true=>
    simp only[Aqv];rw[ZG _ r rfl]
    cases hq:Eh Ah r with
    | none=>exact⟨rfl,λf u h=>by cases h⟩
    | some q=>
     obtain⟨t,u⟩:=q;simp only;have e:(lf 4 0 t).wf Ah Ai=t.all P9:=by simp[lf,Fo.wf,C6,pl]
     rw[e];refine⟨by cases t.all P9<;>rfl,λf u' h=>by cases h;exact lfr 4 0 t rfl⟩
   | false=>
   simp only[Aqr]
   cases h5:(Ac (c=91)||decide (c=123)) with
   | false=>
    simp only[Aqr]
    cases hi:MD (c::r) with
    | none=>exact⟨rfl,λf u h=>by cases h⟩
    | some q=>
     obtain⟨f,u⟩:=q;have hf:f.wf Ah Ai=Af∧f.rw Ah=Af:=by
      unfold MD at hi;simp only at hi
      cases hc:GU (Ac ((c::r).head? =Ad 45)) (CX (bif Ac ((c::r).head? =Ad 45) then(c::r).tail else c::r)).1 with
      | false=>rw[hc] at hi;cases hi
      | true=>rw[hc] at hi;cases hi;exact⟨rfl,rfl⟩
     refine⟨by simp only[hf.1];rfl,λf' u' h=>by cases h;exact hf.2⟩
   | true=>
   simp only[Aqv]
   cases r with
   | nil=>exact⟨rfl,λf u h=>by cases h⟩
   | cons d r'=>
   simp only
   cases h6:Ac (d=BY (Ac (c=123))) with
   | true=>
    simp only[Aqv,(AdE _ _).1,Fo.wf];exact⟨trivial,λf u h=>by cases h;rw[(AdE _ _).2];rfl⟩
   | false=>
   simp only[Aqr];obtain⟨e1,e2⟩:=ih2 (Ac (c=123)) Ai Ai (d::r');rw[e1]
   cases hq:Gw Ah F (Ac (c=123)) Ai (d::r') with
   | none=>exact⟨rfl,λf u h=>by cases h⟩
   | some q=>
    obtain⟨g,u⟩:=q;simp only[(AdE _ _).1];refine⟨by cases g.wf (Ac (c=123)) Ai<;>rfl,λf u' h=>by cases h;rw[(AdE _ _).2];exact e2 g u hq⟩
  ·intro m last last' s;rw[Gj,Gj,AiE m last s];have hkl:GC Ah m last' s=GC Ah m Ai s:=by
    cases m with
    | false=>rfl
    | true=>unfold GC;simp only[AqN]
   rw[hkl]
   cases hk:GC Ah m Ai s with
   | none=>exact⟨rfl,λf u h=>by cases h⟩
   | some q=>
   obtain⟨key,s1⟩:=q;have hks:=AfQ hk;simp only;obtain⟨e1,e2⟩:=ih1 s1
   cases hf:Kl Ah F s1 with
   | none=>
    rw[hf] at e1;refine⟨?_,λf u h=>by cases h⟩
    cases C6 m last key with
    | false=>rfl
    | true=>simp only[Aqv,e1]
   | some q=>
   obtain⟨f,s2⟩:=q;have ho:=((GM Ah F).1 _ _ _ hf).2;have hfr:=e2 f s2 hf;rw[hf] at e1;simp only at e1;simp only
   cases s2 with
   | nil=>
    refine⟨?_,λf u h=>by cases h⟩
    cases C6 m last key with
    | false=>rfl
    | true=>simp only[Aqv,e1];cases f.wf Ah Ai<;>rfl
   | cons c s3=>
   simp only
   cases h3:Ac (c=BY m) with
   | true=>
    simp only[Aqv,AhE ho,Fo.wf,AqQ];refine⟨?_,λg u h=>by cases h;rw[AhF ho,hks,hfr];rfl⟩
    cases C6 m last key with
    | false=>rfl
    | true=>simp only[Aqv,e1,Aq3];cases f.wf Ah Ai<;>simp[h3]
   | false=>
   simp only[Aqr]
   cases h4:Ac (c=44) with
   | false=>
    refine⟨?_,λg u h=>by cases h⟩
    cases C6 m last key with
    | false=>rfl
    | true=>simp only[Aqv,e1];cases f.wf Ah Ai<;>simp[h3,h4]
   | true=>
   simp only[Aqv];obtain⟨e3,e4⟩:=ih2 m key key s3
   cases hq:Gw Ah F m key s3 with
   | none=>
    rw[hq] at e3;refine⟨?_,λg u h=>by cases h⟩
    cases C6 m last key with
    | false=>rfl
    | true=>simp only[Aqv,e1];cases f.wf Ah Ai<;>simp[h3,h4,e3]
   | some q=>
    obtain⟨g,u⟩:=q;rw[hq] at e3;simp only at e3;simp only[AhE ho];refine⟨?_,λg' u' h=>by cases h;rw[AhF ho,hks,hfr,e4 g u hq];rfl⟩
    cases C6 m last key with
    | false=>rfl
    | true=>
     simp only[Aqv,e1,Aq3]
     cases f.wf Ah Ai with
     | false=>rfl
     | true=>
      simp only[Aqv,h3,h4,Aqr,e3,Aq3]
      cases g.wf m key<;>rfl
def Te (K:Nat)(c:Av):Prop:=Ae c.au≤K∧BJ .i64 c.ay=Af∧c.fN≤(K:Int)
theorem W0 (b:Bool):∀(n:Nat) (s t u:Aw),Ae s=n→Eh b s=Ad (t,u)→Ae t≤Ae s:=by
 intro n
 induction n using Nat.strongRecOn with
 | ind n ih=>
  intro s t u hn h
  cases s with
  | nil=>cases h
  | cons c r=>
   simp only[Aqp] at hn ⊢;rw[H8] at h
   cases h1:Ac (c=34) with
   | true=>rw[h1] at h;cases h;simp
   | false=>
    rw[h1] at h;simp only[Aqr] at h
    cases h2:(b&&!P9 c) with
    | true=>rw[h2] at h;cases h
    | false=>
     rw[h2] at h;simp only[Aqr] at h
     cases h3:Ac (c=92) with
     | true=>
      rw[h3] at h
      cases r with
      | nil=>cases h
      | cons d r'=>
       simp only[Aqv] at h
       cases h4:(Ac (d=34)||decide (d=92)) with
       | false=>rw[h4] at h;cases h
       | true=>
        rw[h4] at h;simp only[Aqv] at h
        cases h5:Eh b r' with
        | none=>rw[h5] at h;cases h
        | some q=>
         obtain⟨t',u'⟩:=q;rw[h5] at h;cases h;simp only[Aqp] at hn ⊢;have:=ih (Ae r') Ab r' t' u rfl h5;omega
     | false=>
      rw[h3] at h;simp only[Aqr] at h
      cases h5:Eh b r with
      | none=>rw[h5] at h;cases h
      | some q=>
       obtain⟨t',u'⟩:=q;rw[h5] at h;cases h;have:=ih (Ae r) Ab r t' u rfl h5;simp only[Aqp];omega
variable{t:Aw}
theorem AfP {b:Bool}{u:Aw}(h:GC b m last s=Ad (Ad t,u)):Ae t≤Ae s:=by
 unfold GC at h
 cases m with
 | false=>cases h
 | true=>
  simp only[Aqv] at h
  cases s with
  | nil=>cases h
  | cons c r=>
   simp only at h
   cases h1:Ac (c=34) with
   | false=>rw[h1] at h;cases h
   | true=>
    rw[h1] at h;simp only[Aqv] at h
    cases h2:Eh b r with
    | none=>rw[h2] at h;cases h
    | some q=>
     obtain⟨k,w⟩:=q;have:=W0 b _ r k w rfl h2;rw[h2] at h;simp only at h
     cases h3:(b&&!C6 Af last (Ad k)) with
     | true=>rw[h3] at h;cases h
     | false=>
      rw[h3] at h;simp only[Aqr] at h
      cases w with
      | nil=>cases h
      | cons d w'=>
       simp only at h
       cases h4:Ac (d=58) with
       | false=>rw[h4] at h;cases h
       | true=>rw[h4] at h;cases h;simp only[Aqp];omega
theorem AiH (neg:Bool){d:Aw}(hd:d.all Ee=Af):BJ .i64 (Pt neg d)=Af:=by
 unfold Pt
 cases ha:Ac (18<Ae d) with
 | true=>
  cases neg with
  | true=>exact(by decide:BJ .i64 (-2000000000000)=Af)
  | false=>exact(by decide:BJ .i64 2000000000000=Af)
 | false=>
  simp only[Aqt] at ha;have hb:=Y8 hd Ab
  cases neg with
  | true=>exact EV (by simp only[Aqr,Aqv];omega) (by simp only[Aqr,Aqv];omega)
  | false=>exact EV (by simp only[Aqr];omega) (by simp only[Aqr];omega)
theorem Aio {g:Fo}{K:Nat}(hg:∀c∈g.flat,Te K c)(hl:Ae g.flat≤K):∀c∈(nd m g).flat,Te K c:=λc hc=>by
 rw[Nq _ _ LR] at hc;have hcf:=DA g;rcases List.mem_cons.1 hc with rfl | hc
 ·exact⟨AqL _,(by decide:BJ .i64 0=Af),by show(g.cnt:Int)≤K;omega⟩
 ·exact hg c hc
theorem Adx {r:Fo}{K:Nat}{key:Option Aw}(ho:f.one=Af)(hf:∀c∈f.flat,Te K c)(hr:∀c∈r.flat,Te K c)(hk:∀t,key=Ad t→Ae t≤K):∀c∈(f.put key r).flat,Te K c:=λc hc=>by
 rw[HT ho] at hc;rcases List.mem_append.1 hc with h | h
 ·cases key with
  | none=>cases h
  | some t=>
   have:c=⟨4,0,t,0⟩:=by simpa[Ct] using h
   subst this;exact⟨hk t rfl,(by decide:BJ .i64 0=Af),by show(0:Int)≤K;omega⟩
 ·rcases List.mem_append.1 h with h | h
  ·exact hf c h
  ·exact hr c h
theorem ON (b:Bool)(K:Nat):∀F:Nat,(∀s f u,Ae s≤K→Kl b F s=Ad (f,u)→∀c∈f.flat,Te K c)∧(∀m last s g u,Ae s≤K→Gw b F m last s=Ad (g,u)→∀c∈g.flat,Te K c)
 | 0=>⟨(λs f u _ h=>by rw[Kl.eq_def] at h;cases h),(λm last s g u _ h=>by rw[Gw.eq_def] at h;cases h)⟩
 | F+1=>by
  obtain⟨ih1,ih2⟩:=ON b K F;have lfc:∀k i t,Ae t≤K→BJ .i64 i=Af→∀c∈(lf k i t).flat,Te K c:=λk i t ht hi c hc=>by
   have:c=⟨k,i,t,0⟩:=by simpa[lf,Fo.flat,Ct] using hc
   subst this;exact⟨ht,hi,by show(0:Int)≤K;omega⟩
  constructor
  ·intro s f u hs h;rw[HU] at h
   cases h1:pre [110,117,108,108] s with
   | some r=>rw[h1] at h;cases h;exact lfc _ _ _ (AqL _) Al
   | none=>
   rw[h1] at h;simp only at h
   cases h2:pre [116,114,117,101] s with
   | some r=>rw[h2] at h;cases h;exact lfc _ _ _ (AqL _) Al
   | none=>
   rw[h2] at h;simp only at h
   cases h3:pre [102,97,108,115,101] s with
   | some r=>rw[h3] at h;cases h;exact lfc _ _ _ (AqL _) Al
   | none=>
   rw[h3] at h;simp only at h
   cases s with
   | nil=>cases h
   | cons c r=>
   simp only[Aqp] at hs;simp only at h
   cases h4:Ac (c=34) with
   | true=>
    rw[h4] at h;simp only[Aqv] at h
    cases h5:Eh b r with
    | none=>rw[h5] at h;cases h
    | some q=>
     obtain⟨t,w⟩:=q;rw[h5] at h;cases h;have:=W0 b _ r t u rfl h5;exact lfc _ _ _ Ab Al
   | false=>
   rw[h4] at h;simp only[Aqr] at h
   cases h5:(Ac (c=91)||decide (c=123)) with
   | false=>
    rw[h5] at h;simp only[Aqr] at h;unfold MD at h;simp only at h
    cases hc:GU (Ac ((c::r).head? =Ad 45)) (CX (bif Ac ((c::r).head? =Ad 45) then(c::r).tail else c::r)).1 with
    | false=>rw[hc] at h;cases h
    | true=>
     rw[hc] at h;cases h;exact lfc 3 _ [] (AqL _) (AiH _ (MM _))
   | true=>
   rw[h5] at h;simp only[Aqv] at h
   cases r with
   | nil=>cases h
   | cons d r'=>
   simp only at h
   cases h6:Ac (d=BY (Ac (c=123))) with
   | true=>rw[h6] at h;cases h;exact Aio (λc hc=>by cases hc) (AqL _)
   | false=>
   rw[h6] at h;simp only[Aqr] at h
   cases h7:Gw b F (Ac (c=123)) Ai (d::r') with
   | none=>rw[h7] at h;cases h
   | some q=>
    obtain⟨g,w⟩:=q;rw[h7] at h;cases h;have:=(Hu b F).2 _ _ _ _ _ h7;exact Aio (ih2 _ _ _ _ _ Ab h7) Ab
  ·intro m last s g u hs h;rw[Gj] at h
   cases h1:GC b m last s with
   | none=>rw[h1] at h;cases h
   | some q=>
   obtain⟨key,s1⟩:=q;have l1:=AaH h1;have hkt:∀t,key=Ad t→Ae t≤K:=λt e=>by subst e;have:=AfP h1;omega
   rw[h1] at h;simp only at h
   cases h2:Kl b F s1 with
   | none=>rw[h2] at h;cases h
   | some q=>
   obtain⟨f,s2⟩:=q;obtain⟨l2,o2⟩:=(GM b F).1 _ _ _ h2;have hf:=ih1 _ _ _ Ab h2;rw[h2] at h;simp only at h
   cases s2 with
   | nil=>cases h
   | cons c s3=>
   simp only[Aqp] at l2;simp only at h
   cases h3:Ac (c=BY m) with
   | true=>rw[h3] at h;cases h;exact Adx o2 hf (λc hc=>by cases hc) hkt
   | false=>
   rw[h3] at h;simp only[Aqr] at h
   cases h4:Ac (c=44) with
   | false=>rw[h4] at h;cases h
   | true=>
   rw[h4] at h;simp only[Aqv] at h
   cases h5:Gw b F m key s3 with
   | none=>rw[h5] at h;cases h
   | some q=>
    obtain⟨g',w⟩:=q;rw[h5] at h;cases h;exact Adx o2 hf (ih2 _ _ _ _ _ Ab h5) hkt
theorem Ajl:∀l:List Av,l.any D0=Ah→l.map E6=l
 | [],_=>rfl
 | c::l,h=>by
  simp only[List.any_cons,AqD] at h;simp only[AqY,Ajl l h.2,E6,h.1,Aqr]
def Tw (s:Aw):Option (List Av×Int):=
 bif Ac (4000<Ae s) then Ad ([],3) else match Kl Af 10000 s with
  | some (f,[])=>Ad (bif Ac (IZ f=0) then(f.flat,0) else([],IZ f))
  | _=>Ad ([],1)
theorem VY (s:Aw):AN.mk s 0 [] Ah=G6 s s [] Ah:=by simp[G6]
theorem Ajs (h:f.flat.any D0=Af):IZ f=2:=by unfold IZ;rw[h];rfl
variable{F:Nat}
theorem ZC (hF:20000≤F):OB F s=Tw s:=by
 unfold OB Tw;have a1:Ac ((4000:Int)<(Ae s:Int))=Ac (4000<Ae s):=by rw[Aq2];simp;omega
 rw[a1]
 cases h4:Ac (4000<Ae s) with
 | true=>rfl
 | false=>
  simp only[Aqt] at h4;rw[AF rfl,VY];simp only[Aqr];rcases Ab8 (S:=s) Ab (F:=F) (P:=10000) Ab Ab with⟨f,w,q1,q2,q3⟩ | ⟨q1,q',q2⟩
  ·rw[q3,q1,Bu rfl,AF (p:=!Af) rfl];obtain⟨_,hone⟩:=(GM Af 10000).1 _ _ _ q1;have hwl:=q2.len;have hcells:=(ON Af 4000 10000).1 _ _ _ Ab q1;have hfl:=(Hu Af 10000).1 _ _ _ q1;unfold KX;have hat:(Af,G6 s w ([]++f.flat.map E6) (Ah||f.flat.any D0)).2.aG=(Ae s:Int)-Ae w:=rfl;rw[hat]
   cases w with
   | cons c w'=>
    have hd:Ac ((Ae s:Int)-Ae (c::w')=(Ae s:Int))=Ah:=Aqn (by simp only[Aqp];omega);rw[hd];rfl
   | nil=>
    have hd:Ac ((Ae s:Int)-Ae ([]:Aw)=(Ae s:Int))=Af:=Aqo Aj;rw[hd,AF (p:=!Af) rfl]
    change _=Ad (bif Ac (IZ f=0) then(f.flat,0) else([],IZ f))
    have hgr:(Af,G6 s [] ([]++f.flat.map E6) (Ah||f.flat.any D0)).2.aB=f.flat.any D0:=rfl;have hce:(Af,G6 s [] ([]++f.flat.map E6) (Ah||f.flat.any D0)).2.aw=f.flat.map E6:=rfl;rw[hgr,hce]
    cases ho:f.flat.any D0 with
    | true=>rw[Ajs ho];rfl
    | false=>
     rw[AF rfl,Ajl _ ho];have hA:Mh 4000 f.flat:=⟨Al,Ab,λc hc=>by obtain⟨c1,c2,c3⟩:=hcells c hc;exact⟨c1,c2,Ab⟩⟩
     have hwf:f.wf Ah Ai=Af:=by
      have:=((TH 10000).1 s).1;rw[q1] at this
      cases hp:Kl Ah 10000 s with
      | none=>rw[hp] at this;cases this
      | some q=>
       obtain⟨f',u'⟩:=q;rw[hp] at this;simp only at this
       cases hw:f'.wf Ah Ai with
       | false=>rw[hw] at this;cases this
       | true=>rw[hw] at this;cases this;exact hw
     have hev:HZ f.flat=IZ f:=by unfold HZ;rw[Qz hone hwf]
     unfold Uz;rw[OC hA Al Ab,Bu rfl,hev]
     cases Ac (IZ f=0)<;>rfl
  ·rw[q2,q1];rfl
theorem Aaa (hF:20000≤F):QI F s=Tw s:=by
 unfold QI Tw;have a1:Ac ((4000:Int)<(Ae s:Int))=Ac (4000<Ae s):=by rw[Aq2];simp;omega
 rw[a1]
 cases h4:Ac (4000<Ae s) with
 | true=>rfl
 | false=>
  simp only[Aqt] at h4;rw[AF rfl];simp only[Aqr];obtain⟨e1,e2⟩:=(TH 10000).1 s;have hr:=Ah5 (S:=s) Ab (F:=F) (P:=10000) Ab Ab;unfold ROk at hr;rw[Int.sub_self] at hr;rcases hr with⟨f,w,q1,q2,q3⟩ | ⟨q1,v,q2⟩
  ·rw[q1] at e1;simp only at e1;obtain⟨_,hone⟩:=(GM Ah 10000).1 _ _ _ q1;have hwl:=q2.len;have hcells:=(ON Ah 4000 10000).1 _ _ _ Ab q1;have hfl:=(Hu Ah 10000).1 _ _ _ q1;rw[q3,Bu rfl,e1]
   cases w with
   | cons c w'=>
    have hd:Ac ((Ae s:Int)-Ae (c::w')=(Ae s:Int))=Ah:=Aqn (by simp only[Aqp];omega);simp only;rw[hd]
    cases f.wf Ah Ai<;>rfl
   | nil=>
    have hd:Ac ((Ae s:Int)-Ae ([]:Aw)=(Ae s:Int))=Af:=Aqo Aj;simp only;rw[hd,AF (p:=!Af) rfl];have hA:Mh 4000 f.flat:=⟨Al,Ab,λc hc=>by obtain⟨c1,c2,c3⟩:=hcells c hc;exact⟨c1,c2,Ab⟩⟩
    unfold UL;rw[KD hA Al Ab,Bu rfl]
    cases hwf:f.wf Ah Ai with
    | true=>
     have hev:HZ f.flat=IZ f:=by unfold HZ;rw[Qz hone hwf]
     rw[hev];simp only[Aqv]
     cases Ac (IZ f=0)<;>rfl
    | false=>
     have hwh:whole f.flat=Ai:=by
      have h1:=TE f Ah Ai [] (e2 f [] q1);rw[hwf,QW hone,AqJ] at h1;have h2:Mc f.flat=Ai:=h1;unfold whole;rw[h2]
     have hev:HZ f.flat=1:=by unfold HZ;rw[hwh]
     rw[hev];rfl
  ·rw[q1] at e1;simp only at e1;rw[q2,Bu rfl,e1];simp only;rw[AX (p:=!Ac ((-1:Int)=(Ae s:Int))) (by rw[Aqn Ab];rfl)]
theorem Af4 (d:Aw)(c:UInt8)(a:Nat):EQ a (d++[c])=10*EQ a d+(c.toNat-48):=by simp[EQ]
theorem Anl {u:Nat}(h:u<10):Lib.decDigits u=[Ar (48+u)]:=by rw[Lib.decDigits,dif_pos h]
theorem Anm {u:Nat}(h:¬ u<10):Lib.decDigits u=Lib.decDigits (u/10)++[Ar (48+u % 10)]:=by
 rw[Lib.decDigits,dif_neg h]
theorem Ajx:∀(n:Nat) (d:Aw),Ae d=n→d.all Ee=Af→d≠[]→(d.head? =Ad 48→Ae d=1)→Lib.decDigits (EQ 0 d)=d:=by
 intro n
 induction n with
 | zero=>intro d hn _ hne;exact absurd (AqB hn) hne
 | succ n ih=>
  intro d hn ha hne hh;obtain⟨d',c,rfl⟩:∃d' c,d=d'++[c]:=⟨d.dropLast,d.getLast hne,(List.dropLast_concat_getLast hne).symm⟩
  rw[List.all_append] at ha;simp only[Are,List.all_nil,AqQ,Aqu] at ha;have hc:48≤c.toNat∧c.toNat≤57:=by have:=ha.2;simp[Ee] at this;omega
  have ec:Ar (48+(c.toNat-48))=c:=by rw[show 48+(c.toNat-48)=c.toNat from Ab];simp
  rw[Af4]
  cases hd:d' with
  | nil=>
   show Lib.decDigits (10*0+(c.toNat-48))=[c];rw[Anl Ab,show 48+(10*0+(c.toNat-48))=48+(c.toNat-48) from Ab,ec]
  | cons x r=>
   rw[← hd];have hne':d'≠[]:=by rw[hd];simp
   have h1:d'.head?≠Ad 48:=λe=>by
    have:=hh (by rw[hd] at e ⊢;simpa using e);rw[hd] at this;simp at this
   have ih':=ih d' (by simp at hn;omega) ha.1 hne' (λe=>absurd e h1);have hpos:1≤EQ 0 d':=by
    rw[hd];show 1≤EQ (10*0+(x.toNat-48)) r;have hx:48≤x.toNat∧x.toNat≤57:=by have:=ha.1;rw[hd] at this;simp[Ee] at this;omega
    have hx2:x.toNat≠48:=λe=>h1 (by rw[hd];simp;rw[← Ark];exact e);exact Nat.le_trans Ab (OR r _)
   rw[Anm Ab,show(10*EQ 0 d'+(c.toNat-48))/10=EQ 0 d' from Ab,show(10*EQ 0 d'+(c.toNat-48)) % 10=c.toNat-48 from Ab,ih',ec]
theorem AfV {u:Aw}(h:MD s=Ad (f,u)):∃n,f = .cell Ai ⟨3,n,[],0⟩ .nil∧(D0 ⟨3,n,[],0⟩=Ah→s=Lib.itoa n++u):=by
 unfold MD at h;simp only at h;have key:∀(neg:Bool) (r:Aw),s=(bif neg then 45::r else r)→GU neg (CX r).1=Af→D0 ⟨3,Pt neg (CX r).1,[],0⟩=Ah→s=Lib.itoa (Pt neg (CX r).1)++(CX r).2:=λneg r es hcan hout=>by
  have hd:=MM r;have he:=LQ r;generalize(CX r).1=d at *;generalize(CX r).2=w at *;unfold GU at hcan;simp only[Aqu,Aq6,Aqt] at hcan;obtain⟨hne,hz⟩:=hcan;have hl:Ae d≤18:=by
   by_cases ha:Ae d≤18
   ·exact ha
   ·exfalso;unfold Pt at hout;rw[Aqo Ab] at hout
    cases neg<;>simp[D0] at hout
  have hn:Pt neg d=bif neg then -(EQ 0 d:Int) else(EQ 0 d:Int):=by
   have:=Ok d 0 hd;unfold Pt;rw[Aqn Ab];show(bif neg then -(Ll d) else Ll d)=_;rw[show Ll d=(EQ 0 d:Int) from this]
  have hback:=Ajx (Ae d) d rfl hd hne (λe=>by
   cases h1:Ac (1<Ae d) with
   | true=>rw[Aqo e,h1] at hz;simp at hz
   | false=>
    simp only[Aqt] at h1
    cases d with
    | nil=>exact absurd rfl hne
    | cons x y=>simp only[Aqp] at h1 ⊢;omega)
  rw[hn]
  cases neg with
  | true=>
   have hpos:1≤EQ 0 d:=by
    cases d with
    | nil=>exact absurd rfl hne
    | cons x y=>
     have hx:48≤x.toNat∧x.toNat≤57:=by simp[Ee] at hd;omega
     have hx2:x.toNat≠48:=λe=>by
      have:x=48:=by rw[← Ark];exact e
      rw[this] at hz;simp at hz
     show 1≤EQ (10*0+(x.toNat-48)) y;exact Nat.le_trans Ab (OR y _)
   have:=Lib.itoa_neg (EQ 0 d) hpos;simp only[Aqv] at es ⊢;rw[this,hback,es,Ara,← he]
  | false=>
   have:=Lib.itoa_nonneg (EQ 0 d);simp only[Aqr] at es ⊢;rw[this,hback,es,← he]
 cases hneg:Ac (s.head? =Ad 45) with
 | true=>
  rw[hneg] at h;simp only[Aqv] at h
  cases hcan:GU Af (CX s.tail).1 with
  | false=>rw[hcan] at h;cases h
  | true=>
   rw[hcan] at h;simp only[Aqv,Option.some.injEq,Prod.mk.injEq] at h;obtain⟨rfl,rfl⟩:=h;refine⟨_,rfl,λhout=>key Af s.tail ?_ hcan hout⟩
   cases s with
   | nil=>simp at hneg
   | cons c r=>
    simp at hneg;subst hneg;rfl
 | false=>
  rw[hneg] at h;simp only[Aqr] at h
  cases hcan:GU Ah (CX s).1 with
  | false=>rw[hcan] at h;cases h
  | true=>
   rw[hcan] at h;simp only[Aqv,Option.some.injEq,Prod.mk.injEq] at h;obtain⟨rfl,rfl⟩:=h;exact⟨_,rfl,λhout=>key Ah s rfl hcan hout⟩
theorem W2:∀(n:Nat) (s t u:Aw),Ae s=n→Eh Af s=Ad (t,u)→s=IY t++34::u:=by
 intro n
 induction n using Nat.strongRecOn with
 | ind n ih=>
  intro s t u hn h
  cases s with
  | nil=>cases h
  | cons c r=>
   simp only[Aqp] at hn;rw[H8] at h
   cases h1:Ac (c=34) with
   | true=>
    rw[h1] at h;cases h;rw[Aq0 h1];rfl
   | false=>
    rw[h1] at h;simp only[Aqr] at h
    cases h2:(Af&&!P9 c) with
    | true=>rw[h2] at h;cases h
    | false=>
     rw[h2] at h;simp only[Aqr] at h
     cases h3:Ac (c=92) with
     | true=>
      rw[h3] at h
      cases r with
      | nil=>cases h
      | cons d r'=>
       simp only[Aqv] at h
       cases h4:(Ac (d=34)||decide (d=92)) with
       | false=>rw[h4] at h;cases h
       | true=>
        rw[h4] at h;simp only[Aqv] at h
        cases h5:Eh Af r' with
        | none=>rw[h5] at h;cases h
        | some q=>
         obtain⟨t',u'⟩:=q;rw[h5] at h;cases h;simp only[Aqp] at hn;have:=ih (Ae r') Ab r' t' u rfl h5;rw[Aq0 h3,this];simp[IY,h4]
     | false=>
      rw[h3] at h;simp only[Aqr] at h
      cases h5:Eh Af r with
      | none=>rw[h5] at h;cases h
      | some q=>
       obtain⟨t',u'⟩:=q;rw[h5] at h;cases h;have:=ih (Ae r) Ab r t' u rfl h5;rw[this];simp only[Aqt] at h1 h3;simp[IY,h1,h3]
theorem Adw (h:f.one=Af)(key:Option Aw)(r:Fo)(b:Bool):(f.put key r).txt b=Gc b++(L6 key++(f.txt Af++r.txt Ah)):=by
 cases f with
 | nil=>cases h
 | cell k c s=>cases k with
  | some _=>cases h
  | none=>cases s with
   | nil=>simp[Fo.put,Fo.txt,Gc,L6]
   | _=>cases h
 | node k c kids s=>cases k with
  | some _=>cases h
  | none=>cases s with
   | nil=>simp[Fo.put,Fo.txt,Gc,L6]
   | _=>cases h
theorem Ady (h:f.one=Af)(key:Option Aw)(r:Fo):(f.put key r).flat.any D0=(f.flat.any D0||r.flat.any D0):=by
 rw[HT h,List.any_append,List.any_append,Vt,Aq9]
theorem Xu {k:Option Aw}{w:Aw}(h:GC Af m last s=Ad (k,w)):s=L6 k++w:=by
 unfold GC at h
 cases m with
 | false=>cases h;rfl
 | true=>
  simp only[Aqv] at h
  cases s with
  | nil=>cases h
  | cons c r=>
   simp only at h
   cases h1:Ac (c=34) with
   | false=>rw[h1] at h;cases h
   | true=>
    rw[h1] at h;simp only[Aqv] at h
    cases h2:Eh Af r with
    | none=>rw[h2] at h;cases h
    | some q=>
     obtain⟨t,u⟩:=q;have:=W2 _ r t u rfl h2;rw[h2] at h;simp only at h
     cases h3:(Af&&!C6 Af last (Ad t)) with
     | true=>rw[h3] at h;cases h
     | false=>
      rw[h3] at h;simp only[Aqr] at h
      cases u with
      | nil=>cases h
      | cons d u'=>
       simp only at h
       cases h4:Ac (d=58) with
       | false=>rw[h4] at h;cases h
       | true=>
        rw[h4] at h;cases h;rw[Aq0 h1,this,Aq0 h4];simp[L6,Jg]
theorem Aam:∀F:Nat,(∀s f u,Kl Af F s=Ad (f,u)→f.flat.any D0=Ah→s=f.txt Af++u)∧(∀m last s g u,Gw Af F m last s=Ad (g,u)→g.flat.any D0=Ah→s=g.txt Af++BY m::u)
 | 0=>⟨(λs f u h=>by rw[Kl.eq_def] at h;cases h),(λm last s g u h=>by rw[Gw.eq_def] at h;cases h)⟩
 | F+1=>by
  obtain⟨ih1,ih2⟩:=Aam F;obtain⟨pl1,pl2⟩:=GM Af F;constructor
  ·intro s f u h ho;rw[HU] at h
   cases h1:pre [110,117,108,108] s with
   | some r=>rw[h1] at h;cases h;rw[EN h1];rfl
   | none=>
   rw[h1] at h;simp only at h
   cases h2:pre [116,114,117,101] s with
   | some r=>rw[h2] at h;cases h;rw[EN h2];rfl
   | none=>
   rw[h2] at h;simp only at h
   cases h3:pre [102,97,108,115,101] s with
   | some r=>rw[h3] at h;cases h;rw[EN h3];rfl
   | none=>
   rw[h3] at h;simp only at h
   cases s with
   | nil=>cases h
   | cons c r=>
    simp only at h
    cases h4:Ac (c=34) with
    | true=>
     rw[h4] at h;simp only[Aqv] at h
     cases h5:Eh Af r with
     | none=>rw[h5] at h;cases h
     | some q=>
      obtain⟨t,u'⟩:=q;rw[h5] at h;cases h;rw[Aq0 h4,W2 _ r t _ rfl h5];simp[lf,Fo.txt,Gc,L6,HI,Jg]
    | false=>
    rw[h4] at h;simp only[Aqr] at h
    cases h5:(Ac (c=91)||decide (c=123)) with
    | true=>
     rw[h5] at h;simp only[Aqv] at h;have hopen:∀x:Aw,(c::x)=(bif Ac (c=123) then(123:UInt8) else 91)::x:=λx=>by
      cases h6:Ac (c=123) with
      | true=>rw[Aq0 h6];rfl
      | false=>rw[h6,AqZ] at h5;rw[Aq0 h5];rfl
     rw[hopen];generalize Ac (c=123)=m at *
     cases r with
     | nil=>cases h
     | cons d r'=>
      simp only at h
      cases h6:Ac (d=BY m) with
      | true=>
       rw[h6] at h;cases h;rw[Aq0 h6]
       cases m<;>simp[nd,Fo.cnt,Fo.txt,Gc,L6,HI,BY]
      | false=>
       rw[h6] at h;simp only[Aqr] at h
       cases h7:Gw Af F m Ai (d::r') with
       | none=>rw[h7] at h;cases h
       | some q=>
        obtain⟨g,u'⟩:=q;rw[h7] at h;cases h;have hc:=(pl2 _ _ _ _ _ h7).2;rw[Nq _ _ LR,List.any_cons,AqD] at ho;rw[ih2 _ _ _ _ _ h7 ho.2];unfold nd;rw[Aqn Ab]
        cases m<;>simp[Fo.txt,Gc,L6,VK,BY]
    | false=>
     rw[h5] at h;simp only[Aqr] at h;obtain⟨n,rfl,hb⟩:=AfV h;have ho':D0 ⟨3,n,[],0⟩=Ah:=by simpa[Fo.flat,Ct] using ho
     rw[hb ho'];simp[Fo.txt,Gc,L6,HI]
  ·intro m last s g u h ho;rw[Gj] at h
   cases h1:GC Af m last s with
   | none=>rw[h1] at h;cases h
   | some q=>
    obtain⟨key,s1⟩:=q;rw[h1] at h;simp only at h
    cases h2:Kl Af F s1 with
    | none=>rw[h2] at h;cases h
    | some q=>
     obtain⟨f,s2⟩:=q;have hone:=(pl1 _ _ _ h2).2;rw[h2] at h;simp only at h
     cases s2 with
     | nil=>cases h
     | cons c s3=>
      simp only at h
      cases h3:Ac (c=BY m) with
      | true=>
       rw[h3] at h;cases h;rw[Ady hone,AqD] at ho;rw[Xu h1,ih1 _ _ _ h2 ho.1,Adw hone,Aq0 h3];simp[Gc,Fo.txt]
      | false=>
       rw[h3] at h;simp only[Aqr] at h
       cases h4:Ac (c=44) with
       | false=>rw[h4] at h;cases h
       | true=>
        rw[h4] at h;simp only[Aqv] at h
        cases h5:Gw Af F m key s3 with
        | none=>rw[h5] at h;cases h
        | some q=>
         obtain⟨g',w⟩:=q;rw[h5] at h;cases h;have hc:=(pl2 _ _ _ _ _ h5).2;rw[Ady hone,AqD] at ho;have e5:=ih2 _ _ _ _ _ h5 ho.2;have e6:g'.txt Ah=44::g'.txt Af:=by
          cases g' with
          | nil=>simp[Fo.cnt] at hc
          | cell k c r=>simp[Fo.txt,Gc]
          | node k c kids r=>simp[Fo.txt,Gc]
         rw[Xu h1,ih1 _ _ _ h2 ho.1,Adw hone,Aq0 h4,e5,e6];simp[Gc]
open Go Go.RowKit
theorem AaY (h:IZ f=0):f.flat.any D0=Ah∧f.flat.any LK=Ah∧Ae f.flat≤200∧f.dep≤8∧Ae (f.txt Af)≤4000:=by
 unfold IZ at h
 cases h1:f.flat.any D0 with
 | true=>rw[h1] at h;cases h
 | false=>
  rw[h1] at h
  cases h2:(f.flat.any LK||(Ac (200<Ae f.flat)||(Ac (8<f.dep)||decide (4000<Ae (f.txt Af))))) with
  | true=>rw[h2] at h;cases h
  | false=>
   simp only[AqD,Aqt] at h2;exact⟨rfl,h2.1,Ab,Ab,Ab⟩
theorem Al3 (h1:f.one=Af)(hw:f.wf Ah Ai=Af)(he:IZ f=0):HZ f.flat=0:=by
 unfold HZ;rw[Qz h1 hw];exact he
theorem Am8 {u:Aw}(h:Kl Af F s=Ad (f,u)):f.wf Ah Ai=Af:=by
 have:=((TH F).1 s).1;rw[h] at this
 cases h2:Kl Ah F s with
 | none=>rw[h2] at this;cases this
 | some q=>
  obtain⟨g,w⟩:=q;rw[h2] at this;simp only at this
  cases hw:g.wf Ah Ai with
  | true=>rw[hw] at this;cases this;exact hw
  | false=>rw[hw] at this;cases this
theorem Al9 {r:List Av×Int}(h:Tw s=Ad r)(h0:r.2=0):Mh 4000 r.1∧V9 r.1=(s,0)∧HZ r.1=0:=by
 unfold Tw at h
 cases h4:Ac (4000<Ae s) with
 | true=>rw[h4] at h;cases h;cases h0
 | false=>
  rw[h4] at h;simp only[Aqt] at h4;simp only[Aqr] at h
  cases hp:Kl Af 10000 s with
  | none=>rw[hp] at h;cases h;cases h0
  | some q=>
   obtain⟨f,w⟩:=q;rw[hp] at h
   cases w with
   | cons _ _=>cases h;cases h0
   | nil=>
    simp only[Option.some.injEq] at h;subst h
    cases he:Ac (IZ f=0) with
    | false=>rw[he] at h0;exact absurd h0 (AqS he)
    | true=>
     have hf:=Aq0 he;have hw:=Am8 hp;have hone:=((GM Af 10000).1 _ _ _ hp).2;have hcells:=(ON Af 4000 10000).1 _ _ _ Ab hp;have hfl:=(Hu Af 10000).1 _ _ _ hp;obtain⟨h1,h2,h3,_⟩:=AaY hf;have hb:=(Aam 10000).1 _ _ _ hp h1;rw[AqJ] at hb;refine⟨⟨Al,by show (Ae f.flat)≤4000;omega,λc hc=>?_⟩,?_,Al3 hone hw hf⟩
     ·obtain⟨a,b,c'⟩:=hcells c hc;exact⟨a,b,Ab⟩
     ·show V9 f.flat=_;unfold V9;rw[Qz hone hw];simp only;rw[he,hb];rfl
theorem Agq (s:Aw):∃r,Tw s=Ad r:=by
 unfold Tw
 cases Ac (4000<Ae s) with
 | true=>exact⟨_,rfl⟩
 | false=>
  simp only[Aqr]
  split<;>exact⟨_,rfl⟩
section
variable {M : Nat} {v : List Av}
theorem AbU (hA:Mh M v)(hM:M≤2000000)(hF:4*M+8<F):TA F v=Ad (V9 v):=by
 have hvM:=hA.hv;unfold TA V9;rw[KD hA hM Ab,Bu rfl];unfold HZ
 cases hwh:whole v with
 | none=>rfl
 | some f=>
  change By (!Ac (IZ f=0)) _ _=Ad (bif Ac (IZ f=0) then(f.txt Af,0) else([],IZ f))
  cases he:Ac (IZ f=0) with
  | false=>rw[AX (p:=!Ah) rfl];rfl
  | true=>
   obtain⟨h1,h2,h3⟩:=KR hwh;have hl:Ae v=Ae f.flat:=by rw[h1]
   have hc:∀c∈f.flat,Ae c.au≤M∧BJ .i64 c.ay=Af∧c.fN≤9223372036854775807:=λc hc=>hA.hc c (by rw[h1];exact hc);have hb:=Pm hM h2 Ab hc;have htl:(Ae (f.txt Af):Int)=f.byt:=by rw[L9 f Ah Ai Af h2,QW h3];simp
   have hd0:v.drop (0:Int).toNat=f.flat++[]:=by rw[AqJ];exact h1
   rw[AF (p:=!Af) rfl,ZP hA (Aq8 0) h3 h2 hd0 Ab Ab,Bu rfl];rfl
end
variable{α:Type}{i:Nat}
theorem C1 [Inhabited α]{l:List α}(h:i<Ae l):A2 l (i:Int)=l[i]:=by simp[A2,h]
theorem Jd (p:Bool)(a b:α):By p (Ad a) (Ad b)=Ad (bif p then a else b):=by cases p<;>rfl
theorem Jc (a b:Option α):By Af a b=a:=rfl
theorem Dv (a b:Option α):By Ah a b=b:=rfl
theorem JB (x:Option α):Bc Af x=x:=rfl
theorem Gz (a:Bool):imp a Af=Af:=by cases a<;>rfl
variable{β:Type}
theorem Bv (a:α)(k:α→Option β):BB (Ad a) k=k a:=rfl
def Nv (g:Nat→Int):Nat→Nat→Int
 | _,0=>0
 | i,k+1=>bif Ac (g i=0) then Nv g (i+1) k else g i
variable{U:Type}
theorem Vn {N:Nat}{g:Nat→Int}{body:Int→Option (Stp Int (Out Int U))}{u:U}(hb:∀i:Nat,i<N→body (i:Int)=By (!Ac (g i=0)) (Ad (.out (.ret (g i)))) (Ad (.next ((i:Int)+1))))(he:body (N:Int)=Ad (.out (.go u))) :
  ∀(k n i:Nat),i+k=N→k<n→BB (Cp body n (i:Int)) (Cb λ_=>Ad 0)=Ad (Nv g i k):=by
 intro k
 induction k with
 | zero=>
  intro n i h hn;obtain⟨n,rfl⟩:∃m,n=m+1:=⟨n-1,Ab⟩
  obtain rfl:i=N:=Ab
  rw[Cp,he];rfl
 | succ k ih=>
  intro n i h hn;obtain⟨n,rfl⟩:∃m,n=m+1:=⟨n-1,Ab⟩
  rw[Cp,hb i Ab,Nv]
  cases hg:Ac (g i=0) with
  | true=>
   have:=ih n (i+1) Ab Ab;exact this
  | false=>rfl
theorem X3 {g:Nat→Int}:∀{k i:Nat},Nv g i k=0→∀j,i≤j→j<i+k→g j=0
 | 0,i,_,j,h1,h2=>by omega
 | k+1,i,h,j,h1,h2=>by
  rw[Nv] at h
  cases hg:Ac (g i=0) with
  | false=>
   rw[hg] at h;exact absurd h (AqS hg)
  | true=>
   rw[hg] at h;rcases Nat.eq_or_lt_of_le h1 with rfl | h3
   ·exact Aq0 hg
   ·exact X3 (k:=k) (i:=i+1) h j h3 Ab
structure EfA (M:Nat) (x:A1):Prop where
 v:Mh M x.aj
 k:Ae x.ap≤1000000000
structure XK (M:Nat) (c:AO):Prop where
 r:Mh M c.az
 es:∀x∈c.ac,EfA M x
 ev:Ae c.ai≤1000000000
 tn:Ae c.ag≤1000000000
def ME (n:Int):Bool:=Ac (0≤n)&&Ac (n≤1073741824)
def Km (k:Int):Bool:=Ac (k=3)||(Ac (k=4)||decide (k=5))
def Af2 (x:A1):Bool:=bif Ac (x.aa=3)||decide (x.aa=4) then GS x.ap else KH x.ap
def opO (v:List Av):Bool:=Ac (1<(Ae v:Int))&&(Ac ((A2 v 0).aa=5)&&Ac ((A2 v 1).aa=4))
def U2 (event:Aw)(i:Int)(x:A1):Int:=
 bif Ac (x.aa=5)&&!opO x.aj then 7 else
 bif (bif !Ac (x.aa=4) then !Ac (x.an=0)||!ME x.an else !ME x.an) then 2 else
 bif Km x.aa then DR event i else 0
def R4 (event:Aw)(i:Int)(x:A1):Int:=
 bif Ac (x.aa<1)||decide (5<x.aa) then 7 else
 bif !Af2 x then 4 else
 bif Ac (x.aa=2) then(bif Ac (0<(Ae x.aj:Int)) then 7 else U2 event i x) else
 bif !Ac (HZ x.aj=0) then HZ x.aj else U2 event i x
theorem SW (n:Int):CT n=Ad (ME n):=rfl
theorem WE (n:Int):DV n=Ad (ME n):=rfl
theorem QZ (n:Int):IG n=Ad (Km n):=rfl
theorem QA (n:Int):H9 n=Ad (Km n):=rfl
theorem Afv (x:A1):Y2 x=Ad (Af2 x):=Jd _ _ _
theorem We (v:List Av):Ep v=Ad (opO v):=by
 unfold Ep
 by_cases h:1<(Ae v:Int)
 ·rw[L7 Ab Ab,L7 Ab Ab];simp only[Gz,JB];rfl
 ·unfold opO;rw[Aqn h];rfl
variable{event:Aw}
theorem Aih {i:Int}(x:A1)(h1:De 1 (Ae event)=Af)(h2:BJ .i64 i=Af) :
  (Bc (imp (Ac (x.aa=5)) ((Ep x.aj).isSome))<|By (((Ac (x.aa=5))&&(!(ov (Ep x.aj))))) (Ad 7) (Bc (imp (!Ac (x.aa=4)) (imp (!(!Ac (x.an=0))) ((CT x.an).isSome)))<|Bc (imp (!(!Ac (x.aa=4))) ((CT x.an).isSome))<|By ((bif !Ac (x.aa=4) then((!Ac (x.an=0))||(!(ov (CT x.an)))) else !(ov (CT x.an)))) (Ad 2) (BB (IG x.aa) λha=>By (ha) (Bc (De 1 (Ae event))<|Bc (BJ .i64 i)<|some (DR event i)) (Ad 0))))=Ad (U2 event i x):=by
 simp only[We,SW,QZ,Option.isSome_some,Gz,JB,IS,Bv,h1,h2,Jd];rfl
variable{M:Nat}
theorem Aco {i:Int}{x:A1}(hA:EfA M x)(hM:M≤2000000)(hF:M<F)(h1:Ae event≤1000000000)(h2:BJ .i64 i=Af):OO F event x i=Ad (R4 event i x):=by
 unfold OO;simp only[Aih x (Aqo Ab:De 1 (Ae event)=Af) h2,Afv,Bv,OC hA.v hM hF,Jd];rfl
variable{v:List Av}
theorem Sd (h:HZ v=0):0<Ae v∧((A2 v 0).aa=5→(A2 v 0).fN≠0→1<Ae v)∧((A2 v 0).fN=0→Ae v=1):=by
 unfold HZ at h
 cases hw:whole v with
 | none=>rw[hw] at h;simp at h
 | some f=>
  obtain⟨h1,h2,h3⟩:=KR hw
  cases f with
  | nil=>cases h3
  | cell k c r=>
   cases k with
   | some _=>cases h3
   | none=>
    cases r with
    | nil=>
     obtain rfl:v=[c]:=h1;simp only[Fo.wf,Aqu,Aq6,Aqt] at h2;refine⟨Aj,λh5 hn=>?_,λ_=>rfl⟩;exfalso;have hp:=h2.1.1.2;have e0:A2 [c] 0=c:=rfl;rw[e0] at h5 hn;unfold pl at hp;rw[h5] at hp;simp at hp;omega
    | _=>cases h3
  | node k c kids r=>
   cases k with
   | some _=>cases h3
   | none=>
    cases r with
    | nil=>
     have h1':v=c::kids.flat:=by rw[h1];simp[Fo.flat,Ct]
     subst h1';simp only[Fo.wf,Aqu,Aqq] at h2;have hk:kids.flat≠[]:=by
      cases kids with
      | nil=>intro _;have:=h2.1.1.1.2;have:=h2.1.1.2;simp[Fo.cnt] at this;omega
      | cell k c r=>cases k<;>simp[Fo.flat,Ct]
      | node k c kids r=>cases k<;>simp[Fo.flat,Ct]
     have e0:A2 (c::kids.flat) 0=c:=rfl;refine⟨Aj,λ_ _=>?_,λhn=>?_⟩
     ·have:=List.length_pos_iff.2 hk;simp only[Aqp];omega
     ·rw[e0] at hn;have:=h2.1.1.1.2;omega
    | _=>cases h3
theorem AmB (h:HZ v=0):((!Ac ((A2 v 0).aa=5))||((Ac ((A2 v 0).fN=0))||(!Ac ((A2 v 1).aa=4)))) = !opO v:=by
 obtain⟨h0,h1,h2⟩:=Sd h;unfold opO
 by_cases h5:(A2 v 0).aa=5
 ·by_cases hn:(A2 v 0).fN=0
  ·have:=h2 hn;rw[Aqo h5,Aqo hn,Aqn (by omega : ¬ 1<(Ae v:Int))];rfl
  ·have:=h1 h5 hn;rw[Aqo h5,Aqn hn,Aqo (by omega:1<(Ae v:Int))];simp
 ·rw[Aqn h5];simp
theorem Ahh (k d:Int):(bif Ac (k=4) then !(ME d) else !Ac (d=0))=(bif !Ac (k=4) then !Ac (d=0)||!ME d else !ME d):=by
 by_cases h4:k=4
 ·rw[Aqo h4];rfl
 ·rw[Aqn h4]
  by_cases hd:d=0
  ·subst hd;rfl
  ·rw[Aqn hd];rfl
theorem ZQ {i:Int}(x:A1)(hv:x.aa≠2→HZ x.aj=0)(h1:De 1 (Ae event)=Af)(h2:BJ .i64 i=Af) :
  (Bc (imp (Ac (x.aa=5)) (CE 0 (Ae x.aj:Int)))<|Bc (imp (Ac (x.aa=5)) (imp (!(!Ac (((A2 x.aj 0).aa)=5))) (imp (!(Ac (((A2 x.aj 0).fN)=0))) (CE 1 (Ae x.aj:Int)))))<|By (((Ac (x.aa=5))&&((!Ac (((A2 x.aj 0).aa)=5))||((Ac (((A2 x.aj 0).fN)=0))||(!Ac (((A2 x.aj 1).aa)=4)))))) (Ad 7) (Bc (imp (Ac (x.aa=4)) ((DV x.an).isSome))<|By ((bif Ac (x.aa=4) then !(ov (DV x.an)) else !Ac (x.an=0))) (Ad 2) (BB (H9 x.aa) λha=>By (!ha) (Ad 0) (Bc (De 1 (Ae event))<|Bc (BJ .i64 i)<|some (DR event i)))))=Ad (U2 event i x):=by
 have c1:imp (Ac (x.aa=5)) (CE 0 (Ae x.aj:Int))=Af:=by
  by_cases h5:x.aa=5
  ·have:=(Sd (hv Ab)).1;rw[L7 Ab Ab];exact Gz _
  ·rw[Aqn h5];rfl
 have c2:imp (Ac (x.aa=5)) (imp (!(!Ac (((A2 x.aj 0).aa)=5))) (imp (!(Ac (((A2 x.aj 0).fN)=0))) (CE 1 (Ae x.aj:Int))))=Af:=by
  by_cases h5:x.aa=5
  ·by_cases k5:(A2 x.aj 0).aa=5
   ·by_cases hn:(A2 x.aj 0).fN=0
    ·rw[Aqo hn];simp[imp]
    ·have:=(Sd (hv Ab)).2.1 k5 hn;rw[L7 Ab Ab];simp only[Gz]
   ·rw[Aqn k5];simp[imp]
  ·rw[Aqn h5];rfl
 have c3:((Ac (x.aa=5))&&((!Ac (((A2 x.aj 0).aa)=5))||((Ac (((A2 x.aj 0).fN)=0))||(!Ac (((A2 x.aj 1).aa)=4)))))=(Ac (x.aa=5)&&!opO x.aj):=by
  by_cases h5:x.aa=5
  ·rw[AmB (hv Ab)]
  ·rw[Aqn h5];rfl
 have c4:(λb:Bool=>(bif !b then(0:Int) else DR event i))=λb=>bif b then DR event i else 0:=by funext b;cases b<;>rfl
 simp only[c1,c2,c3,WE,QA,Option.isSome_some,Gz,JB,IS,Bv,h1,h2,Jd,Ahh];unfold U2
 cases Km x.aa<;>rfl
theorem AbV {i:Int}{x:A1}(hA:EfA M x)(hM:M≤2000000)(hF:4*M+6<F)(h1:Ae event≤1000000000)(h2:BJ .i64 i=Af):QH F event i x=Ad (R4 event i x):=by
 unfold QH R4;have hk:De 1 (Ae x.ap)=Af:=Aqo (by have:=hA.k;omega);have he:De 1 (Ae event)=Af:=Aqo Ab
 by_cases h2k:x.aa=2
 ·have ht:=ZQ x (λh=>absurd h2k h) he h2;simp only[ht,hk,JB,KD hA.v hM hF,Bv,Jd,Aqo h2k];unfold Af2
  cases Ac (x.aa=3)||decide (x.aa=4)<;>rfl
 ·by_cases hv:HZ x.aj=0
  ·have ht:=ZQ x (λ_=>hv) he h2;simp only[ht,hk,JB,KD hA.v hM hF,Bv,Jd,Aqn h2k,Dv];unfold Af2
   cases Ac (x.aa=3)||decide (x.aa=4)<;>rfl
  ·rw[KD hA.v hM hF,hk,JB,Bv,Aqn h2k,Aqn hv];unfold Af2;simp only[AqR,Jc,Dv,Jd]
   cases Ac (x.aa=3)||decide (x.aa=4)<;>rfl
def Mf (c:AO):Int:=
 bif !(KH c.ai)||!(GS c.ag) then 4 else
 bif Ac (c.ar<1)||(Ac (1073741824<c.ar)||!ME c.aG) then 2 else
 bif !Ac (HZ c.az=0) then HZ c.az else
 bif Ac (32<(Ae c.ac:Int)) then 3 else
 Nv (λi=>R4 c.ai (i:Int) (A2 c.ac (i:Int))) 0 (Ae c.ac)
variable{c:AO}
theorem Xe (hA:XK M c)(hM:M≤2000000)(hF:M<F)(hF0:32<F):Sb F c=Ad (Mf c):=by
 unfold Sb Mf;simp only[SW,Option.isSome_some,Gz,JB,IS,OC hA.r hM hF,Bv]
 by_cases hl:32<(Ae c.ac:Int)
 ·rw[Aqo hl];simp only[Jc,Jd];rfl
 ·have:=Vn (N:=Ae c.ac) (g:=λi=>R4 c.ai (i:Int) (A2 c.ac (i:Int))) (body:=λσ=>J4 F c σ) (u:=()) (λi hi=>by
   unfold J4;rw[AX (Aqo Ab),Bi Ab Ab,Aco (hA.es _ (by rw[C1 hi];exact List.getElem_mem hi)) hM hF hA.ev (EV Ab Ab),Bv,AH Ab Ab]) (by unfold J4;rw[AF (Aqn Ab)]) (Ae c.ac) F 0 Ab Ab
  rw[Aqn hl];rw[show BB (Cp (λσ=>J4 F c σ) F 0) (Cb λν=>M8)=Ad (Nv (λi=>R4 c.ai (i:Int) (A2 c.ac (i:Int))) 0 (Ae c.ac)) from this];simp only[Dv,Jd]
theorem SR (hA:XK M c)(hM:M≤2000000)(hF:4*M+100<F):Mv F c=Ad (Mf c):=by
 unfold Mv Mf;have h1:De 1 (Ae c.ai)=Af:=Aqo (by have:=hA.ev;omega);have h2:De 1 (Ae c.ag)=Af:=Aqo (by have:=hA.tn;omega);simp only[h1,h2,WE,Option.isSome_some,Gz,JB,IS,KD hA.r hM (by omega:4*M+6<F),Bv]
 by_cases hl:32<(Ae c.ac:Int)
 ·rw[Aqo hl];simp only[Jc,Jd];rfl
 ·have:=Vn (N:=Ae c.ac) (g:=λi=>R4 c.ai (i:Int) (A2 c.ac (i:Int))) (body:=λσ=>Hq F c σ) (u:=()) (λi hi=>by
   unfold Hq;rw[AX (Aqo Ab),Bi Ab Ab,AbV (hA.es _ (by rw[C1 hi];exact List.getElem_mem hi)) hM Ab hA.ev (EV Ab Ab),Bv,AH Ab Ab]) (by unfold Hq;rw[AF (Aqn Ab)]) (Ae c.ac) F 0 Ab Ab
  rw[Aqn hl];rw[show BB (Cp (λσ=>Hq F c σ) F 0) (Cb λν=>JU)=Ad (Nv (λi=>R4 c.ai (i:Int) (A2 c.ac (i:Int))) 0 (Ae c.ac)) from this];simp only[Dv,Jd]
def sB (b:BitVec 32):BitVec 32:=if b.getLsbD 0=Af then(b>>>1)^^^3988292384#32 else b>>>1
def Zj:Nat→BitVec 32→BitVec 32
 | 0,b=>b
 | n+1,b=>Zj n (sB b)
theorem Am6 (a b:BitVec 32):sB (a^^^b)=sB a^^^sB b:=by
 unfold sB;rw[BitVec.getLsbD_xor,BitVec.ushiftRight_xor_distrib]
 cases a.getLsbD 0<;>cases b.getLsbD 0
 ·simp
 ·simp[BitVec.xor_assoc]
 ·simp only[Bool.xor_false,Arp,AqP,Arl];rw[BitVec.xor_assoc,BitVec.xor_assoc,BitVec.xor_comm (b>>>1)]
 ·simp only[Bool.xor_self,AqP,Arl,Arp];rw[BitVec.xor_assoc,BitVec.xor_comm 3988292384#32,BitVec.xor_assoc,BitVec.xor_self,BitVec.xor_zero]
theorem Adm:∀(n:Nat) (a b:BitVec 32),Zj n (a^^^b)=Zj n a^^^Zj n b
 | 0,_,_=>rfl
 | n+1,a,b=>by rw[Zj,Am6,Adm n];rfl
theorem W7:∀(n:Nat) (b:BitVec 32),(∀i,i<n→b.getLsbD i=Ah)→Zj n b=b>>>n
 | 0,b,_=>by simp[Zj]
 | n+1,b,h=>by
  have h0:sB b=b>>>1:=by unfold sB;rw[h 0 Ab];simp
  rw[Zj,h0,W7 n (b>>>1) (λi hi=>by rw[BitVec.getLsbD_ushiftRight];exact h _ Ab)];rw[← BitVec.shiftRight_add,Nat.add_comm]
theorem AeL (x:BitVec 32):Zj 8 x=Zj 8 (x&&& 255#32)^^^(x>>>8):=by
 have e:x=(x&&& 255#32)^^^(x&&& 4294967040#32):=by
  apply BitVec.eq_of_getLsbD_eq;intro i hi;rw[BitVec.getLsbD_xor,BitVec.getLsbD_and,BitVec.getLsbD_and];have hh:∀j:_root_.Fin 32,(4294967040#32).getLsbD j = !(255#32).getLsbD j:=Al
  rw[hh ⟨i,hi⟩]
  cases x.getLsbD i<;>cases(255#32).getLsbD i<;>rfl
 have hz:∀i,i<8→(x&&& 4294967040#32).getLsbD i=Ah:=λi hi=>by
  rw[BitVec.getLsbD_and];have:(4294967040#32).getLsbD i=Ah:=by
   have hh:∀i:_root_.Fin 8,(4294967040#32).getLsbD i=Ah:=Al
   exact hh ⟨i,hi⟩
  rw[this,AqW]
 have hs:(x&&& 4294967040#32)>>>8=x>>>8:=by
  apply BitVec.eq_of_getLsbD_eq;intro i hi;rw[BitVec.getLsbD_ushiftRight,BitVec.getLsbD_ushiftRight,BitVec.getLsbD_and]
  by_cases h:8+i<32
  ·have hh:∀j:_root_.Fin 24,(4294967040#32).getLsbD (8+j)=Af:=Al
   rw[hh ⟨i,Ab⟩,AqQ]
  ·rw[BitVec.getLsbD_of_ge x _ Ab];rfl
 conv=>lhs;rw[e]
 rw[Adm,W7 8 _ hz,hs]
def bv (x:Int):BitVec 32:=BitVec.ofInt 32 x
def nv (b:BitVec 32):Int:=(b.toNat:Int)
def W32 (x:Int):Prop:=0≤x∧x<4294967296
theorem W32.nv (b:BitVec 32):W32 (nv b):=⟨by unfold Proofs.YtiddaamglmmnaaaGreatDoor.nv;omega,by have:=b.isLt;unfold Proofs.YtiddaamglmmnaaaGreatDoor.nv;omega⟩
theorem Amc {x:Int}(h:W32 x):nv (bv x)=x:=by
 unfold nv bv;have h1:=h.1;have h2:=h.2;rw[BitVec.toNat_ofInt];have:x % ((2 ^ 32:Nat):Int)=x:=Int.emod_eq_of_lt h1 (by simpa using h2);rw[this];omega
theorem VI (b:BitVec 32):bv (nv b)=b:=by
 apply BitVec.eq_of_toNat_eq;have h:=Amc (W32.nv b);unfold nv at h;exact Int.ofNat_inj.1 h
theorem XO (b:BitVec 32):IntKind.wrap .u32 (b.toNat:Int)=nv b:=by
 have:=b.isLt;unfold nv;simp[IntKind.wrap,IntKind.signed,IntKind.bits];omega
theorem TN (x y:Int):Kn .u32 x y=nv (bv x^^^bv y):=XO (bv x^^^bv y)
theorem Alq (x y:Int):Sk .u32 x y=nv (bv x&&& bv y):=XO (bv x&&& bv y)
variable{n:Nat}
theorem AdW (hn:n≤32)(b:BitVec 32):Er .u32 (nv b) (n:Int)=nv (b>>>n):=by
 unfold Er nv;have e:min (n:Int).toNat (IntKind.bits .u32)=n:=by
  have:IntKind.bits .u32=32:=rfl;rw[this];omega
 rw[e,BitVec.toNat_ushiftRight,Nat.shiftRight_eq_div_pow];rw[Int.fdiv_eq_ediv_of_nonneg _ (by exact Int.pow_nonneg Ab)];simp
theorem AmP (b:BitVec 32):Ac (Sk .u32 (nv b) 1=1)=b.getLsbD 0:=by
 rw[Alq,VI];have e:bv 1=1#32:=Al
 rw[e];have h:(b&&& 1#32).toNat=b.toNat % 2:=by
  rw[BitVec.toNat_and];exact Nat.and_one_is_mod _
 unfold nv;rw[h,BitVec.getLsbD,Nat.testBit_zero];rw[Aq2];simp only[Aqq];omega
theorem ZL (b:BitVec 32):(bif Ac (Sk .u32 (nv b) 1=1) then Kn .u32 (Er .u32 (nv b) 1) 3988292384 else Er .u32 (nv b) 1)=nv (sB b):=by
 have hs:Er .u32 (nv b) 1=nv (b>>>1):=AdW (n:=1) Ab b;have e:bv 3988292384=3988292384#32:=Al
 rw[AmP,hs,TN,VI,e];unfold sB
 cases b.getLsbD 0<;>rfl
def be4 (n:Nat):Aw:=[Ar (n/16777216),Ar (n/65536),Ar (n/256),Ar n]
def G1:Aw→Nat
 | a::b::c::d::_=>((a.toNat*256+b.toNat)*256+c.toNat)*256+d.toNat
 | _=>0
def LS (c:UInt8):BitVec 32:=BitVec.ofNat 32 c.toNat
def AcJ (b:BitVec 32):Aw→BitVec 32
 | []=>b
 | c::s=>AcJ (Zj 8 (b^^^LS c)) s
def R7 (s:Aw):Nat:=(~~~ (AcJ 4294967295#32 s)).toNat
theorem Aem (s:Aw):R7 s<4294967296:=(~~~ (AcJ 4294967295#32 s)).isLt
def Dk (b:Aw):Aw:=be4 (Ae b)++be4 (R7 b)++b
theorem Gi (b:Aw):Ae (Dk b)=8+Ae b:=by simp[Dk,be4];omega
def EJ (s:Aw):Aw×Int×Int:=
 bif Ac (Ae s<8) then([],0,14)
 else bif Ac (262136<G1 s) then([],0,13)
 else bif Ac (Ae s-8<G1 s) then([],0,14)
 else bif !Ac (R7 ((s.drop 8).take (G1 s))=G1 (s.drop 4)) then([],0,13)
 else((s.drop 8).take (G1 s),((8+G1 s:Nat):Int),0)
def Cq:Nat→Aw→List Aw×Nat
 | 0,_=>([],0)
 | n+1,s=>bif Ac ((EJ s).2.2=0) then((EJ s).1::(Cq n (s.drop (EJ s).2.1.toNat)).1,(EJ s).2.1.toNat+(Cq n (s.drop (EJ s).2.1.toNat)).2) else([],0)
theorem Rh (h:n<4294967296)(r:Aw):G1 (be4 n++r)=n:=by
 show((((Ar (n/16777216)).toNat*256+(Ar (n/65536)).toNat)*256+(Ar (n/256)).toNat)*256+(Ar n).toNat)=n;simp only[UInt8.toNat_ofNat'];omega
theorem VL (h:4≤Ae s):be4 (G1 s)=s.take 4:=by
 match s,h with
 | a::b::c::d::r,_=>
  have ha:=a.toNat_lt;have hb:=b.toNat_lt;have hc:=c.toNat_lt;have hd:=d.toNat_lt;show be4 (((a.toNat*256+b.toNat)*256+c.toNat)*256+d.toNat)=[a,b,c,d];unfold be4;have e:∀x y:UInt8,x.toNat=y.toNat→x=y:=λx y h=>UInt8.toNat_inj.1 h
  congr 1
  ·apply e;simp only[UInt8.toNat_ofNat'];omega
  ·congr 1
   ·apply e;simp only[UInt8.toNat_ofNat'];omega
   ·congr 1
    ·apply e;simp only[UInt8.toNat_ofNat'];omega
    ·congr 1
     apply e;simp only[UInt8.toNat_ofNat'];omega
theorem Y9 (s:Aw):G1 s<4294967296:=by
 match s with
 | a::b::c::d::r=>
  have ha:=a.toNat_lt;have hb:=b.toNat_lt;have hc:=c.toNat_lt;have hd:=d.toNat_lt;show((a.toNat*256+b.toNat)*256+c.toNat)*256+d.toNat<_;omega
 | []=>decide
 | [_]=>show 0<_;decide
 | [_,_]=>show 0<_;decide
 | [_,_,_]=>show 0<_;decide
variable{b:Aw}
theorem Afp (h:Ae b≤262136)(r:Aw):EJ (Dk b++r)=(b,((8+Ae b:Nat):Int),0):=by
 have h1:G1 (Dk b++r)=Ae b:=by
  unfold Dk;rw[Aq4,Aq4];exact Rh Ab _
 have h2:G1 ((Dk b++r).drop 4)=R7 b:=by
  have:(Dk b++r).drop 4=be4 (R7 b)++(b++r):=by unfold Dk be4;simp
  rw[this];exact Rh (Aem b) _
 have h3:((Dk b++r).drop 8).take (Ae b)=b:=by
  have:(Dk b++r).drop 8=b++r:=by unfold Dk be4;simp
  rw[this];simp
 have hl:=Gi b;unfold EJ;rw[h1,h2,h3,Aqs,hl];rw[Aqn Ab,Aqn Ab,Aqn Ab,Aqo rfl];rfl
theorem QV (h:(EJ s).2.2=0):Ae (EJ s).1≤262136∧(EJ s).2.1=((8+Ae (EJ s).1:Nat):Int)∧s=Dk (EJ s).1++s.drop (8+Ae (EJ s).1):=by
 unfold EJ at h ⊢
 cases h1:Ac (Ae s<8) with
 | true=>rw[h1] at h;cases h
 | false=>
  rw[h1] at h;simp only[Aqr] at h ⊢
  cases h2:Ac (262136<G1 s) with
  | true=>rw[h2] at h;cases h
  | false=>
   rw[h2] at h;simp only[Aqr] at h ⊢
   cases h3:Ac (Ae s-8<G1 s) with
   | true=>rw[h3] at h;cases h
   | false=>
    rw[h3] at h;simp only[Aqr] at h ⊢
    cases h4:Ac (R7 ((s.drop 8).take (G1 s))=G1 (s.drop 4)) with
    | false=>rw[h4] at h;cases h
    | true=>
     simp only[Aqt,Aqq] at h1 h2 h3 h4;simp only[Aq5,Aqr];have hl:Ae ((s.drop 8).take (G1 s))=G1 s:=Am
     refine⟨Ab,by rw[hl],?_⟩;rw[hl];unfold Dk;rw[hl,VL Ab,h4,VL Am];rw[Aq4,Aq4,← Arq,Ard];rw[show s.drop 8=(s.drop 4).drop 4 from by rw[Arq],Ard,Ard]
theorem PG (l:List Aw):∀b∈l,8+Ae b≤Ae (l.flatMap Dk):=by
 induction l with
 | nil=>intro b hb;cases hb
 | cons c l ih=>
  intro b hb;rw[Arh,Aqs,Gi];rcases List.mem_cons.1 hb with rfl | hb
  ·omega
  ·have:=ih b hb;omega
theorem Aaq:(EJ []).2.2=14:=rfl
theorem SK:∀(l:List Aw) (n:Nat),(∀b∈l,Ae b≤262136)→Ae l≤n→Cq n (l.flatMap Dk)=(l,Ae (l.flatMap Dk))
 | [],0,_,_=>rfl
 | [],n+1,_,_=>by
  rw[Cq];show(bif Ac ((EJ []).2.2=0) then _ else _)=_;rw[Aaq];rfl
 | b::l,0,_,h=>by simp at h
 | b::l,n+1,hb,h=>by
  simp only[Aqp] at h;rw[Cq,Arh,Afp (hb b Aj)];have hd:(Dk b++l.flatMap Dk).drop (8+Ae b)=l.flatMap Dk:=by rw[← Gi b];simp
  simp only[decide_true,Aqv];rw[show(((8+Ae b:Nat):Int)).toNat=8+Ae b from Ab,hd,SK l n (λx hx=>hb x (by simp[hx])) Ab];rw[Aqs,Gi]
theorem OD:∀(n:Nat) (s:Aw),(Cq n s).2≤Ae s∧s.take (Cq n s).2=(Cq n s).1.flatMap Dk∧∀b∈(Cq n s).1,Ae b≤262136
 | 0,s=>⟨AqL _,by simp[Cq],λb hb=>by cases hb⟩
 | n+1,s=>by
  rw[Cq]
  cases h:Ac ((EJ s).2.2=0) with
  | false=>exact⟨AqL _,Aj,λb hb=>by cases hb⟩
  | true=>
   simp only[Aqv];obtain⟨h1,h2,h3⟩:=QV (Aq0 h);generalize(EJ s).1=b at *;rw[h2,show(((8+Ae b:Nat):Int)).toNat=8+Ae b from Ab];obtain⟨g1,g2,g3⟩:=OD n (s.drop (8+Ae b));generalize Cq n (s.drop (8+Ae b))=t at *;have hl:Ae s=8+Ae b+Ae (s.drop (8+Ae b)):=by
    have:=congrArg List.length h3;rw[Aqs,Gi] at this;exact this
   refine⟨Ab,?_,λx hx=>?_⟩
   ·rw[Arh,← g2]
    conv=>lhs;rw[h3]
    rw[← Gi b,List.take_length_add_append]
   ·rcases List.mem_cons.1 hx with rfl | hx
    ·exact h1
    ·exact g3 x hx
def PE (l:List Aw):Aw×Int:=bif Ac (Ae (l.flatMap Dk)≤262144) then(l.flatMap Dk,0) else([],3)
theorem Nh (s:Aw):Qv (E7 s)=s:=by
 unfold Qv E7;rw[Aro];have:((λx:Int=>Ar x.toNat) ∘ λc:UInt8=>(c.toNat:Int))=id:=by funext c;simp
 rw[this,List.map_id]
theorem XW (a b:Aw):E7 a++E7 b=E7 (a++b):=by simp[E7]
theorem AbC (a:Aw):Ae (E7 a)=Ae a:=by simp[E7]
theorem P2 (n:Nat):IntKind.wrap .u8 (n:Int)=((Ar n).toNat:Int):=by
 simp[IntKind.wrap,IntKind.signed,IntKind.bits]
theorem AoM (n:Nat):Er .i64 (n:Int) 8=((n/256:Nat):Int):=by
 unfold Er;have e:min (8:Int).toNat (IntKind.bits .i64)=8:=Al
 rw[e,Int.fdiv_eq_ediv_of_nonneg _ Al];simp
def Su (f:Aw):Aw:=Ar (Ae f/256)::Ar (Ae f % 256)::f
def HH (l:List Aw):Aw:=Ar (Ae l)::l.flatMap Su
def WR (l:List Aw):Bool:=Ac (Ae l≤64)&&l.all λf=>Ac (Ae f≤4000)
def P8 (l:List Aw):Aw×Int:=bif WR l then(HH l,0) else([],3)
theorem WO (l:List Aw)(b:List Int×Int→Option (Stp (List Int×Int) (Out (Aw×Int) (List Int))))(hl:Ae l≤64)
  (hb:∀(acc:List Int) (x:Int) (f:Aw),Ae acc≤300000→0≤x→x<(Ae l:Int)→A2 l x=f→b (acc,x)=bif Ac (4000<Ae f) then Ad (.out (.ret ([],3))) else Ad (.next (acc++E7 (Su f),x+1)))
  (he:∀acc,b (acc,(Ae l:Int))=Ad (.out (.go acc))) {F:Nat} (hF:64<F) :
  BB (Cp b F (E7 [Ar (Ae l)],0)) (Cb λq=>Ad (Qv q,0))=Ad (P8 l):=by
 have key:∀(k:Nat) (F:Nat) (acc:Aw),k<F→k≤Ae l→Ae acc≤1+(Ae l-k)*4002→
   BB (Cp b F (E7 acc,((Ae l-k:Nat):Int))) (Cb λq=>Ad (Qv q,0))=Ad (bif (l.drop (Ae l-k)).all (λf=>Ac (Ae f≤4000)) then(acc++(l.drop (Ae l-k)).flatMap Su,0) else([],3)):=by
  intro k
  induction k with
  | zero=>
   intro F acc hF _ _
   cases F with
   | zero=>omega
   | succ F=>rw[Cp,Nat.sub_zero,he];simp[BB,Cb,Nh]
  | succ k ih=>
   intro F acc hF hk hacc
   cases F with
   | zero=>omega
   | succ F=>
    have hlt:Ae l-(k+1)<Ae l:=Ab
    have hat:A2 l ((Ae l-(k+1):Nat):Int)=l[Ae l-(k+1)]:=by simp[A2,hlt]
    have hd:l.drop (Ae l-(k+1))=l[Ae l-(k+1)]::l.drop (Ae l-k):=by
     rw[List.drop_eq_getElem_cons hlt];congr 2;omega
    have ha:(Ae l-(k+1))*4002≤64*4002:=Nat.mul_le_mul_right _ Ab;rw[Cp,hb _ _ _ (by rw[AbC];omega) Ab Ab hat,hd];generalize l[Ae l-(k+1)]=f at *
    cases h4:Ac (4000<Ae f) with
    | true=>
     simp only[Aqq] at h4;rw[Are,Aqn Ab,AqN];rfl
    | false=>
     simp only[Aqt] at h4;have e2:(Ae l-(k+1))*4002+4002=(Ae l-k)*4002:=by
      rw[show (Ae l)-k=Ae l-(k+1)+1 from Ab,Nat.succ_mul]
     have:=ih F (acc++Su f) Ab Ab (by simp[Su];omega);rw[show((Ae l-(k+1):Nat):Int)+1=((Ae l-k:Nat):Int) from Ab];simp only[Aqr,XW];rw[this,Are,Aqo Ab,Aq3,Arh,Aq4]
 have:=key (Ae l) F [Ar (Ae l)] Ab (Aq7 _) Aj;simp only[Nat.sub_self,List.drop_zero] at this;refine Eq.trans this ?_;unfold P8 WR HH;rw[Aqo hl,Aq3];rfl
variable{x:Option α}
theorem L2 (h:n≤1000000000):Bc (De 1 n) x=x:=Cn (Aqo Ab)
theorem Pi (h:n≤1000000000):Bc (De 16 n) x=x:=Cn (Aqo Ab)
theorem Tc (f:Aw):Ac ((4000:Int)<(Ae f:Int))=Ac (4000<Ae f):=by rw[Aq2];simp;omega
variable{l:List Aw}
theorem Ajo (hF:64<F):Aeg F l=Ad (P8 l):=by
 unfold Aeg
 by_cases ha:Ae l≤64
 ·rw[AF (Aqn Ab),P2];refine WO l _ ha (λacc x f hacc h0 hx hat=>?_) (λacc=>?_) hF
  ·show Ls l acc x=_;unfold Ls;rw[AX (Aqo hx),Bi h0 hx,hat,Tc]
   cases h4:Ac (4000<Ae f) with
   | true=>rfl
   | false=>
    simp only[Aqt] at h4;have e1:([IntKind.wrap .u8 (Er .i64 (Ae f:Int) 8),IntKind.wrap .u8 (Ae f:Int)]:List Int)++E7 f=E7 (Su f):=by
     rw[AoM,P2,P2];simp[E7,Su]
    rw[AF rfl,L2 Am,L2 Am,AH Ab Ab,Aq4,e1];rfl
  ·show Ls l acc _=_;unfold Ls;rw[AF (Aqn Ab)]
 ·rw[AX (Aqo Ab)];unfold P8 WR;rw[Aqn ha];rfl
theorem Afh (hF:64<F):Yo F l=Ad (P8 l):=by
 unfold Yo
 by_cases ha:Ae l≤64
 ·rw[AF (Aqn Ab),P2];refine WO l _ ha (λacc x f hacc h0 hx hat=>?_) (λacc=>?_) hF
  ·show Jw l acc x=_;unfold Jw;rw[AX (Aqo hx),Bi h0 hx,hat,Tc]
   cases h4:Ac (4000<Ae f) with
   | true=>rfl
   | false=>
    simp only[Aqt] at h4;have ed:Int.tdiv (Ae f:Int) 256=((Ae f/256:Nat):Int):=by rw[Int.tdiv_eq_ediv_of_nonneg Ab];rfl
    have em:Int.tmod (Ae f:Int) 256=((Ae f % 256:Nat):Int):=by rw[Int.tmod_eq_emod_of_nonneg Ab];rfl
    have e1:([IntKind.wrap .u8 (Int.tdiv (Ae f:Int) 256),IntKind.wrap .u8 (Int.tmod (Ae f:Int) 256)]:List Int)++E7 f=E7 (Su f):=by
     rw[ed,em,P2,P2];simp[E7,Su]
    rw[AF rfl,AH (by rw[ed];omega) (by rw[ed];omega),L2 Am,L2 Am,AH Ab Ab,Aq4,e1];rfl
  ·show Jw l acc _=_;unfold Jw;rw[AF (Aqn Ab)]
 ·rw[AX (Aqo Ab)];unfold P8 WR;rw[Aqn ha];rfl
def PR:Nat→Aw→List Aw→List Aw×Int
 | 0,s,acc=>bif Ac (s=[]) then(acc,0) else([],13)
 | n+1,a::b::r,acc=>bif Ac (4000<a.toNat*256+b.toNat) then([],13) else bif Ac (Ae r<a.toNat*256+b.toNat) then([],14) else PR n (r.drop (a.toNat*256+b.toNat)) (acc++[r.take (a.toNat*256+b.toNat)])
 | n+1,_,acc=>([],14)
def KY:Aw→List Aw×Int
 | []=>([],14)
 | c::s=>bif Ac (64<c.toNat) then([],13) else PR c.toNat s []
theorem AoZ (a b:UInt8):Rt .i64 (HF .i64 (a.toNat:Int) 8) (b.toNat:Int)=((a.toNat*256+b.toNat:Nat):Int):=by
 have ha:=a.toNat_lt;have hb:=b.toNat_lt;have e0:HF .i64 (a.toNat:Int) 8=((a.toNat*256:Nat):Int):=by
  unfold HF;have e:min (8:Int).toNat (IntKind.bits .i64)=8:=Al
  rw[e,IntKind.wrap_i64];omega
 rw[e0];unfold Rt;have h1:(BitVec.ofInt (IntKind.bits .i64) ((a.toNat*256:Nat):Int)||| BitVec.ofInt (IntKind.bits .i64) (b.toNat:Int)).toNat=a.toNat*256+b.toNat:=by
  rw[BitVec.toNat_or,BitVec.toNat_ofInt,BitVec.toNat_ofInt];have hbits:IntKind.bits .i64=64:=rfl;rw[hbits];have e1:(((a.toNat*256:Nat):Int) % ((2 ^ 64:Nat):Int)).toNat=a.toNat*256:=Ab
  have e2:(((b.toNat:Nat):Int) % ((2 ^ 64:Nat):Int)).toNat=b.toNat:=Ab
  rw[e1,e2,show a.toNat*256=a.toNat <<< 8 from by rw[Nat.shiftLeft_eq]];rw[Nat.shiftLeft_add_eq_or_of_lt (by simpa using hb)]
 rw[h1,IntKind.wrap_i64];omega
theorem Anr (a:UInt8)(r:Aw):BA (a::r) 0=(a.toNat:Int):=rfl
theorem ApS (a b:UInt8)(r:Aw):BA (a::b::r) 1=(b.toNat:Int):=rfl
theorem Ajm (s:Aw)(c:UInt8)(hs:BA s 0=(c.toNat:Int)):∀(k:Nat) (F:Nat) (t:Aw) (acc:List Aw) (z i:Int),k<F→i+k=(c.toNat:Int)→0≤i→Ae acc≤64-k→k≤64→Ae t≤1000000000→
  BB (Cp (λσ=>EF s σ.1 σ.2.1 σ.2.2.1 σ.2.2.2) F (t,acc,z,i)) (Cb λν=>J9 ν.1 ν.2)=Ad (PR k t acc)
 | k,0,t,acc,z,i,h,_,_,_,_,_=>by omega
 | 0,F+1,t,acc,z,i,hF,hi,h0,ha,hk,ht=>by
  rw[Cp];have hb:EF s t acc z i=Ad (.out (.go (t,acc))):=by
   unfold EF;rw[AF (Aqn Ab)]
  simp only[hb];show J9 t acc=_;unfold J9 PR
  cases h:Ac (t=[]) with
  | true=>rw[AF (p:=!Af) rfl,C0 Ab (Aq8 _)];simp
  | false=>rfl
 | k+1,F+1,t,acc,z,i,hF,hi,h0,ha,hk,ht=>by
  rw[Cp];have hcc:=c.toNat_lt
  match t,ht with
  | [],ht=>
   have hb:EF s [] acc z i=Ad (.out (.ret ([],14))):=by
    unfold EF;rw[AX (Aqo Ab),AX Al];rfl
   simp only[hb];rfl
  | [a],ht=>
   have hb:EF s [a] acc z i=Ad (.out (.ret ([],14))):=by
    unfold EF;rw[AX (Aqo Ab),AX Aj];rfl
   simp only[hb];rfl
  | a::b::r,ht=>
   have haa:=a.toNat_lt;have hbb:=b.toNat_lt;simp only[Aqp] at ht;have hd:Ap (Ao 2) (a::b::r)=r:=rfl;have hb:EF s (a::b::r) acc z i=bif Ac (4000<a.toNat*256+b.toNat) then Ad (.out (.ret ([],13))) else bif Ac (Ae r<a.toNat*256+b.toNat) then Ad (.out (.ret ([],14))) else Ad (.next (r.drop (a.toNat*256+b.toNat),acc++[r.take (a.toNat*256+b.toNat)],((a.toNat*256+b.toNat:Nat):Int),i+1)):=by
    unfold EF;rw[AX (Aqo Ab),AF (Aqn (by simp only[Aqp];omega)),Anr,ApS,hd,AoZ];have hlen:(Ae (a::b::r):Int)=(Ae r:Int)+2:=by simp only[Aqp];omega
    rw[hlen,Bi Ab Ab,AH Ab Ab,Bi Ab Ab,AH Ab Ab,C0 Ab Ab];generalize a.toNat*256+b.toNat=m;rw[show Ac ((4000:Int)<(m:Int))=Ac (4000<m) from by rw[Aq2];simp;omega,show Ac ((Ae r:Int)<(m:Int))=Ac (Ae r<m) from by rw[Aq2];simp]
    cases h1:Ac (4000<m) with
    | true=>rfl
    | false=>
     cases h2:Ac (Ae r<m) with
     | true=>rfl
     | false=>
      simp only[Aqt] at h1 h2;rw[AF rfl,AF rfl,C0 Ab Ab,Pi Am,AH Ab Ab];rfl
   simp only[hb];rw[PR]
   cases h1:Ac (4000<a.toNat*256+b.toNat) with
   | true=>rfl
   | false=>
    cases h2:Ac (Ae r<a.toNat*256+b.toNat) with
    | true=>rfl
    | false=>
     simp only[Aqr];exact Ajm s c hs k F _ _ _ _ Ab Ab Ab Am Ab Am
theorem AcF (hF:64<F)(hs:Ae s≤1000000000):Rx F s=Ad (KY s):=by
 unfold Rx
 cases s with
 | nil=>rfl
 | cons c t=>
  have hc:=c.toNat_lt;simp only[Aqp] at hs;rw[AF Aj,Bi Ab (by simp only[Aqp];omega),Anr,AH Ab Ab,C0 Ab (by simp only[Aqp];omega)];rw[show Ac ((64:Int)<(c.toNat:Int))=Ac (64<c.toNat) from by rw[Aq2];simp;omega];rw[KY]
  cases h:Ac (64<c.toNat) with
  | true=>rfl
  | false=>
   simp only[Aqt] at h;rw[AF rfl];exact Ajm (c::t) c rfl c.toNat F t [] 0 0 Ab Ab (Aq8 0) Aj Ab Ab
theorem RA {k:Nat}{a:UInt8}{r:Aw}(h:s.drop k=a::r):BA s (k:Int)=(a.toNat:Int):=by
 have:s[k]? =Ad a:=by rw[← List.head?_drop,h];rfl
 simp[BA,this]
theorem AbZ {c a b:UInt8}{r:Aw}{p:Nat}{acc:List Aw}{i:Int}(hs:BA s 0=(c.toNat:Int))(hsl:Ae s≤1000000000)(hd:s.drop p=a::b::r)(hi:i<(c.toNat:Int))(h0:0≤i)(ha:Ae acc≤64) :
  Ed s acc (p:Int) i=bif Ac (4000<a.toNat*256+b.toNat) then Ad (.out (.ret ([],13))) else bif Ac (Ae r<a.toNat*256+b.toNat) then Ad (.out (.ret ([],14))) else Ad (.next (acc++[r.take (a.toNat*256+b.toNat)],((p+2+(a.toNat*256+b.toNat):Nat):Int),i+1)):=by
 have hcc:=c.toNat_lt;have haa:=a.toNat_lt;have hbb:=b.toNat_lt;have hdl:Ae (s.drop p)=Ae s-p:=AqO ..;rw[hd] at hdl;simp only[Aqp] at hdl;have hd1:s.drop (p+1)=b::r:=by rw[← Arq,hd];rfl
 have hd2:s.drop (p+2)=r:=by rw[← Arq,hd];rfl
 have b1:BA s ((p:Int)+1)=(b.toNat:Int):=by rw[show(p:Int)+1=((p+1:Nat):Int) from Ab];exact RA hd1
 unfold Ed;rw[hs,AX (Aqo hi),AH Ab Ab,AF (Aqn Ab),RA hd,b1];have e1:(a.toNat:Int)*256+(b.toNat:Int)=((a.toNat*256+b.toNat:Nat):Int):=Ab
 rw[Bi Ab Ab,AH Ab Ab,AH Ab Ab,AH Ab Ab,Bi Ab Ab,AH Ab Ab,AH Ab Ab,e1];have hm2:a.toNat*256+b.toNat≤100000:=Ab
 generalize a.toNat*256+b.toNat=m at *;have e2:(Ae s:Int)-(p:Int)-2=(Ae r:Int):=Ab
 have e3:(p:Int)+2+(m:Int)=((p+2+m:Nat):Int):=Ab
 have e4:Ao ((p:Int)+2)=p+2:=Ab
 rw[e2,e3,e4,hd2,show Ac ((4000:Int)<(m:Int))=Ac (4000<m) from by rw[Aq2];simp;omega,show Ac ((Ae r:Int)<(m:Int))=Ac (Ae r<m) from by rw[Aq2];simp]
 cases h1:Ac (4000<m) with
 | true=>rw[AX rfl,Aqv]
 | false=>
  rw[AF rfl,Aqr,AH Ab Ab]
  cases h2:Ac (Ae r<m) with
  | true=>rw[AX rfl,Aqv]
  | false=>
   simp only[Aqt] at h1 h2;rw[AF rfl,Aqr,AH Ab Ab,AH Ab Ab,C0 Ab Ab,C0 Ab Ab,Pi Am,AH Ab Ab];rw[show(((p+2+m:Nat):Int)).toNat-(p+2)=m from Ab]
theorem AkD (s:Aw)(c:UInt8)(hs:BA s 0=(c.toNat:Int))(hsl:Ae s≤1000000000)(k:Nat):∀(F:Nat) (p:Nat) (acc:List Aw) (i:Int),k<F→i+k=(c.toNat:Int)→0≤i→Ae acc≤64-k→k≤64→p≤Ae s→
  BB (Cp (λσ=>Ed s σ.1 σ.2.1 σ.2.2) F (acc,(p:Int),i)) (Cb λν=>IB s ν.1 ν.2)=Ad (PR k (s.drop p) acc):=by
 induction k with
 | zero=>
  intro F p acc i hF hi h0 ha hk hp;obtain⟨F,rfl⟩:∃G,F=G+1:=⟨F-1,Ab⟩
  rw[Cp];have hb:Ed s acc (p:Int) i=Ad (.out (.go (acc,(p:Int)))):=by
   unfold Ed;rw[AF (Aqn Ab)]
  simp only[hb];show IB s acc p=_;unfold IB PR;rw[show Ac ((p:Int)<(Ae s:Int)) = !Ac (s.drop p=[]) from by rw[Aq2];simp]
  cases h:Ac (s.drop p=[])<;>rfl
 | succ k ih=>
  intro F p acc i hF hi h0 ha hk hp;obtain⟨F,rfl⟩:∃G,F=G+1:=⟨F-1,Ab⟩
  rw[Cp];have hcc:=c.toNat_lt;have hdl:Ae (s.drop p)=Ae s-p:=AqO ..
  match hd:s.drop p with
  | []=>
   rw[hd] at hdl;simp only[Ari] at hdl;have hb:Ed s acc (p:Int) i=Ad (.out (.ret ([],14))):=by
    unfold Ed;rw[AX (Aqo Ab),AH Ab Ab,AX (Aqo Ab)]
   simp only[hb];rfl
  | [a]=>
   rw[hd] at hdl;simp only[Aqp,Ari] at hdl;have hb:Ed s acc (p:Int) i=Ad (.out (.ret ([],14))):=by
    unfold Ed;rw[AX (Aqo Ab),AH Ab Ab,AX (Aqo Ab)]
   simp only[hb];rfl
  | a::b::r=>
   have hd2:s.drop (p+2)=r:=by rw[← Arq,hd];rfl
   have hb:=AbZ (acc:=acc) (i:=i) hs hsl hd Ab h0 Ab;simp only[hb];rw[hd] at hdl;simp only[Aqp] at hdl;rw[PR];generalize a.toNat*256+b.toNat=m
   cases h1:Ac (4000<m) with
   | true=>simp only[Aqv];rfl
   | false=>
    cases h2:Ac (Ae r<m) with
    | true=>simp only[Aqv,Aqr];rfl
    | false=>
     simp only[Aqt] at h1 h2;simp only[Aqr];have:=ih F (p+2+m) (acc++[r.take m]) (i+1) Ab Ab Ab (by rw[Aqs];simp only[Aqp,Ari];omega) Ab Ab;rw[← Arq,hd2] at this;exact this
theorem Aae (hF:64<F)(hs:Ae s≤1000000000):QL F s=Ad (KY s):=by
 unfold QL
 cases s with
 | nil=>rfl
 | cons c t=>
  have hc:=c.toNat_lt;simp only[Aqp] at hs;rw[AF (Aqn Am),Bi Ab (by simp only[Aqp];omega),Anr];rw[show Ac ((64:Int)<(c.toNat:Int))=Ac (64<c.toNat) from by rw[Aq2];simp;omega];rw[KY]
  cases h:Ac (64<c.toNat) with
  | true=>rfl
  | false=>
   simp only[Aqt] at h;rw[AF rfl,AH Ab Ab];exact AkD (c::t) c rfl Am c.toNat F 1 [] 0 Ab Ab (Aq8 0) Aj Ab Aj
theorem Wv:∀(l:List Aw) (acc:List Aw),(l.all λf=>Ac (Ae f≤4000))=Af→PR (Ae l) (l.flatMap Su) acc=(acc++l,0)
 | [],acc,_=>by simp[PR]
 | f::l,acc,h=>by
  simp only[Are,Aqu,Aqq] at h;rw[Arh,Aqp];show PR (Ae l+1) (Ar (Ae f/256)::Ar (Ae f % 256)::(f++l.flatMap Su)) acc=_;rw[PR];have e:(Ar (Ae f/256)).toNat*256+(Ar (Ae f % 256)).toNat=Ae f:=by
   simp only[UInt8.toNat_ofNat'];omega
  rw[e,Aqn Ab,Aqn Aj,Aqr,Aqr,List.take_left,List.drop_left,Wv l _ (by simpa using h.2)];simp
theorem ZD (h:WR l=Af):KY (HH l)=(l,0):=by
 unfold WR at h;simp only[Aqu,Aqq] at h;unfold HH;rw[KY];have e:(Ar (Ae l)).toNat=Ae l:=by simp only[UInt8.toNat_ofNat'];omega
 rw[e,Aqn Ab,Aqr,Wv l [] h.2];rfl
theorem ZE:∀(n:Nat) (s:Aw) (acc:List Aw) (q:List Aw),PR n s acc=(q,0)→∃l,q=acc++l∧Ae l=n∧(l.all λf=>Ac (Ae f≤4000))=Af∧l.flatMap Su=s
 | 0,s,acc,q,h=>by
  rw[PR] at h
  cases hs:Ac (s=[]) with
  | true=>rw[hs] at h;simp only[Aqv,Prod.mk.injEq] at h;exact⟨[],by simp[h.1],rfl,rfl,by rw[Aq0 hs];rfl⟩
  | false=>rw[hs] at h;cases h
 | n+1,[],acc,q,h=>by have h2:(([]:List Aw),(14:Int))=(q,0):=h;cases h2
 | n+1,[a],acc,q,h=>by have h2:(([]:List Aw),(14:Int))=(q,0):=h;cases h2
 | n+1,a::b::r,acc,q,h=>by
  rw[PR] at h;have ha:=a.toNat_lt;have hb:=b.toNat_lt
  cases h1:Ac (4000<a.toNat*256+b.toNat) with
  | true=>rw[h1] at h;cases h
  | false=>
   cases h2:Ac (Ae r<a.toNat*256+b.toNat) with
   | true=>rw[h1,h2] at h;cases h
   | false=>
    rw[h1,h2] at h;simp only[Aqr] at h;simp only[Aqt] at h1 h2;obtain⟨l,e1,e2,e3,e4⟩:=ZE n _ _ _ h;have hl:Ae (r.take (a.toNat*256+b.toNat))=a.toNat*256+b.toNat:=Am
    refine⟨r.take (a.toNat*256+b.toNat)::l,by rw[e1];simp,by simp[e2],?_,?_⟩
    ·rw[Are,e3,AqQ,Aqq,hl];omega
    ·rw[Arh,e4];unfold Su;rw[hl];have x1:Ar ((a.toNat*256+b.toNat)/256)=a:=by
      apply UInt8.toNat_inj.1;simp only[UInt8.toNat_ofNat'];omega
     have x2:Ar ((a.toNat*256+b.toNat) % 256)=b:=by
      apply UInt8.toNat_inj.1;simp only[UInt8.toNat_ofNat'];omega
     rw[x1,x2];simp
theorem AhN (h:KY s=(l,0)):WR l=Af∧HH l=s:=by
 cases s with
 | nil=>cases h
 | cons c t=>
  rw[KY] at h
  cases h1:Ac (64<c.toNat) with
  | true=>rw[h1] at h;cases h
  | false=>
   rw[h1] at h;simp only[Aqr] at h;simp only[Aqt] at h1;obtain⟨l',e1,e2,e3,e4⟩:=ZE _ _ _ _ h;simp only[AqH] at e1;subst e1;unfold WR HH;rw[e3,e4,e2,Aqo Ab];exact⟨rfl,Aj⟩
theorem AeC {f:Aw}(h:f∈(KY s).1)(h0:(KY s).2=0):Ae f≤4000:=by
 have:=(AhN (s:=s) (l:=(KY s).1) (by rw[← h0])).1;unfold WR at this;simp only[Aqu,Aqq,AqX] at this;exact this.2 f h
def tb (i:Nat):Int:=nv (Zj 8 (BitVec.ofNat 32 i))
def NB (x:Nat):List Int:=(As 256).map λi=>if i<x then tb i else 0
theorem NL (x:Nat):Ae (NB x)=256:=by simp[NB]
theorem Ahi {x:Nat}(h:x<256):(NB x).set x (tb x)=NB (x+1):=by
 apply List.ext_getElem (by simp[NB]);intro i h1 h2;simp only[NB,List.getElem_set,List.getElem_map,List.getElem_range]
 by_cases e:x=i
 ·subst e;simp
 ·rw[AqM e]
  by_cases g:i<x
  ·rw[Arc g,Arc Ab]
  ·rw[AqM g,AqM Ab]
theorem Am0:NB 0=Au 256 (0:Int):=by
 apply List.ext_getElem
 ·rw[NL,List.length_replicate]
 ·intro i h1 h2;rw[List.getElem_replicate];simp only[NB,List.getElem_map,List.getElem_range,Nat.not_lt_zero,Arl]
theorem Ans (h:i<256):A2 (NB 256) (i:Int)=tb i:=by simp[A2,NB,h]
theorem AiX (k:Nat):∀(n:Nat) (b:BitVec 32) (x:Int),0≤x→x+k=8→k<n→Cp (λσ:Int×Int=>KI σ.1 σ.2) n (nv b,x)=Ad (.go (nv (Zj k b),8,Ah)):=by
 induction k with
 | zero=>
  intro n b x h0 h hn;obtain⟨n,rfl⟩:∃m,n=m+1:=⟨n-1,Ab⟩
  have:x=8:=Ab
  subst this;rfl
 | succ k ih=>
  intro n b x h0 h hn;obtain⟨n,rfl⟩:∃m,n=m+1:=⟨n-1,Ab⟩
  have hb:KI (nv b) x=Ad (.next (nv (sB b),x+1)):=by
   unfold KI;rw[AX (Aqo Ab),AH Ab Ab,ZL]
  rw[Cp,hb];exact ih n (sB b) (x+1) Ab Ab Ab
theorem Ah2 (k:Nat):∀(n:Nat) (b:BitVec 32) (x:Int),0≤x→x+k=8→k<n→Cp (λσ:Int×Int=>Mz σ.1 σ.2) n (nv b,x)=Ad (.go (nv (Zj k b),8,8,Ah)):=by
 induction k with
 | zero=>
  intro n b x h0 h hn;obtain⟨n,rfl⟩:∃m,n=m+1:=⟨n-1,Ab⟩
  have:x=8:=Ab
  subst this;rfl
 | succ k ih=>
  intro n b x h0 h hn;obtain⟨n,rfl⟩:∃m,n=m+1:=⟨n-1,Ab⟩
  have hb:Mz (nv b) x=Ad (.next (nv (sB b),x+1)):=by
   unfold Mz;rw[AX (Aqo Ab),AH Ab Ab,ZL]
  rw[Cp,hb];exact ih n (sB b) (x+1) Ab Ab Ab
theorem Ab0 (n:Nat):IntKind.wrap .u32 (n:Int)=nv (BitVec.ofNat 32 n):=by
 unfold nv;rw[BitVec.toNat_ofNat];simp[IntKind.wrap,IntKind.signed,IntKind.bits]
theorem AaR (hF:8<F)(k:Nat):∀(n:Nat) (x:Nat),x+k=256→k<n→Cp (λσ:Int×List Int=>KJ F σ.1 σ.2) n ((x:Int),NB x)=Ad (.go (NB 256)):=by
 induction k with
 | zero=>
  intro n x h hn;obtain⟨n,rfl⟩:∃m,n=m+1:=⟨n-1,Ab⟩
  have:x=256:=Ab
  subst this;rfl
 | succ k ih=>
  intro n x h hn;obtain⟨n,rfl⟩:∃m,n=m+1:=⟨n-1,Ab⟩
  have hb:KJ F (x:Int) (NB x)=Ad (.next (((x+1:Nat):Int),NB (x+1))):=by
   unfold KJ;rw[AX (Aqo Ab),Ab0,Bu (AiX 8 F _ 0 Ab Ab hF),EX];unfold Pd;rw[show nv (Zj 8 (BitVec.ofNat 32 x))=tb x from rfl];rw[Bi Ab Ab,Bi Ab (by rw[NL];omega),AH Ab Ab,Int.toNat_natCast,Ahi Ab];rfl
  rw[Cp,hb];exact ih n (x+1) Ab Ab
theorem Agd (hF:300<F):V2 F=Ad (NB 256):=by
 unfold V2;have:=AaR (F:=F) Ab 256 F 0 Ab Ab;rw[Am0] at this;rw[show((0:Int),Au 256 (0:Int))=(((0:Nat):Int),Au 256 (0:Int)) from rfl,Bu this,EX];unfold Pe;rw[Cn (Aqo (NL 256)),Cn (Aqo List.length_replicate)]
theorem O0 [Inhabited α]{l:List α}{b:α}{r:List α}(h:l.drop i=b::r):A2 l (i:Int)=b∧i<Ae l∧l.drop (i+1)=r:=by
 have hl:i<Ae l:=by
  have:=congrArg List.length h;simp only[AqO,Aqp] at this;omega
 have hg:l[i]? =Ad b:=by
  have:=congrArg (λt=>t[0]?) h;simpa using this
 refine⟨by simp[A2,hg],hl,?_⟩;rw[← Arq,h];rfl
theorem Aj9 (b:BitVec 32)(c:UInt8):Kn .u8 (IntKind.wrap .u8 (nv b)) (c.toNat:Int)=(((b^^^LS c).toNat % 256:Nat):Int):=by
 have hc:=c.toNat_lt;have e1:IntKind.wrap .u8 (nv b)=((b.toNat % 256:Nat):Int):=by
  unfold nv;simp[IntKind.wrap,IntKind.signed,IntKind.bits]
 have h1:(BitVec.ofInt (IntKind.bits .u8) ((b.toNat % 256:Nat):Int)^^^BitVec.ofInt (IntKind.bits .u8) (c.toNat:Int)).toNat=(b^^^LS c).toNat % 256:=by
  rw[BitVec.toNat_xor,BitVec.toNat_ofInt,BitVec.toNat_ofInt,BitVec.toNat_xor];have hbits:IntKind.bits .u8=8:=rfl;have e1:(((b.toNat % 256:Nat):Int) % ((2 ^ 8:Nat):Int)).toNat=b.toNat % 256:=Ab
  have e2:(((c.toNat:Nat):Int) % ((2 ^ 8:Nat):Int)).toNat=c.toNat % 256:=Ab
  have e3:(LS c).toNat=c.toNat:=by unfold LS;rw[BitVec.toNat_ofNat];omega
  rw[hbits,e1,e2,e3];exact(Nat.xor_mod_two_pow (n:=8)).symm
 unfold Kn;rw[e1,h1];simp[IntKind.wrap,IntKind.signed,IntKind.bits]
theorem Um (b:BitVec 32)(c:UInt8):(b^^^LS c)>>>8=b>>>8:=by
 rw[BitVec.ushiftRight_xor_distrib];have:LS c>>>8=0#32:=by
  apply BitVec.eq_of_toNat_eq;have hc:=c.toNat_lt;rw[BitVec.toNat_ushiftRight,Nat.shiftRight_eq_div_pow];unfold LS;rw[BitVec.toNat_ofNat];show c.toNat % 4294967296/256=0;omega
 rw[this];simp
theorem Ai2 (z:BitVec 32):BitVec.ofNat 32 (z.toNat % 256)=z&&& 255#32:=by
 apply BitVec.eq_of_toNat_eq;have hz:=z.isLt;rw[BitVec.toNat_ofNat,BitVec.toNat_and];have:z.toNat&&& 255=z.toNat % 256:=Nat.and_two_pow_sub_one_eq_mod z.toNat 8;show z.toNat % 256 % 4294967296=z.toNat&&& 255;rw[this];omega
theorem Aj3 (b:BitVec 32)(c:UInt8):Kn .u32 (tb ((b^^^LS c).toNat % 256)) (Er .u32 (nv b) 8)=nv (Zj 8 (b^^^LS c)):=by
 unfold tb;have hs:Er .u32 (nv b) 8=nv (b>>>8):=AdW (n:=8) Ab b;rw[hs,TN,VI,VI,Ai2,← Um b c,← AeL]
theorem Aim (b:BitVec 32):Ac9 .u32 (nv b)=((~~~b).toNat:Int):=by
 show Kn .u32 4294967295 (nv b)=_;rw[TN,VI];have:bv 4294967295=BitVec.allOnes 32:=Al
 rw[this,BitVec.allOnes_xor];rfl
theorem X1 (s:Aw):∀(r:Aw) (n i:Nat) (b:BitVec 32),s.drop i=r→Ae s≤1000000000→Ae r<n→i≤Ae s→Cp (λσ:Int×Int=>LN s (NB 256) σ.1 σ.2) n (nv b,(i:Int))=Ad (.go (nv (AcJ b r)))
 | [],n,i,b,h,hs,hn,hi=>by
  obtain⟨n,rfl⟩:∃m,n=m+1:=⟨n-1,by simp at hn;omega⟩
  have:Ae s≤i:=by simpa using h
  have hb:LN s (NB 256) (nv b) (i:Int)=Ad (.out (.go (nv b))):=by
   unfold LN;rw[AF (Aqn Ab)]
  rw[Cp,hb];rfl
 | c::r,n,i,b,h,hs,hn,hi=>by
  obtain⟨n,rfl⟩:∃m,n=m+1:=⟨n-1,by simp at hn;omega⟩
  obtain⟨_,hl,hd⟩:=O0 h;have hbt:=RA h;have hz:(b^^^LS c).toNat % 256<256:=Ab
  have hb:LN s (NB 256) (nv b) (i:Int)=Ad (.next (nv (Zj 8 (b^^^LS c)),((i+1:Nat):Int))):=by
   unfold LN;rw[AX (Aqo Ab),Bi Ab Ab,hbt,Aj9,Bi Ab Ab,Bi Ab (by rw[NL];omega),AH Ab Ab,Ans hz,Aj3];rfl
  rw[Cp,hb];exact X1 s r n (i+1) _ hd hs (by simp at hn;omega) Ab
theorem AdY (hF:300<F)(hs:Ae s<F)(hl:Ae s≤1000000000):Aja F s=Ad (R7 s:Int):=by
 unfold Aja;rw[Bu (Agd hF),Cn (Aqo List.length_replicate),Cn (Aqo (NL 256))];rw[show((4294967295:Int),(0:Int))=(nv 4294967295#32,((0:Nat):Int)) from rfl,Bu (X1 s s F 0 _ rfl hl hs Ab)];show Ad (Ac9 .u32 (nv (AcJ 4294967295#32 s)))=_;rw[Aim];rfl
theorem US {F:Nat}(hF:8<F)(s:Aw):∀(r:Aw) (n i:Nat) (b:BitVec 32),s.drop i=r→Ae s≤1000000000→Ae r<n→i≤Ae s→Cp (λσ:Int×Int=>JV F s σ.1 σ.2) n (nv b,(i:Int))=Ad (.go (nv (AcJ b r)))
 | [],n,i,b,h,hs,hn,hi=>by
  obtain⟨n,rfl⟩:∃m,n=m+1:=⟨n-1,by simp at hn;omega⟩
  have:Ae s≤i:=by simpa using h
  have hb:JV F s (nv b) (i:Int)=Ad (.out (.go (nv b))):=by
   unfold JV;rw[AF (Aqn Ab)]
  rw[Cp,hb];rfl
 | c::r,n,i,b,h,hs,hn,hi=>by
  obtain⟨n,rfl⟩:∃m,n=m+1:=⟨n-1,by simp at hn;omega⟩
  obtain⟨_,hl,hd⟩:=O0 h;have hbt:=RA h;have e:Kn .u32 (nv b) (IntKind.wrap .u32 (c.toNat:Int))=nv (b^^^LS c):=by
   rw[Ab0,TN,VI,VI];rfl
  have hb:JV F s (nv b) (i:Int)=Ad (.next (nv (Zj 8 (b^^^LS c)),((i+1:Nat):Int))):=by
   unfold JV;rw[AX (Aqo Ab),Bi Ab Ab,hbt,e,Bu (Ah2 8 F _ 0 Ab Ab hF),EX];unfold QP;rw[AH Ab Ab];rfl
  rw[Cp,hb];exact US hF s r n (i+1) _ hd hs (by simp at hn;omega) Ab
theorem Aaf (hF:300<F)(hs:Ae s<F)(hl:Ae s≤1000000000):Aag F s=Ad (R7 s:Int):=by
 unfold Aag;rw[show((4294967295:Int),(0:Int))=(nv 4294967295#32,((0:Nat):Int)) from rfl,Bu (US Ab s s F 0 _ rfl hl hs Ab)];show Ad (Ac9 .u32 (nv (AcJ 4294967295#32 s)))=_;rw[Aim];rfl
theorem Ahu (n k:Nat)(h:k≤32):Er .u32 (n:Int) (k:Int)=((n/2 ^ k:Nat):Int):=by
 unfold Er;have e:min (k:Int).toNat (IntKind.bits .u32)=k:=by
  have:IntKind.bits .u32=32:=rfl;rw[this];omega
 rw[e,Int.fdiv_eq_ediv_of_nonneg _ (Int.pow_nonneg Ab)];simp
theorem AaS (n:Nat):([IntKind.wrap .u8 (Er .u32 (n:Int) 24),IntKind.wrap .u8 (Er .u32 (n:Int) 16),IntKind.wrap .u8 (Er .u32 (n:Int) 8),IntKind.wrap .u8 (n:Int)]:List Int)=E7 (be4 n):=by
 have ha:Er .u32 (n:Int) 24=((n/16777216:Nat):Int):=Ahu n 24 Ab;have hb:Er .u32 (n:Int) 16=((n/65536:Nat):Int):=Ahu n 16 Ab;have h8:Er .u32 (n:Int) 8=((n/256:Nat):Int):=Ahu n 8 Ab;rw[ha,hb,h8,P2,P2,P2,P2];rfl
theorem V7 (n:Nat):Ph (n:Int)=Ad (be4 n):=by
 unfold Ph;rw[AaS,Nh]
theorem RT (n:Nat):Qa (n:Int)=Ad (E7 (be4 n)):=by
 unfold Qa;rw[AaS]
theorem MS (h:n<4294967296):IntKind.wrap .u32 (n:Int)=(n:Int):=by
 rw[Ab0];unfold nv;rw[BitVec.toNat_ofNat];omega
theorem Anc (x y:Int):Rt .u32 x y=nv (bv x||| bv y):=XO (bv x||| bv y)
theorem YM {x y:Nat}(hx:x<4294967296)(hy:y<4294967296):Rt .u32 (x:Int) (y:Int)=((x||| y:Nat):Int):=by
 rw[Anc];unfold nv;rw[BitVec.toNat_or];have e:∀z:Nat,z<4294967296→(bv (z:Int)).toNat=z:=λz hz=>by
  have:=Amc (x:=(z:Int)) ⟨Ab,Ab⟩;unfold nv at this;exact Int.ofNat_inj.1 this
 rw[e x hx,e y hy]
theorem Ahv {k:Nat}(h:k≤32)(hn:n*2 ^ k<4294967296):HF .u32 (n:Int) (k:Int)=((n <<< k:Nat):Int):=by
 unfold HF;have e:min (k:Int).toNat (IntKind.bits .u32)=k:=by
  have:IntKind.bits .u32=32:=rfl;rw[this];omega
 rw[e,Nat.shiftLeft_eq,show(n:Int)*2 ^ k=((n*2 ^ k:Nat):Int) from Aj,MS hn]
theorem AmA {a b c d:Nat}(ha:a<256)(hb:b<256)(hc:c<256)(hd:d<256):((a <<< 24||| b <<< 16)||| c <<< 8)||| d=((a*256+b)*256+c)*256+d:=by
 have e1:a <<< 24||| b <<< 16=(a*256+b) <<< 16:=by
  rw[← Nat.shiftLeft_add_eq_or_of_lt (by rw[Nat.shiftLeft_eq];omega)];simp only[Nat.shiftLeft_eq];omega
 have e2:(a*256+b) <<< 16||| c <<< 8=((a*256+b)*256+c) <<< 8:=by
  rw[← Nat.shiftLeft_add_eq_or_of_lt (by rw[Nat.shiftLeft_eq];omega)];simp only[Nat.shiftLeft_eq];omega
 rw[e1,e2,← Nat.shiftLeft_add_eq_or_of_lt Ab];simp only[Nat.shiftLeft_eq]
theorem V5 (h:4≤Ae s):Rz s=Ad (G1 s:Int):=by
 match s,h with
 | a::b::c::d::r,_=>
  have ha:=a.toNat_lt;have hb:=b.toNat_lt;have hc:=c.toNat_lt;have hd:=d.toNat_lt;unfold Rz;rw[Bi Ab (by simp only[Aqp];omega),Bi Ab (by simp only[Aqp];omega),Bi Ab (by simp only[Aqp];omega),Bi Ab (by simp only[Aqp];omega)];have b0:BA (a::b::c::d::r) 0=(a.toNat:Int):=rfl;have b1:BA (a::b::c::d::r) 1=(b.toNat:Int):=rfl;have b2:BA (a::b::c::d::r) 2=(c.toNat:Int):=rfl;have b3:BA (a::b::c::d::r) 3=(d.toNat:Int):=rfl;have s1:HF .u32 (a.toNat:Int) 24=((a.toNat <<< 24:Nat):Int):=Ahv (k:=24) Ab Ab;have s2:HF .u32 (b.toNat:Int) 16=((b.toNat <<< 16:Nat):Int):=Ahv (k:=16) Ab Ab;have s3:HF .u32 (c.toNat:Int) 8=((c.toNat <<< 8:Nat):Int):=Ahv (k:=8) Ab Ab;have l1:a.toNat <<< 24<4294967296:=by rw[Nat.shiftLeft_eq];omega
  have l2:b.toNat <<< 16<4294967296:=by rw[Nat.shiftLeft_eq];omega
  have l3:c.toNat <<< 8<4294967296:=by rw[Nat.shiftLeft_eq];omega
  rw[b0,b1,b2,b3,MS Ab,MS Ab,MS Ab,MS Ab,s1,s2,s3,YM l1 l2,YM (Nat.or_lt_two_pow (n:=32) l1 l2) l3,YM (Nat.or_lt_two_pow (n:=32) (Nat.or_lt_two_pow (n:=32) l1 l2) l3) Ab,AmA ha hb hc hd];rfl
theorem G3 (n:Nat):Ae (be4 n)=4:=rfl
theorem Ew (s:Aw):Ae (E7 s)=Ae s:=by simp[E7]
theorem AaW (hF:262200<F)(b:Aw):X5 F b=Ad (bif Ac (262136<Ae b) then([],3) else(Dk b,0)):=by
 unfold X5
 cases h:Ac (262136<Ae b) with
 | true=>rw[AX (Aqo (by have:=Aq0 h;omega))];rfl
 | false=>
  have h':=AqS h;rw[AF (Aqn Ab),MS Ab,Bu (V7 _),Bu (AdY Ab Ab Ab),Bu (V7 _)];rw[AH (by rw[G3,G3];omega) (by rw[G3,G3];omega),AH (by rw[Aqs,G3,G3];omega) (by rw[Aqs,G3,G3];omega)];rfl
theorem Afg (hF:262200<F)(b:Aw):UQ F b=Ad (bif Ac (262136<Ae b) then([],3) else(Dk b,0)):=by
 unfold UQ
 cases h:Ac (262136<Ae b) with
 | true=>rw[AX (Aqo (by have:=Aq0 h;omega))];rfl
 | false=>
  have h':=AqS h;rw[AF (Aqn Ab),MS Ab,Bu (RT _),Bu (Aaf Ab Ab Ab),Bu (RT _)];rw[Nh,Nh,AH (by rw[G3,G3];omega) (by rw[G3,G3];omega),AH (by rw[Aqs,G3,G3];omega) (by rw[Aqs,G3,G3];omega)];rfl
theorem Ae4 (h:n<4294967296):IntKind.wrap .i64 (n:Int)=(n:Int):=by rw[IntKind.wrap_i64];omega
theorem Aj1 (s:Aw)(n:Nat):Aq (Ao (8+(n:Int))-Ao 8) (Ap (Ao 8) s)=(s.drop 8).take n:=by
 rw[show Ao (8+(n:Int))-Ao 8=n from Ab];rfl
theorem Ajp (hF:262200<F)(hs:Ae s≤1000000000):Aeh F s=Ad (EJ s):=by
 unfold Aeh EJ
 cases h1:Ac (Ae s<8) with
 | true=>rw[AX (Aqo (by have:=Aq0 h1;omega))];rfl
 | false=>
  have h1':=AqS h1;have hn:=Y9 s;rw[AF (Aqn Ab),Bu (V5 Ab),Ae4 hn];simp only[Aqr]
  cases h2:Ac (262136<G1 s) with
  | true=>rw[AX (Aqo (by have:=Aq0 h2;omega))];rfl
  | false=>
   have h2':=AqS h2;rw[AF (Aqn Ab),AH Ab Ab];simp only[Aqr]
   cases h3:Ac (Ae s-8<G1 s) with
   | true=>rw[AX (Aqo (by have:=Aq0 h3;omega))];rfl
   | false=>
    have h3':=AqS h3;rw[AF (Aqn Ab),AH Ab Ab,C0 Ab Ab,C0 Ab Ab,Aj1];have hl:Ae ((s.drop 8).take (G1 s))=G1 s:=Am
    rw[Bu (AdY Ab (by rw[hl];omega) (by rw[hl];omega)),C0 Ab Ab,Bu (V5 Am)];simp only[Aqr];rw[show Ac (((R7 ((s.drop 8).take (G1 s)):Nat):Int)=((G1 (Ap (Ao 4) s):Nat):Int))=Ac (R7 ((s.drop 8).take (G1 s))=G1 (s.drop 4)) from by rw[Aq2];simp only[Aqq];exact Int.ofNat_inj]
    cases Ac (R7 ((s.drop 8).take (G1 s))=G1 (s.drop 4)) with
    | true=>rfl
    | false=>rfl
theorem Afi (hF:262200<F)(hs:Ae s≤1000000000):Yp F s=Ad (EJ s):=by
 unfold Yp EJ
 cases h1:Ac (Ae s<8) with
 | true=>rw[AX (Aqo (by have:=Aq0 h1;omega))];rfl
 | false=>
  have h1':=AqS h1
  match s,h1',hs with
  | a::b::c::d::r,h1',hs=>
   have ha:=a.toNat_lt;have hb:=b.toNat_lt;have hc:=c.toNat_lt;have hd:=d.toNat_lt;generalize hS:a::b::c::d::r=s at *;have b0:BA s 0=(a.toNat:Int):=by rw[← hS];rfl
   have b1:BA s 1=(b.toNat:Int):=by rw[← hS];rfl
   have b2:BA s 2=(c.toNat:Int):=by rw[← hS];rfl
   have b3:BA s 3=(d.toNat:Int):=by rw[← hS];rfl
   have hn:G1 s=((a.toNat*256+b.toNat)*256+c.toNat)*256+d.toNat:=by rw[← hS];rfl
   have hnI:((((((a.toNat:Int)*256)+(b.toNat:Int))*256)+(c.toNat:Int))*256)+(d.toNat:Int)=((G1 s:Nat):Int):=by rw[hn];omega
   have hlt:=Y9 s;have hlt2:=Y9 (s.drop 4);rw[AF (Aqn Ab),b0,b1,b2,b3];rw[Bi Ab Ab,AH Ab Ab,AH Ab Ab,Bi Ab Ab,AH Ab Ab,AH Ab Ab,AH Ab Ab,Bi Ab Ab,AH Ab Ab,AH Ab Ab,AH Ab Ab,Bi Ab Ab,AH Ab Ab,AH Ab Ab];rw[hnI];simp only[Aqr]
   cases h2:Ac (262136<G1 s) with
   | true=>rw[AX (Aqo (by have:=Aq0 h2;omega))];rfl
   | false=>
    have h2':=AqS h2;rw[AF (Aqn Ab),AH Ab Ab];simp only[Aqr]
    cases h3:Ac (Ae s-8<G1 s) with
    | true=>rw[AX (Aqo (by have:=Aq0 h3;omega))];rfl
    | false=>
     have h3':=AqS h3;rw[AF (Aqn Ab),AH Ab Ab,C0 Ab Ab,C0 Ab Ab,Aj1];have hl:Ae ((s.drop 8).take (G1 s))=G1 s:=Am
     rw[Bu (Aaf Ab (by rw[hl];omega) (by rw[hl];omega)),Bu (RT _),C0 Ab Ab,C0 Ab Ab,Nh];simp only[Aqr];rw[show Aq (Ao 8-Ao 4) (Ap (Ao 4) s)=be4 (G1 (s.drop 4)) from(VL Am).symm];rw[show Ac (be4 (R7 ((s.drop 8).take (G1 s)))=be4 (G1 (s.drop 4)))=Ac (R7 ((s.drop 8).take (G1 s))=G1 (s.drop 4)) from by
      rw[Aq2];simp only[Aqq];constructor
      ·intro e;have e1:=Rh (Aem ((s.drop 8).take (G1 s))) [];have e2:=Rh hlt2 [];rw[e] at e1;exact e1.symm.trans e2
      ·intro e;rw[e]]
     cases Ac (R7 ((s.drop 8).take (G1 s))=G1 (s.drop 4)) with
     | true=>rfl
     | false=>rfl
  | [],h1',_=>exact absurd Aj h1'
  | [_],h1',_=>exact absurd Aj h1'
  | [_,_],h1',_=>exact absurd Aj h1'
  | [_,_,_],h1',_=>exact absurd Aj h1'
theorem PT {O:Type}(s:Aw)(b:List Aw×Int→Option (Stp (List Aw×Int) O))(e:List Aw→Int→O)
  (hb:∀(acc:List Aw) (x:Nat),x≤Ae s→Ae acc≤x→b (acc,(x:Int))=bif Ac ((EJ (s.drop x)).2.2=0) then Ad (.next (acc++[(EJ (s.drop x)).1],(x:Int)+(EJ (s.drop x)).2.1)) else Ad (.out (e acc (x:Int)))) :
  ∀(n m:Nat) (acc:List Aw) (x:Nat),x≤Ae s→Ae acc≤x→Ae s-x≤n→n<m→Cp b m (acc,(x:Int))=Ad (e (acc++(Cq n (s.drop x)).1) ((x+(Cq n (s.drop x)).2:Nat):Int))
 | n,0,acc,x,hx,ha,hn,hm=>by omega
 | n,m+1,acc,x,hx,ha,hn,hm=>by
  rw[Cp,hb acc x hx ha]
  cases h:Ac ((EJ (s.drop x)).2.2=0) with
  | false=>
   have:Cq n (s.drop x)=([],0):=by
    cases n with
    | zero=>rfl
    | succ n=>rw[Cq,h];rfl
   rw[this];simp only[Aqr,AqJ,Nat.add_zero]
  | true=>
   obtain⟨h1,h2,h3⟩:=QV (Aq0 h);have hl:=congrArg List.length h3;rw[Aqs,Gi,AqO] at hl
   cases n with
   | zero=>omega
   | succ n=>
    rw[Cq,h];simp only[Aqv];rw[h2,show(((8+Ae (EJ (s.drop x)).1:Nat):Int)).toNat=8+Ae (EJ (s.drop x)).1 from Ab,Arq];rw[show(x:Int)+((8+Ae (EJ (s.drop x)).1:Nat):Int)=((x+(8+Ae (EJ (s.drop x)).1):Nat):Int) from Ab];rw[PT s b e hb n m _ (x+(8+Ae (EJ (s.drop x)).1)) Ab (by rw[Aqs,AqA];omega) Ab Ab];rw[Aq4,Nat.add_assoc x];rfl
theorem Agk (hF:262200<F)(hs:Ae s<F)(hl:Ae s≤999999999):YT F s=Ad ((Cq (Ae s) s).1,((Cq (Ae s) s).2:Int)):=by
 unfold YT;have:=PT s (λσ=>KL F s σ.1 σ.2) (λa x=>.go (a,x)) (λacc x hx ha=>by
  show KL F s acc (x:Int)=_;unfold KL;rw[Int.toNat_natCast]
  by_cases hx2:x<Ae s
  ·rw[AX (Aqo Ab),C0 Ab Ab,Bu (Ajp hF Am)]
   cases h:Ac ((EJ (s.drop x)).2.2=0) with
   | false=>rfl
   | true=>
    obtain⟨h1,h2,h3⟩:=QV (Aq0 h);rw[AF (p:=!Af) rfl,Pi Am,AH Ab Ab];rfl
  ·have:s.drop x=[]:=List.drop_eq_nil_of_le Ab;rw[AF (Aqn Ab),this,Aaq];rfl) (Ae s) F [] 0 Ab Aj Ab hs
 rw[show(([]:List Aw),(0:Int))=([],((0:Nat):Int)) from rfl,Bu this,EX];unfold Pg;rw[C0 Ab (Aq8 _),Int.toNat_natCast,Arn,List.drop_zero,AqH,AqT]
theorem Aca (hF:262200<F)(hs:Ae s<F)(hl:Ae s≤999999999):QM F s=Ad ((Cq (Ae s) s).1,((Cq (Ae s) s).2:Int)):=by
 unfold QM;have:=PT s (λσ=>Iu F s σ.1 σ.2) (λa x=>.ret (a,x)) (λacc x hx ha=>by
  show Iu F s acc (x:Int)=_;unfold Iu;rw[Int.toNat_natCast,C0 Ab Ab,Bu (Afi hF Am)]
  cases h:Ac ((EJ (s.drop x)).2.2=0) with
  | false=>rfl
  | true=>
   obtain⟨h1,h2,h3⟩:=QV (Aq0 h);rw[AF (p:=!Af) rfl,Pi Am,AH Ab Ab];rfl) (Ae s) F [] 0 Ab Aj Ab hs
 rw[show(([]:List Aw),(0:Int))=([],((0:Nat):Int)) from rfl,Bu this,QU,List.drop_zero,AqH,AqT]
theorem V6 {F:Nat}(hF:262200<F)(l:List Aw)(hl:Ae l≤1000000000):∀(r:List Aw) (n i:Nat) (acc:Aw),l.drop i=r→i≤Ae l→Ae r<n→Ae acc≤262144→
  BB (Cp (λσ:List Int×Int=>Kd F l σ.1 σ.2) n (E7 acc,(i:Int))) (Cb λν=>Ox ν)=Ad (bif Ac (Ae (acc++r.flatMap Dk)≤262144) then(acc++r.flatMap Dk,0) else([],3))
 | [],n,i,acc,h,hi,hn,ha=>by
  obtain⟨n,rfl⟩:∃m,n=m+1:=⟨n-1,by simp at hn;omega⟩
  have:Ae l≤i:=by simpa using h
  have hb:Kd F l (E7 acc) (i:Int)=Ad (.out (.go (E7 acc))):=by
   unfold Kd;rw[AF (Aqn Ab)]
  rw[Cp,hb,List.flatMap_nil,AqJ,Aqo ha];show Ad (Qv (E7 acc),0)=_;rw[Nh];rfl
 | c::r,n,i,acc,h,hi,hn,ha=>by
  obtain⟨n,rfl⟩:∃m,n=m+1:=⟨n-1,by simp at hn;omega⟩
  obtain⟨hat,hlt,hd⟩:=O0 h;have hs:=Gi c;have hlen:Ae (acc++(c::r).flatMap Dk)=Ae acc+(8+Ae c)+Ae (r.flatMap Dk):=by
   rw[Arh,Aqs,Aqs,hs];omega
  have hb:Kd F l (E7 acc) (i:Int)=bif Ac (Ae acc+(8+Ae c)≤262144) then Ad (.next (E7 (acc++Dk c),((i+1:Nat):Int))) else Ad (.out (.ret ([],3))):=by
   unfold Kd;rw[AX (Aqo Ab),Bi Ab Ab,hat]
   cases h1:Ac (262136<Ae c) with
   | true=>
    have hsl:X5 F c=Ad ([],3):=by rw[AaW hF c,h1];rfl
    rw[Bu hsl,Aqn (p:=Ae acc+(8+Ae c)≤262144) (by have:=Aq0 h1;omega)];rfl
   | false=>
    have h1':=AqS h1;have hsl:X5 F c=Ad (Dk c,0):=by rw[AaW hF c,h1];rfl
    have hk:BJ .i64 ((Ae (E7 acc):Int)+(Ae (Dk c):Int))=Af:=EV (by rw[Ew,hs];omega) (by rw[Ew,hs];omega);rw[Bu hsl,Cn (by rw[hk];exact Ac8 _)]
    cases h2:Ac (Ae acc+(8+Ae c)≤262144) with
    | false=>
     have h2':=AqS h2;have hx:Ac ((262144:Int)<(Ae (E7 acc):Int)+(Ae (Dk c):Int))=Af:=Aqo (by rw[Ew,hs];omega);rw[AX (by rw[hx,Arb])];rfl
    | true=>
     have h2':=Aq0 h2;have hx:Ac ((262144:Int)<(Ae (E7 acc):Int)+(Ae (Dk c):Int))=Ah:=Aqn (by rw[Ew,hs];omega);rw[AF (by rw[hx];rfl),L2 (by rw[Ew,hs];omega),AH Ab Ab,XW];rfl
  rw[Cp,hb]
  cases h2:Ac (Ae acc+(8+Ae c)≤262144) with
  | false=>
   have h2':=AqS h2;rw[Aqn (p:=Ae (acc++(c::r).flatMap Dk)≤262144) (by rw[hlen];omega)];rfl
  | true=>
   have h2':=Aq0 h2;have:=V6 hF l hl r n (i+1) (acc++Dk c) hd Ab (by simp at hn;omega) (by rw[Aqs,hs];omega);simp only[Aqv];rw[this,Arh,Aq4]
theorem Ajq (hF:262200<F)(hl:Ae l<F)(hb:Ae l≤1000000000):Aei F l=Ad (PE l):=by
 unfold Aei;have:=V6 hF l hb l F 0 [] rfl Ab hl Aj;rw[AqH] at this;exact this
theorem QN {F:Nat}(hF:262200<F)(l:List Aw)(hb:∀b∈l,Ae b≤262136)(hl:Ae l≤1000000000):∀(r:List Aw) (n i:Nat) (acc:Aw),l.drop i=r→i≤Ae l→Ae r<n→Ae (acc++r.flatMap Dk)≤262144→
  BB (Cp (λσ:List Int×Int=>IC F l σ.1 σ.2) n (E7 acc,(i:Int))) (Cb λν=>Mx ν)=Ad (acc++r.flatMap Dk,0)
 | [],n,i,acc,h,hi,hn,ha=>by
  obtain⟨n,rfl⟩:∃m,n=m+1:=⟨n-1,by simp at hn;omega⟩
  have:Ae l≤i:=by simpa using h
  have hb:IC F l (E7 acc) (i:Int)=Ad (.out (.go (E7 acc))):=by
   unfold IC;rw[AF (Aqn Ab)]
  rw[Cp,hb,List.flatMap_nil,AqJ];show Ad (Qv (E7 acc),0)=_;rw[Nh]
 | c::r,n,i,acc,h,hi,hn,ha=>by
  obtain⟨n,rfl⟩:∃m,n=m+1:=⟨n-1,by simp at hn;omega⟩
  obtain⟨hat,hlt,hd⟩:=O0 h;have hs:=Gi c;have hc:Ae c≤262136:=hb c (List.mem_of_mem_drop (i:=i) (by rw[h];simp));have hlen:Ae (acc++(c::r).flatMap Dk)=Ae acc+(8+Ae c)+Ae (r.flatMap Dk):=by
   rw[Arh,Aqs,Aqs,hs];omega
  rw[hlen] at ha;have hbd:IC F l (E7 acc) (i:Int)=Ad (.next (E7 (acc++Dk c),((i+1:Nat):Int))):=by
   unfold IC;rw[AX (Aqo Ab),Bi Ab Ab,hat];have hsl:UQ F c=Ad (Dk c,0):=by rw[Afg hF c,Aqn (p:=262136<Ae c) Ab];rfl
   rw[Bu hsl,L2 (by rw[Ew,hs];omega),AH Ab Ab,XW];rfl
  rw[Cp,hbd];have:=QN hF l hb hl r n (i+1) (acc++Dk c) hd Ab (by simp at hn;omega) (by rw[Aqs,Aqs,hs];omega);simp only;rw[this,Arh,Aq4]
theorem QO {F:Nat}(l:List Aw)(K:Int→Option (Aw×Int))(hl:Ae l≤1000000000):∀(r:List Aw) (n i z:Nat),l.drop i=r→i≤Ae l→Ae r<n→z≤262144→
  BB (Cp (λσ:Int×Int=>ID l σ.1 σ.2) n ((z:Int),(i:Int))) (Cb λν=>K ν)=bif Ac (z+Ae (r.flatMap Dk)≤262144) then K ((z+Ae (r.flatMap Dk):Nat):Int) else Ad ([],3)
 | [],n,i,z,h,hi,hn,hz=>by
  obtain⟨n,rfl⟩:∃m,n=m+1:=⟨n-1,by simp at hn;omega⟩
  have:Ae l≤i:=by simpa using h
  have hb:ID l (z:Int) (i:Int)=Ad (.out (.go (z:Int))):=by
   unfold ID;rw[AF (Aqn Ab)]
  rw[Cp,hb,List.flatMap_nil,Ari,Nat.add_zero,Aqo hz];rfl
 | c::r,n,i,z,h,hi,hn,hz=>by
  obtain⟨n,rfl⟩:∃m,n=m+1:=⟨n-1,by simp at hn;omega⟩
  obtain⟨hat,hlt,hd⟩:=O0 h;have hlen:z+Ae ((c::r).flatMap Dk)=z+(8+Ae c)+Ae (r.flatMap Dk):=by
   rw[Arh,Aqs,Gi];omega
  have hb:ID l (z:Int) (i:Int)=bif Ac (z+(8+Ae c)≤262144) then Ad (.next (((z+(8+Ae c):Nat):Int),((i+1:Nat):Int))) else Ad (.out (.ret ([],3))):=by
   unfold ID;rw[AX (Aqo Ab),Bi Ab Ab,hat]
   cases h1:Ac (262136<Ae c) with
   | true=>
    have h1':=Aq0 h1;rw[Aqo (p:=(262136:Int)<(Ae c:Int)) Ab,Aqn (p:=z+(8+Ae c)≤262144) Ab];rfl
   | false=>
    have h1':=AqS h1;have hk1:BJ .i64 ((z:Int)+8)=Af:=EV Ab Ab;have hk2:BJ .i64 ((z:Int)+8+(Ae c:Int))=Af:=EV Ab Ab;rw[Aqn (p:=(262136:Int)<(Ae c:Int)) Ab,Cn (by rw[hk1];exact Ac8 _),Cn (by rw[hk2];exact Ac8 _)]
    cases h2:Ac (z+(8+Ae c)≤262144) with
    | false=>
     have h2':=AqS h2;rw[AX (by rw[Aqo (p:=(262144:Int)<_) Ab];rfl)];rfl
    | true=>
     have h2':=Aq0 h2;rw[AF (by rw[Aqn (p:=(262144:Int)<_) Ab];rfl),AH Ab Ab,AH Ab Ab,AH Ab Ab];rw[show(z:Int)+8+(Ae c:Int)=((z+(8+Ae c):Nat):Int) from Ab];rfl
  rw[Cp,hb,hlen]
  cases h2:Ac (z+(8+Ae c)≤262144) with
  | false=>
   have h2':=AqS h2;rw[Aqn (p:=z+(8+Ae c)+Ae (r.flatMap Dk)≤262144) Ab];rfl
  | true=>
   have h2':=Aq0 h2;simp only[Aqv];exact QO (F:=F) l K hl r n (i+1) (z+(8+Ae c)) hd Ab (by simp at hn;omega) h2'
theorem Afj (hF:262200<F)(hl:Ae l<F)(hb:Ae l≤1000000000):Yq F l=Ad (PE l):=by
 unfold Yq;have:=QO (F:=F) l (My F l) hb l F 0 0 rfl Ab hl Ab;rw[AqT] at this;refine Eq.trans this ?_;unfold PE
 cases h:Ac (Ae (l.flatMap Dk)≤262144) with
 | false=>rfl
 | true=>
  have h':=Aq0 h;simp only[Aqv];unfold My;rw[Int.toNat_natCast,L2 Ab,Cn (Aqo Ab)];have:=QN hF l (λb hb=>by have:=PG l b hb;omega) hb l F 0 [] rfl Ab hl (by rw[AqH];exact h');rw[AqH] at this;exact this
def Ex {α β R:Type}(g:Nat→β→α→Out R β):Nat→β→List α→Out R β
 | _,acc,[]=>.go acc
 | i,acc,x::r=>match g i acc x with
  | .ret q=>.ret q
  | .go b=>Ex g (i+1) b r
def Afq {R β U:Type}(f:β→U):Out R β→Out R U
 | .ret q=>.ret q
 | .go b=>.go (f b)
def Aik {S R U β:Type}(mk:β→S):Out R β→Stp S (Out R U)
 | .ret q=>.out (.ret q)
 | .go b=>.next (mk b)
variable{S:Type}{mk:Nat→β→S}{R:Type}
theorem Ai3 {l:List α}{body:S→Option (Stp S (Out R U))}{fin:β→U}(g:Nat→β→α→Out R β)(P:Nat→β→Prop)
  (hb:∀(i:Nat) (h:i<Ae l) (acc:β),P i acc→body (mk i acc)=Ad (Aik (mk (i+1)) (g i acc l[i]))∧∀b,g i acc l[i] = .go b→P (i+1) b)
  (he:∀acc,P (Ae l) acc→body (mk (Ae l) acc)=Ad (.out (.go (fin acc)))) :
  ∀(d i n:Nat) (acc:β),i+d=Ae l→d<n→P i acc→Cp body n (mk i acc)=Ad (Afq fin (Ex g i acc (l.drop i)))∧∀b,Ex g i acc (l.drop i) = .go b→P (Ae l) b:=by
 intro d
 induction d with
 | zero=>
  intro i n acc h hn hP;obtain⟨n,rfl⟩:∃m,n=m+1:=⟨n-1,Ab⟩
  obtain rfl:i=Ae l:=Ab
  rw[Cp,he _ hP,List.drop_length];exact⟨rfl,λb hb=>by cases hb;exact hP⟩
 | succ d ih=>
  intro i n acc h hn hP;obtain⟨n,rfl⟩:∃m,n=m+1:=⟨n-1,Ab⟩
  have hi:i<Ae l:=Ab
  obtain⟨h1,h2⟩:=hb i hi acc hP;rw[Cp,h1,List.drop_eq_getElem_cons hi,Ex]
  cases hg:g i acc l[i] with
  | ret q=>exact⟨rfl,λb hb=>by cases hb⟩
  | go b=>exact ih (i+1) n b Ab Ab (h2 b hg)
theorem Gr {l:List α}{body:S→Option (Stp S (Out R U))}{fin:β→U}(g:Nat→β→α→Out R β)(P:Nat→β→Prop)
  (hb:∀(i:Nat) (h:i<Ae l) (acc:β),P i acc→body (mk i acc)=Ad (Aik (mk (i+1)) (g i acc l[i]))∧∀b,g i acc l[i] = .go b→P (i+1) b)
  (he:∀acc,P (Ae l) acc→body (mk (Ae l) acc)=Ad (.out (.go (fin acc)))) {F:Nat} (hF:Ae l<F) {a:β} (hP:P 0 a) :
  Cp body F (mk 0 a)=Ad (Afq fin (Ex g 0 a l))∧∀b,Ex g 0 a l = .go b→P (Ae l) b:=by
 have h:=Ai3 (fin:=fin) g P hb he (Ae l) 0 F a Ab hF hP;rw[List.drop_zero] at h;exact h
theorem KZ {α β R:Type}(f:α→β):∀(l:List α) (i:Nat) (a:List β),Ex (R:=R) (λ_ acc x=>.go (acc++[f x])) i a l = .go (a++l.map f)
 | [],i,a=>by simp[Ex]
 | x::l,i,a=>by
  show Ex (R:=R) (λ_ acc x=>.go (acc++[f x])) (i+1) (a++[f x]) l=_;rw[KZ f l];simp
theorem OE {α β R:Type}(ok:α→Bool)(f:α→β)(q:R):∀(l:List α) (i:Nat) (a:List β),Ex (λ_ acc x=>bif ok x then .go (acc++[f x]) else .ret q) i a l=bif l.all ok then .go (a++l.map f) else .ret q
 | [],i,a=>by simp[Ex]
 | x::l,i,a=>by
  rw[Ex,Are]
  cases ok x with
  | false=>rfl
  | true=>simp only[Aqv,Aq3];rw[OE ok f q l];simp
theorem Oz {p:Bool}{a b:Int}(h:(bif p then a else b)=0)(ha:a≠0):p=Ah∧b=0:=by
 cases p with
 | true=>exact absurd h ha
 | false=>exact⟨rfl,h⟩
theorem OZ {n:Int}(h:ME n=Af):0≤n∧n≤1073741824:=by
 unfold ME at h;simpa using h
theorem Wy {ev:Aw}{i:Int}{x:A1}(h:U2 ev i x=0):ME x.an=Af∧(Km x.aa=Af→DR ev i=0):=by
 unfold U2 at h;obtain⟨_,h⟩:=Oz h Al;obtain⟨h1,h⟩:=Oz h Al;refine⟨?_,λho=>by rw[ho] at h;exact h⟩
 cases hk:Ac (x.aa=4) with
 | true=>rw[hk] at h1;simpa using h1
 | false=>rw[hk] at h1;simp at h1;exact h1.2
theorem R3 {ev:Aw}{i:Int}{x:A1}(h:R4 ev i x=0):1≤x.aa∧x.aa≤5∧Af2 x=Af∧(x.aa=2→x.aj=[])∧(x.aa≠2→HZ x.aj=0)∧ME x.an=Af∧(Km x.aa=Af→DR ev i=0):=by
 unfold R4 at h;obtain⟨h1,h⟩:=Oz h Al;obtain⟨h2,h⟩:=Oz h Al;simp only[AqD,Aqt,Arm] at h1 h2
 by_cases hk:x.aa=2
 ·rw[Aqo hk,Aqv] at h;obtain⟨h3,h⟩:=Oz h Al;have ht:=Wy h;simp only[Aqt] at h3;exact⟨Ab,Ab,h2,λ_=>AqB Ab,λh=>absurd hk h,ht⟩
 ·rw[Aqn hk,Aqr] at h
  by_cases hv:HZ x.aj=0
  ·rw[Aqo hv,Aq5,Aqr] at h;exact⟨Ab,Ab,h2,λh=>absurd h hk,λ_=>hv,Wy h⟩
  ·rw[Aqn hv] at h;exact absurd h hv
structure OkM (c:AO):Prop where
 id:KH c.ai=Af
 nm:GS c.ag=Af
 at1:1≤c.ar
 at2:c.ar≤1073741824
 now:ME c.aG=Af
 res:HZ c.az=0
 len:Ae c.ac≤32
 ef:∀i:Nat,i<Ae c.ac→R4 c.ai (i:Int) (A2 c.ac (i:Int))=0
theorem Lt (h:Mf c=0):OkM c:=by
 unfold Mf at h;obtain⟨h1,h⟩:=Oz h Al;obtain⟨h2,h⟩:=Oz h Al;simp only[AqD,Aqt,Arm] at h1 h2
 by_cases hv:HZ c.az=0
 ·rw[Aqo hv] at h;obtain⟨h3,h⟩:=Oz (show(bif Ac (32<(Ae c.ac:Int)) then 3 else Nv (λi=>R4 c.ai (i:Int) (A2 c.ac (i:Int))) 0 (Ae c.ac))=0 from h) Al;simp only[Aqt] at h3;exact⟨h1.1,h1.2,Ab,Ab,h2.2.2,hv,Ab,λi hi=>X3 h i Ab Ab⟩
 ·rw[Aqn hv] at h;exact absurd h hv
theorem OkM.eff (h:OkM c){x:A1}(hx:x∈c.ac):∃i:Nat,i<Ae c.ac∧R4 c.ai (i:Int) x=0:=by
 obtain⟨i,hi,rfl⟩:=List.getElem_of_mem hx;have:=h.ef i hi;rw[C1 hi] at this;exact⟨i,hi,this⟩
theorem Xy (h:KH s=Af):Ae s≤64:=by
 unfold KH at h;simp only[Aqu,Aqq] at h;exact h.2
abbrev Yd:Aw:=[99,111,109,109,105,116]
abbrev AeM:Aw:=[97,99,107]
def Anh (x:A1):List Aw:=[Lib.itoa x.aa,x.ap,Lib.itoa x.an,(V9 x.aj).1]
def hdM (c:AO):List Aw:=[Yd,c.ai,c.ag,Lib.itoa c.ar,Lib.itoa c.aG,(V9 c.az).1]
def AbI (c:AO):List (List Aw):=hdM c::c.ac.map Anh
def N6 (rs:List (List Aw)):Aw×Int:=bif rs.all WR then PE (rs.map HH) else([],3)
def Lv (c:AO):Aw×Int:=bif Ac (Mf c=0) then N6 (AbI c) else([],Mf c)
def Ny (id:Aw):Aw×Int:=bif KH id then N6 [[AeM,id]] else([],4)
theorem AfS (h:¬ (PE l).2=0):PE l=([],3):=by
 unfold PE at h ⊢
 cases hd:Ac (Ae (l.flatMap Dk)≤262144) with
 | true=>rw[hd] at h;exact absurd rfl h
 | false=>rfl
theorem Ad5 (h:WR l=Af):P8 l=(HH l,0):=by unfold P8;rw[h];rfl
theorem Ad6 (h:WR l=Ah):P8 l=([],3):=by unfold P8;rw[h];rfl
theorem I1 (h:n≤1000000000):Bc (De 16 n) x=x:=Cn (Aqo Ab)
theorem Nw (h:n≤1000000000):Bc (De 24 n) x=x:=Cn (Aqo Ab)
variable{rs:List (List Aw)}
theorem Aa0 (hF:270000<F)(hl:Ae rs≤1000):WZ F rs=Ad (N6 rs):=by
 unfold WZ N6;have h:=(Gr (l:=rs) (mk:=λi (acc:List Aw)=>(acc,(i:Int))) (fin:=id) (body:=λσ=>Lf F rs σ.1 σ.2) (λ_ acc x=>bif WR x then .go (acc++[HH x]) else .ret (([]:Aw),(3:Int))) (λi acc=>Ae acc=i) (λi hi acc hP=>by
   unfold Lf;simp only;rw[AX (Aqo Ab),Bi Ab Ab,C1 hi,Ajo Ab,Bv]
   cases ho:WR rs[i] with
   | false=>rw[Ad6 ho];exact⟨rfl,λb hb=>by cases hb⟩
   | true=>
    rw[Ad5 ho,AF An,I1 Am,AH Ab Ab];exact⟨rfl,λb hb=>by cases hb;simp[hP]⟩) (λacc hP=>by unfold Lf;simp only;rw[AF (Aqn Ab)];rfl) (F:=F) Ab (a:=[]) rfl).1
 show BB (Cp (λσ=>Lf F rs σ.1 σ.2) F ([],((0:Nat):Int))) (Cb λν=>M6 F ν)=_;rw[h,OE,Bv]
 cases ho:rs.all WR with
 | false=>rfl
 | true=>
  show M6 F ([]++rs.map HH)=_;rw[AqH];unfold M6;rw[Ajq Ab (by rw[Aqz];omega) (by rw[Aqz];omega),Bv]
  by_cases hj:(PE (rs.map HH)).2=0
  ·rw[AF (by simp[hj])];exact congrArg Ad (Prod.ext rfl hj.symm)
  ·rw[AX (by simp[hj])];exact congrArg Ad (AfS hj).symm
theorem UJ (hF:270000<F)(hl:Ae rs≤1000):OH F rs=Ad (N6 rs):=by
 unfold OH N6;have h:=(Gr (l:=rs) (mk:=λi (acc:List Aw)=>(acc,(i:Int))) (fin:=id) (body:=λσ=>It F rs σ.1 σ.2) (λ_ acc x=>bif WR x then .go (acc++[HH x]) else .ret (([]:Aw),(3:Int))) (λi acc=>Ae acc=i) (λi hi acc hP=>by
   unfold It;simp only;rw[AX (Aqo Ab),Bi Ab Ab,C1 hi,Afh Ab,Bv]
   cases ho:WR rs[i] with
   | false=>rw[Ad6 ho];exact⟨rfl,λb hb=>by cases hb⟩
   | true=>
    rw[Ad5 ho,AF An,I1 Am,AH Ab Ab];exact⟨rfl,λb hb=>by cases hb;simp[hP]⟩) (λacc hP=>by unfold It;simp only;rw[AF (Aqn Ab)];rfl) (F:=F) Ab (a:=[]) rfl).1
 show BB (Cp (λσ=>It F rs σ.1 σ.2) F ([],((0:Nat):Int))) (Cb λν=>Ju F ν)=_;rw[h,OE,Bv]
 cases ho:rs.all WR with
 | false=>rfl
 | true=>
  show Ju F ([]++rs.map HH)=_;rw[AqH];unfold Ju;rw[Afj Ab (by rw[Aqz];omega) (by rw[Aqz];omega),Bv];rfl
theorem Aay (hA:Mh M v)(hM:M≤2000000)(hF:4*M+8<F):Vb F v=Ad (V9 v).1:=by
 unfold Vb;rw[AbA hA hM hF,Bv]
theorem UC (hA:Mh M v)(hM:M≤2000000)(hF:4*M+8<F):Q8 F v=Ad (V9 v).1:=by
 unfold Q8
 cases v with
 | nil=>rfl
 | cons c r=>
  rw[AF (Aqn Am),AbU hA hM hF,Bv]
theorem Vd (hA:XK M c)(hM:M≤2000000)(hF:4*M+8<F)(hF0:270000<F):Nn F c=Ad (Lv c):=by
 unfold Nn Lv;rw[Xe hA hM Ab Ab,Bv]
 by_cases he:Mf c=0
 ·rw[AF (by simp[he]),Aqo he];have ho:=Lt he;have b:=OZ ho.now;have hl:=ho.len;rw[AH (by have:=ho.at1;omega) (by have:=ho.at2;omega),AH Ab Ab,Aay hA.r hM hF,Bv];have h:=(Gr (l:=c.ac) (mk:=λi (acc:List (List Aw))=>(acc,(i:Int))) (fin:=id) (body:=λσ=>Iv F c σ.1 σ.2) (λ_ acc x=>.go (acc++[Anh x])) (λi acc=>Ae acc=i+1) (λi hi acc hP=>by
    unfold Iv;simp only;obtain⟨h1,h2,h3,h4,h5,h6,_⟩:=R3 (ho.ef i hi);have b:=OZ h6;rw[C1 hi] at h1 h2 b;rw[AX (Aqo Ab),Bi Ab Ab,C1 hi,AH Ab Ab,AH Ab Ab,Aay (hA.es _ (List.getElem_mem hi)).v hM hF,Bv,Nw Am,AH Ab Ab];exact⟨rfl,λb hb=>by cases hb;simp[hP]⟩) (λacc hP=>by unfold Iv;simp only;rw[AF (Aqn Ab)];rfl) (F:=F) Ab (a:=[hdM c]) rfl).1
  show BB (Cp (λσ=>Iv F c σ.1 σ.2) F ([hdM c],((0:Nat):Int))) (Cb λν=>J2 F ν)=_;rw[h,KZ,Bv];show J2 F (AbI c)=_;unfold J2;rw[Aa0 hF0 (by simp[AbI];omega),Bv];rfl
 ·rw[AX (by simp[he]),Aqn he];rfl
theorem Nc (hA:XK M c)(hM:M≤2000000)(hF:4*M+100<F)(hF0:270000<F):Jv F c=Ad (Lv c):=by
 unfold Jv Lv;rw[SR hA hM Ab,Bv]
 by_cases he:Mf c=0
 ·rw[AF (by simp[he]),Aqo he];have ho:=Lt he;have b:=OZ ho.now;have hl:=ho.len;rw[AH (by have:=ho.at1;omega) (by have:=ho.at2;omega),AH Ab Ab,UC hA.r hM Ab,Bv];have h:=(Gr (l:=c.ac) (mk:=λi (acc:List (List Aw))=>(acc,(i:Int))) (fin:=id) (body:=λσ=>GL F c σ.1 σ.2) (λ_ acc x=>.go (acc++[Anh x])) (λi acc=>Ae acc=i+1) (λi hi acc hP=>by
    unfold GL;simp only;obtain⟨h1,h2,h3,h4,h5,h6,_⟩:=R3 (ho.ef i hi);have b:=OZ h6;rw[C1 hi] at h1 h2 b;rw[AX (Aqo Ab),Bi Ab Ab,C1 hi,AH Ab Ab,AH Ab Ab,UC (hA.es _ (List.getElem_mem hi)).v hM Ab,Bv,Nw Am,AH Ab Ab];exact⟨rfl,λb hb=>by cases hb;simp[hP]⟩) (λacc hP=>by unfold GL;simp only;rw[AF (Aqn Ab)];rfl) (F:=F) Ab (a:=[hdM c]) rfl).1
  show BB (Cp (λσ=>GL F c σ.1 σ.2) F ([hdM c],((0:Nat):Int))) (Cb λν=>HB F ν)=_;rw[h,KZ,Bv];show HB F (AbI c)=_;unfold HB;rw[UJ hF0 (by simp[AbI];omega),Bv];rfl
 ·rw[AX (by simp[he]),Aqn he];rfl
theorem PB (hF:270000<F)(id:Aw):J3 F id=Ad (Ny id):=by
 unfold J3 Ny
 cases KH id with
 | false=>rfl
 | true=>
  rw[AF An,Aa0 hF Aj,Bv];rfl
theorem Kj (hF:270000<F){id:Aw}(hi:Ae id≤1000000000):IQ F id=Ad (Ny id):=by
 unfold IQ Ny;rw[Cn (show De 1 (Ae id)=Af from Aqo Ab)]
 cases KH id with
 | false=>rfl
 | true=>
  rw[AF An,UJ hF Aj,Bv];rfl
def Pw (s:Aw):List Av×Int:=ov (Tw s)
theorem Ajy {r:List Av×Int}(h:Tw s=Ad r):Mh 4000 r.1:=by
 by_cases h0:r.2=0
 ·exact(Al9 h h0).1
 ·have:r.1=[]:=by
   unfold Tw at h
   cases h4:Ac (4000<Ae s) with
   | true=>rw[h4] at h;cases h;rfl
   | false=>
    rw[h4] at h;simp only[Aqr] at h
    split at h
    ·rename_i f _
     cases he:Ac (IZ f=0) with
     | true=>rw[he] at h;cases h;exact absurd rfl h0
     | false=>rw[he] at h;cases h;rfl
    ·cases h;rfl
  rw[this];exact⟨Al,Aj,λc hc=>by cases hc⟩
theorem Sv (s:Aw):Tw s=Ad (Pw s):=by
 obtain⟨r,hr⟩:=Agq s;unfold Pw;rw[hr,IS]
theorem YW (s:Aw):Mh 4000 (Pw s).1:=Ajy (Sv s)
theorem Wu (hF:20000≤F)(s:Aw):OB F s=Ad (Pw s):=by rw[ZC hF,Sv]
theorem Afb (hF:20000≤F)(s:Aw):QI F s=Ad (Pw s):=by rw[Aaa hF,Sv]
def ok6 (f:List Aw):Bool:=Ac (Cr (A2 f 3)=0)&&(Ac (Cr (A2 f 4)=0)&&Ac ((Pw (A2 f 5)).2=0))
def okF (f:List Aw):Bool:=Ac ((Ae f:Int)=4)&&(Ac (Cr (A2 f 0)=0)&&(Ac (Cr (A2 f 2)=0)&&(Ac (A2 f 3=([]:Aw))||decide ((Pw (A2 f 3)).2=0))))
def MU (f:List Aw):A1:=⟨BN (A2 f 0),A2 f 1,bif Ac (A2 f 3=([]:Aw)) then[] else(Pw (A2 f 3)).1,BN (A2 f 2)⟩
def hd6 (f:List Aw)(es:List A1):AO:=⟨A2 f 1,A2 f 2,BN (A2 f 3),(Pw (A2 f 5)).1,es,BN (A2 f 4)⟩
def Wj:List (List Aw)→Bool
 | []=>Af
 | h::r=>Ac ((h.length:Int)=6)&&(ok6 h&&r.all okF)
def zM:AO:=⟨[],[],0,[],[],0⟩
def Tq:List (List Aw)→AO
 | []=>zM
 | h::r=>hd6 h (r.map MU)
theorem YX (h:List Aw)(r:List (List Aw)):Wj (h::r)=(Ac ((h.length:Int)=6)&&(ok6 h&&r.all okF)):=rfl
theorem Ab4 (h:List Aw)(r:List (List Aw)):Tq (h::r)=hd6 h (r.map MU):=rfl
def Ag0 (c:AO)(x:A1):AO:=⟨c.ai,c.ag,c.ar,c.az,c.ac++[x],c.aG⟩
def gD:Nat→AO→List Aw→Out (AO×Bool) AO
 | 0,c,f=>bif Ac ((Ae f:Int)=6) then(bif ok6 f then .go (hd6 f c.ac) else .ret (hd6 f c.ac,Ah)) else .ret (c,Ah)
 | _+1,c,f=>bif okF f then .go (Ag0 c (MU f)) else .ret (c,Ah)
theorem Aom (c:AO)(f:List Aw):gD 0 c f=bif Ac ((Ae f:Int)=6) then(bif ok6 f then .go (hd6 f c.ac) else .ret (hd6 f c.ac,Ah)) else .ret (c,Ah):=rfl
theorem Aol (i:Nat)(c:AO)(f:List Aw):gD (i+1) c f=bif okF f then .go (Ag0 c (MU f)) else .ret (c,Ah):=rfl
def mkD (i:Nat)(c:AO):Int×Aw×Aw×Int×(List Av)×(List A1)×Int:=((i:Int),c.ai,c.ag,c.ar,c.az,c.ac,c.aG)
def SmR (l:List (List Aw)):Prop:=∀f∈l,∀s∈f,Ae s≤4000
theorem GP (h:∀f∈l,Ae f≤4000)(i:Int):Ae (A2 l i)≤4000:=by
 unfold A2
 cases hg:l[i.toNat]? with
 | none=>exact(by decide:Ae ([]:Aw)≤4000)
 | some s=>rw[AqE];exact h s (Aq1 hg)
theorem GZ (h:n≤1000000000):Bc (De 1 n) x=x:=Cn (Aqo Ab)
theorem Qp (h:n≤1000000000):Bc (De 56 n) x=x:=Cn (Aqo Ab)
theorem Abe (hF:20000≤F){l:List (List Aw)}(hs:SmR l)(hl:Ae l≤100000000)(i:Nat)(hi:i<Ae l)(c:AO)(hP:Ae c.ac≤i) :
  Ix F l (mkD i c).1 (mkD i c).2.1 (mkD i c).2.2.1 (mkD i c).2.2.2.1 (mkD i c).2.2.2.2.1 (mkD i c).2.2.2.2.2.1 (mkD i c).2.2.2.2.2.2=Ad (Aik (mkD (i+1)) (gD i c l[i]))∧∀b,gD i c l[i] = .go b→Ae b.ac≤i+1:=by
 have hm:=hs l[i] (List.getElem_mem hi);unfold Ix mkD;simp only;rw[AX (Aqo Ab),Bi Ab Ab,C1 hi];generalize hf:l[i]=f at hm
 cases i with
 | zero=>
  rw[Aqo (show((0:Nat):Int)=0 from rfl),Aq3,Aom]
  cases h6:Ac ((Ae f:Int)=6) with
  | false=>
   rw[Dv,Aqn (show ¬ (0:Int)<((0:Nat):Int) from Ab),AqN,Dv];exact⟨rfl,λb hb=>by cases hb⟩
  | true=>
   have h6':=Aq0 h6;rw[Jc,Bi Ab Ab,Bi Ab Ab,Bi Ab Ab,GZ (by have:=GP hm 3;omega),Bi Ab Ab,GZ (by have:=GP hm 4;omega),Bi Ab Ab,Wu hF,Bv];have e:(((!Ac ((Cr (A2 f 3))=0))||((!Ac ((Cr (A2 f 4))=0))||(!Ac ((Pw (A2 f 5)).2=0))))) = !ok6 f:=by
    unfold ok6;cases Ac (Cr (A2 f 3)=0)<;>cases Ac (Cr (A2 f 4)=0)<;>rfl
   rw[e];unfold Iw;rw[AH Ab Ab]
   cases ok6 f with
   | false=>exact⟨rfl,λb hb=>by cases hb⟩
   | true=>exact⟨rfl,λb hb=>by cases hb;show (Ae c.ac)≤1;omega⟩
 | succ i=>
  rw[Aqn (show ¬ ((i+1:Nat):Int)=0 from Ab),AqN,Dv,Aqo (show(0:Int)<((i+1:Nat):Int) from Ab),Aq3];rw[Aol];unfold okF MU
  cases h4:Ac ((Ae f:Int)=4) with
  | false=>
   rw[Dv];exact⟨rfl,λb hb=>by cases hb⟩
  | true=>
   have h4':=Aq0 h4;rw[Jc,Bi Ab Ab,GZ (by have:=GP hm 0;omega)]
   cases p0:Ac (Cr (A2 f 0)=0) with
   | false=>exact⟨rfl,λb hb=>by cases hb⟩
   | true=>
    rw[AF An,Bi Ab Ab,Bi Ab Ab,GZ (by have:=GP hm 2;omega)]
    cases p2:Ac (Cr (A2 f 2)=0) with
    | false=>exact⟨rfl,λb hb=>by cases hb⟩
    | true=>
     rw[AF An,Bi Ab Ab];unfold Iw;have hb1:∀x,Ae (Ag0 c x).ac≤i+1+1:=λx=>by show(c.ac++[x]).length≤_;rw[Aqs];simp;omega
     cases p3:Ac (A2 f 3=([]:Aw)) with
     | true=>
      rw[AF An,Qp Am,AH Ab Ab];exact⟨rfl,λb hb=>by cases hb;exact hb1 _⟩
     | false=>
      rw[AX An,Wu hF,Bv,Qp Am,AH Ab Ab]
      cases Ac ((Pw (A2 f 3)).2=0) with
      | false=>exact⟨rfl,λb hb=>by cases hb⟩
      | true=>exact⟨rfl,λb hb=>by cases hb;exact hb1 _⟩
theorem Uq {f:List Aw}(h:∀s∈f,Ae s≤4000):EfA 4000 (MU f):=by
 refine⟨?_,by have:=GP h 1;show(A2 f 1).length≤_;omega⟩;show Mh 4000 (bif Ac (A2 f 3=([]:Aw)) then[] else(Pw (A2 f 3)).1)
 cases Ac (A2 f 3=([]:Aw)) with
 | true=>exact⟨Al,Aj,λc hc=>by cases hc⟩
 | false=>exact YW _
theorem AaQ {f:List Aw}(h:∀s∈f,Ae s≤4000){es:List A1}(he:∀x∈es,EfA 4000 x):XK 4000 (hd6 f es):=
 ⟨YW _,he,by have:=GP h 1;show(A2 f 1).length≤_;omega,by have:=GP h 2;show(A2 f 2).length≤_;omega⟩
theorem Amq:XK 4000 zM:=⟨⟨Al,Al,λc hc=>by cases hc⟩,λx hx=>(by cases hx),Al,Al⟩
theorem Anu (h:XK 4000 c){x:A1}(hx:EfA 4000 x):XK 4000 (Ag0 c x):=
 ⟨h.r,λy hy=>by
  rcases List.mem_append.1 hy with hy | hy
  ·exact h.es y hy
  ·obtain rfl:=List.mem_singleton.1 hy;exact hx,h.ev,h.tn⟩
theorem W9:∀(r:List (List Aw)) (i:Nat) (c:AO),SmR r→XK 4000 c→
  (r.all okF=Af→Ex gD (i+1) c r = .go ⟨c.ai,c.ag,c.ar,c.az,c.ac++r.map MU,c.aG⟩)∧(r.all okF=Ah→∃q,Ex gD (i+1) c r = .ret (q,Ah)∧XK 4000 q)
 | [],i,c,_,hc=>⟨λ_=>by rw[Ex];simp,λh=>by cases h⟩
 | f::r,i,c,hs,hc=>by
  have hf:=hs f Aj;have hr:SmR r:=λg hg=>hs g (by simp[hg]);rw[Ex,Are,Aol]
  cases ho:okF f with
  | false=>exact⟨λh=>(by cases h),λ_=>⟨c,rfl,hc⟩⟩
  | true=>
   simp only[Aqv,Aq3];obtain⟨h1,h2⟩:=W9 r (i+1) (Ag0 c (MU f)) hr (Anu hc (Uq hf));refine⟨λh=>?_,h2⟩;rw[h1 h];simp[Ag0]
theorem Acp (hF:20000≤F){l:List (List Aw)}(hs:SmR l)(hl:Ae l≤100000000)(hlF:Ae l<F):∃c,Rd F l=Ad (c,Wj l)∧XK 4000 c∧(Wj l=Af→c=Tq l):=by
 have h:=(Gr (l:=l) (mk:=mkD) (fin:=λc=>(mkD 0 c).2) (body:=λσ=>Ix F l σ.1 σ.2.1 σ.2.2.1 σ.2.2.2.1 σ.2.2.2.2.1 σ.2.2.2.2.2.1 σ.2.2.2.2.2.2) gD (λi c=>Ae c.ac≤i) (λi hi c hP=>Abe hF hs hl i hi c hP) (λc hP=>by
  unfold Ix mkD;simp only;rw[AF (Aqn Ab)]) hlF (a:=zM) Al).1
 have hd:Rd F l=BB (Ad (Afq (λc=>(mkD 0 c).2) (Ex gD 0 zM l))) (Cb λν=>Lg ν.1 ν.2.1 ν.2.2.1 ν.2.2.2.1 ν.2.2.2.2.1 ν.2.2.2.2.2):=by
  rw[← h];rfl
 rw[hd,Bv]
 cases l with
 | nil=>exact⟨zM,rfl,Amq,λ_=>rfl⟩
 | cons f r=>
  have hf:=hs f Aj;have hr:SmR r:=λg hg=>hs g (by simp[hg]);rw[Ex,Aom,YX,Ab4]
  cases h6:Ac ((Ae f:Int)=6) with
  | false=>exact⟨zM,rfl,Amq,λh=>by cases h⟩
  | true=>
   cases ho:ok6 f with
   | false=>exact⟨hd6 f [],rfl,AaQ hf (λx hx=>by cases hx),λh=>by cases h⟩
   | true=>
    obtain⟨h1,h2⟩:=W9 r 0 (hd6 f zM.ac) hr (AaQ hf (λx hx=>by cases hx))
    cases ha:r.all okF with
    | true=>
     simp only[Aqv];rw[h1 ha];refine⟨hd6 f (r.map MU),rfl,AaQ hf (λx hx=>?_),λ_=>rfl⟩;obtain⟨g,hg,rfl⟩:=List.mem_map.1 hx;exact Uq (hr g hg)
    | false=>
     obtain⟨q,h3,h4⟩:=h2 ha;simp only[Aqv];rw[h3];exact⟨q,rfl,h4,λh=>by cases h⟩
def I4 (bs:List Aw):List (List Aw):=bs.map λb=>(KY b).1
def Tz (bs:List Aw):Bool:=bs.all λb=>Ac ((KY b).2=0)
def On (rc:Aw)(l:List (List Aw)):Option (Sum Aw AO):=
 bif Ac ((Ae l:Int)=1)&&Ac ((Ae (A2 l 0):Int)=2) then(bif Ac (Ny (A2 (A2 l 0) 1)=(rc,0)) then Ad (.inl (A2 (A2 l 0) 1)) else Ai)
 else(bif Wj l&&Ac (Lv (Tq l)=(rc,0)) then Ad (.inr (Tq l)) else Ai)
def Ku (rc:Aw):Option (Sum Aw AO):=bif Tz (Cq (Ae rc) rc).1 then On rc (I4 (Cq (Ae rc) rc).1) else Ai
theorem PU (s:Aw):Ae (Cq (Ae s) s).1≤Ae s:=by
 have h:=OD (Ae s) s;have h2:=congrArg List.length h.2.1;rw[AqV] at h2;have h3:Ae (Cq (Ae s) s).1≤Ae ((Cq (Ae s) s).1.flatMap Dk):=by
  generalize(Cq (Ae s) s).1=l
  induction l with
  | nil=>simp
  | cons a l ih=>simp only[Arh,Aqs,Aqp,Gi];omega
 omega
theorem U9 {bs:List Aw}(h:Tz bs=Af):SmR (I4 bs):=by
 intro f hf s hs;obtain⟨b,hb,rfl⟩:=List.mem_map.1 hf;exact AeC hs (Aq0 (List.all_eq_true.1 h b hb))
theorem YR (l:List Aw):Ae l≤Ae (l.flatMap Dk):=by
 induction l with
 | nil=>simp
 | cons a l ih=>simp only[Arh,Aqs,Aqp,Gi];omega
variable{rc:Aw}
theorem Xv (h:N6 rs=(rc,0)):Cq (Ae rc) rc=(rs.map HH,Ae rc)∧I4 (rs.map HH)=rs∧Tz (rs.map HH)=Af∧Ae rc≤262144:=by
 unfold N6 at h
 cases ha:rs.all WR with
 | false=>rw[ha] at h;cases h
 | true=>
  rw[ha] at h;simp only[Aqv] at h;unfold PE at h
  cases hj:Ac (Ae ((rs.map HH).flatMap Dk)≤262144) with
  | false=>rw[hj] at h;cases h
  | true=>
   rw[hj] at h;simp only[Aqv] at h;obtain rfl:(rs.map HH).flatMap Dk=rc:=congrArg Prod.fst h;have hlim:=Aq0 hj;have hb:∀b∈rs.map HH,Ae b≤262136:=λb hb=>by have:=PG _ b hb;omega
   refine⟨SK _ _ hb (YR _),?_,?_,hlim⟩
   ·unfold I4;rw[Aro]
    conv=>rhs;rw[← List.map_id rs]
    exact List.map_congr_left λr hr=>by show(KY (HH r)).1=r;rw[ZD (List.all_eq_true.1 ha r hr)]
   ·unfold Tz;rw[List.all_map,AqX];intro r hr;show Ac ((KY (HH r)).2=0)=Af;rw[ZD (List.all_eq_true.1 ha r hr)];rfl
theorem AjK {id:Aw}(h:Ny id=(rc,0)):KH id=Af∧N6 [[AeM,id]]=(rc,0):=by
 unfold Ny at h
 cases hi:KH id with
 | false=>rw[hi] at h;cases h
 | true=>rw[hi] at h;exact⟨rfl,h⟩
theorem Abc (h:Lv c=(rc,0)):Mf c=0∧N6 (AbI c)=(rc,0):=by
 unfold Lv at h
 by_cases he:Mf c=0
 ·rw[Aqo he] at h;exact⟨he,h⟩
 ·rw[Aqn he] at h;exact absurd (congrArg Prod.snd h) he
theorem Aj0:Pw []=([],1):=Al
theorem Ajr:HZ []=1:=Al
theorem AbK (hF:270000<F)(hs:Ae s<F)(hl:Ae s≤100000000):T7 F s=Ad (bif (!Ac (((Cq (Ae s) s).2:Int)=(Ae s:Int)))||decide ((Ae (Cq (Ae s) s).1:Int)=0) then([],Ah) else bif Tz (Cq (Ae s) s).1 then(I4 (Cq (Ae s) s).1,Af) else([],Ah)):=by
 unfold T7;rw[Aca Ab hs Ab,Bv];have hn:=PU s;have hb:=(OD (Ae s) s).2.2;simp only
 cases(!Ac (((Cq (Ae s) s).2:Int)=(Ae s:Int)))||decide ((Ae (Cq (Ae s) s).1:Int)=0) with
 | true=>rfl
 | false=>
  rw[Dv,Aqr];generalize hbs:(Cq (Ae s) s).1=bs at hn hb;generalize hz:((Cq (Ae s) s).2:Int)=z;have h:=(Gr (l:=bs) (mk:=λi (acc:List (List Aw))=>(acc,(i:Int))) (fin:=id) (body:=λσ=>Ir F (bs,z) σ.1 σ.2) (λ_ acc b=>bif Ac ((KY b).2=0) then .go (acc++[(KY b).1]) else .ret (([]:List (List Aw)),Ah)) (λi acc=>Ae acc=i) (λi hi acc hP=>by
   unfold Ir;simp only;have hbl:=hb bs[i] (List.getElem_mem hi);rw[AX (Aqo Ab),Bi Ab Ab,C1 hi,Aae Ab Ab,Bv]
   cases ho:Ac ((KY bs[i]).2=0) with
   | false=>exact⟨rfl,λb hb=>by cases hb⟩
   | true=>
    rw[AF An,Nw Am,AH Ab Ab];exact⟨rfl,λb hb=>by cases hb;simp[hP]⟩) (λacc hP=>by unfold Ir;simp only;rw[AF (Aqn Ab)];rfl) (F:=F) Ab (a:=[]) rfl).1
  show BB (Cp (λσ=>Ir F (bs,z) σ.1 σ.2) F ([],((0:Nat):Int))) (Cb λν=>La ν)=_;rw[h,OE,Bv];unfold Tz
  cases bs.all λb=>Ac ((KY b).2=0) with
  | false=>rfl
  | true=>rfl
def vE (s:Aw):List Av:=bif Ac (s=([]:Aw)) then[] else(Pw s).1
def okE (s:Aw):Bool:=Ac (s=([]:Aw))||decide ((Pw s).2=0)
theorem SS (hF:20000≤F)(s:Aw):Oa F s=Ad (vE s,okE s):=by
 unfold Oa vE okE
 cases Ac (s=([]:Aw)) with
 | true=>rfl
 | false=>rw[Dv,Afb hF,Bv];rfl
def Yx (f:List Aw):Bool:=Ac (Cr (A2 f 3)=0)&&(Ac (Cr (A2 f 4)=0)&&okE (A2 f 5))
def VW (f:List Aw)(es:List A1):AO:=⟨A2 f 1,A2 f 2,BN (A2 f 3),vE (A2 f 5),es,BN (A2 f 4)⟩
theorem AlH [Inhabited α](a:α)(r:List α)(i:Nat):A2 (a::r) ((i+1:Nat):Int)=A2 r (i:Int):=by simp[A2]
theorem QK (hF:20000≤F){h:List Aw}{r:List (List Aw)}(hs:SmR (h::r))(hl:Ae r≤100000000)(hlF:Ae r<F):Mu F (h::r)=Ad (bif Ac ((h.length:Int)=6)&&(Yx h&&r.all okF) then(VW h (r.map MU),Af) else(zM,Ah)):=by
 have hh:=hs h Aj;have hr:SmR r:=λg hg=>hs g (by simp[hg]);unfold Mu;rw[Bi Ab Aj,show A2 (h::r) 0=h from rfl]
 cases h6:Ac ((h.length:Int)=6) with
 | false=>rfl
 | true=>
  have h6':=Aq0 h6;rw[AF An,Bi Ab Ab,GZ (by have:=GP hh 3;omega),Bi Ab Ab,GZ (by have:=GP hh 4;omega),Bi Ab Ab,SS hF,Bv];simp only;have e:(((!Ac ((Cr (A2 h 3))=0))||((!Ac ((Cr (A2 h 4))=0))||(!okE (A2 h 5))))) = !Yx h:=by
   unfold Yx;cases Ac (Cr (A2 h 3)=0)<;>cases Ac (Cr (A2 h 4)=0)<;>rfl
  rw[e]
  cases Yx h with
  | false=>rfl
  | true=>
   rw[AF An,Bi Ab Ab,Bi Ab Ab];have hq:=(Gr (l:=r) (mk:=λi (acc:List A1)=>(((i+1:Nat):Int),acc)) (fin:=id) (body:=λσ=>Gq F (h::r) σ.1 σ.2) (λ_ acc f=>bif okF f then .go (acc++[MU f]) else .ret (zM,Ah)) (λi acc=>Ae acc=i) (λi hi acc hP=>by
    have hm:=hr r[i] (List.getElem_mem hi);unfold Gq;simp only;rw[AX (Aqo (by simp only[Aqp];omega)),Bi Ab (by simp only[Aqp];omega),AlH,C1 hi];generalize r[i]=f at hm;unfold okF MU
    cases h4:Ac ((Ae f:Int)=4) with
    | false=>exact⟨rfl,λb hb=>by cases hb⟩
    | true=>
     have h4':=Aq0 h4;rw[AF An,Bi Ab Ab,GZ (by have:=GP hm 0;omega),Bi Ab Ab,GZ (by have:=GP hm 2;omega),Bi Ab Ab,SS hF,Bv,Bi Ab Ab,Qp Am,AH Ab Ab];unfold vE okE
     cases Ac (Cr (A2 f 0)=0) with
     | false=>exact⟨rfl,λb hb=>by cases hb⟩
     | true=>
      cases Ac (Cr (A2 f 2)=0) with
      | false=>exact⟨rfl,λb hb=>by cases hb⟩
      | true=>
       cases(Ac (A2 f 3=([]:Aw))||decide ((Pw (A2 f 3)).2=0)) with
       | false=>exact⟨rfl,λb hb=>by cases hb⟩
       | true=>exact⟨rfl,λb hb=>by cases hb;simp[hP]⟩) (λacc hP=>by unfold Gq;simp only;rw[AF (Aqn Aj)];rfl) (F:=F) hlF (a:=[]) rfl).1
   show BB (Cp (λσ=>Gq F (h::r) σ.1 σ.2) F (((0+1:Nat):Int),[])) (Cb λν=>IR (h::r) (vE (A2 h 5),okE (A2 h 5)) ν)=_;rw[hq,OE,Bv]
   cases r.all okF with
   | false=>rfl
   | true=>rfl
def Am5 {α β:Type}(none_:β)(ack:Aw→β)(com:AO→β):Option (Sum Aw AO)→β
 | none=>none_
 | some (.inl id)=>ack id
 | some (.inr c)=>com c
theorem Acx {h:List Aw}{r:List (List Aw)}(hn:On rc (h::r)=Ai) :
  (r=[]→(h.length:Int)=2→Ny (A2 h 1)≠(rc,0))∧(¬ (h.length:Int)=2→Wj (h::r)=Af→Lv (Tq (h::r))≠(rc,0)):=by
 unfold On at hn;rw[show A2 (h::r) 0=h from rfl] at hn;refine⟨λhr h2 ha=>?_,λh2 hg he=>?_⟩
 ·subst hr;rw[Aqo h2,Aqo ha] at hn
  cases hn
 ·rw[Aqn h2,AqW,Aqr,hg,Aqo he] at hn
  cases hn
theorem AiW {id:Aw}{l:List (List Aw)}(h:Ny id=(rc,0))(hl:I4 (Cq (Ae rc) rc).1=l):l=[[AeM,id]]∧(Cq (Ae rc) rc).2=Ae rc:=by
 obtain⟨h3,h4,_⟩:=Xv (AjK h).2;rw[h3] at hl ⊢;exact⟨hl.symm.trans h4,rfl⟩
theorem AiV {l:List (List Aw)}(h:Lv c=(rc,0))(hl:I4 (Cq (Ae rc) rc).1=l):l=AbI c∧(Cq (Ae rc) rc).2=Ae rc:=by
 obtain⟨h3,h4,_⟩:=Xv (Abc h).2;rw[h3] at hl ⊢;exact⟨hl.symm.trans h4,rfl⟩
theorem Ajv {h:List Aw}{r:List (List Aw)}(h6:(h.length:Int)=6)(hr:r.all okF=Af)(ho:Yx h=Af)(he:Lv (VW h (r.map MU))=(rc,0)):Wj (h::r)=Af∧Tq (h::r)=VW h (r.map MU):=by
 have hres:=(Lt (Abc he).1).res;have hne : ¬ A2 h 5=([]:Aw):=λe=>by
  have:HZ (vE (A2 h 5))=0:=hres;unfold vE at this;rw[e] at this;exact absurd (show(1:Int)=0 from Ajr.symm.trans this) Al
 unfold Yx okE at ho;rw[Aqn hne] at ho;refine⟨?_,?_⟩
 ·rw[YX,Aqo h6,hr];unfold ok6;rw[Aq9] at ho;rw[ho];rfl
 ·rw[Ab4];unfold hd6 VW vE;rw[Aqn hne];rfl
theorem WA (bs:List Aw):Ae (I4 bs)=Ae bs:=by simp[I4]
theorem AeR (hF:270000<F){o:A8}(hm:o.ax=Af)(hs:Ae rc<F)(hl:Ae rc≤100000000) :
  NT F o rc=Am5 (α:=Unit) (Ad (13,o)) (λid=>BB (QF F o id) λr=>Ad (0,r.2)) (λc=>BB (JT F o c) λr=>Ad (r.2.1,r.2.2)) (Ku rc):=by
 unfold NT;rw[hm,AF An,AbK hF hs hl,Bv];have hn:=PU rc;have hrl:=WA (Cq (Ae rc) rc).1;have hgen:∀l,I4 (Cq (Ae rc) rc).1=l→Tz (Cq (Ae rc) rc).1=Af→Ku rc=On rc l:=λl hl ha=>by unfold Ku;rw[ha,hl];rfl
 by_cases hw:((!Ac (((Cq (Ae rc) rc).2:Int)=(Ae rc:Int)))||decide ((Ae (Cq (Ae rc) rc).1:Int)=0))=Af
 · -- not whole
  have hk:Ku rc=Ai:=by
   cases hk:Ku rc with
   | none=>rfl
   | some q=>
    exfalso;unfold Ku at hk
    cases ha:Tz (Cq (Ae rc) rc).1 with
    | false=>rw[ha] at hk;cases hk
    | true=>
     rw[ha,Aqv] at hk;have key:(Cq (Ae rc) rc).2=Ae rc∧0<Ae (I4 (Cq (Ae rc) rc).1):=by
      unfold On at hk
      cases h1:Ac ((Ae (I4 (Cq (Ae rc) rc).1):Int)=1)&&Ac ((Ae (A2 (I4 (Cq (Ae rc) rc).1) 0):Int)=2) with
      | true=>
       rw[h1,Aqv] at hk
       cases h2:Ac (Ny (A2 (A2 (I4 (Cq (Ae rc) rc).1) 0) 1)=(rc,0)) with
       | false=>rw[h2] at hk;cases hk
       | true=>
        obtain⟨e1,e2⟩:=AiW (Aq0 h2) rfl;exact⟨e2,by rw[e1];exact Nat.succ_pos _⟩
      | false=>
       rw[h1,Aqr] at hk
       cases h2:Wj (I4 (Cq (Ae rc) rc).1)&&Ac (Lv (Tq (I4 (Cq (Ae rc) rc).1))=(rc,0)) with
       | false=>rw[h2] at hk;cases hk
       | true=>
        simp only[Aqu,Aqq] at h2;obtain⟨e1,e2⟩:=AiV h2.2 rfl;exact⟨e2,by rw[e1];exact Nat.succ_pos _⟩
     simp only[AqF,Aq6,Aqt,Aqq] at hw;rw[key.1] at hw;have:=key.2;rw[hrl] at this;rcases hw with hw | hw
     ·exact hw rfl
     ·omega
  rw[hw,hk];rfl
 ·simp only[Bool.not_eq_true] at hw;rw[hw,Aqr];simp only[AqD,Arm,Aqt,Aqq] at hw
  cases ha:Tz (Cq (Ae rc) rc).1 with
  | false=>
   have hk:Ku rc=Ai:=by unfold Ku;rw[ha];rfl
   rw[hk];rfl
  | true=>
   rw[Aqv];simp only;generalize hrows:I4 (Cq (Ae rc) rc).1=l at hrl;have hk:=hgen l hrows ha;have hsm:SmR l:=by rw[← hrows];exact U9 ha
   cases l with
   | nil=>exfalso;simp at hrl;omega
   | cons h r=>
    rw[show A2 (h::r) 0=h from rfl];have hh:=hsm h Aj;have hr1:SmR r:=λg hg=>hsm g (by simp[hg]);have c1:imp (!(!Af)) (CE 0 (Ae (h::r):Int))=Af:=by rw[L7 Ab Aj];rfl
    rw[c1,JB,hk];simp only[Aq5,Aq9]
    by_cases h0:(h.length:Int)=0
    ·rw[AX (Aqo h0)];have:On rc (h::r)=Ai:=by
      unfold On;rw[show A2 (h::r) 0=h from rfl,Aqn (show ¬ (h.length:Int)=2 by omega),AqW,Aqr,YX,Aqn (show ¬ (h.length:Int)=6 by omega)];rfl
     rw[this];rfl
    ·rw[AF (Aqn h0),Bi Ab Aj,Bi Ab Ab];have hlen1:Ac ((Ae (h::r):Int)=1)=Ac (r=[]):=by cases r<;>simp;omega
     rw[hlen1]
     cases hL:On rc (h::r) with
     | some q=>
      unfold On at hL;rw[show A2 (h::r) 0=h from rfl,hlen1] at hL
      cases h1:Ac (r=[])&&Ac ((h.length:Int)=2) with
      | true=>
       rw[h1,Aqv] at hL
       cases h2:Ac (Ny (A2 h 1)=(rc,0)) with
       | false=>rw[h2] at hL;cases hL
       | true=>
        rw[h2,Aqv] at hL
        cases hL
        have ha2:=Aq0 h2;obtain⟨e1,_⟩:=AiW ha2 hrows;have eh:h=[AeM,A2 h 1]:=(List.cons.inj e1).1;have e0:A2 h 0=AeM:=by rw[eh];rfl
        rw[e0,Aqo (show AeM=([97,99,107]:Aw) from rfl),Aq3,Jc];have hh1:=GP hh 1;have hb:=(Bool.and_eq_true_iff.1 h1).2;rw[Bi Ab (by have:=Aq0 hb;omega),Kj hF Ab,Bv,ha2];rw[AF Aj];rfl
      | false=>
       rw[h1,Aqr] at hL
       cases h2:Wj (h::r)&&Ac (Lv (Tq (h::r))=(rc,0)) with
       | false=>rw[h2] at hL;cases hL
       | true=>
        rw[h2,Aqv] at hL
        cases hL
        simp only[Aqu,Aqq] at h2;obtain⟨hg,he⟩:=h2;obtain⟨e1,_⟩:=AiV he hrows;have eh:h=hdM (Tq (h::r)):=(List.cons.inj e1).1;have e0:A2 h 0=Yd:=by rw[eh];rfl
        rw[e0,Aqn (show ¬ Yd=([97,99,107]:Aw) by decide),AqN,Dv,AF Al];rw[QK Ab hsm (by simp at hrl;omega) (by simp at hrl;omega),Bv];rw[YX] at hg;simp only[Aqu] at hg;obtain⟨g1,g2,g3⟩:=hg;have hne : ¬ A2 h 5=([]:Aw):=λe=>by
         unfold ok6 at g2;simp only[Aqu,Aqq] at g2;rw[e,Aj0] at g2;exact absurd (show(1:Int)=0 from g2.2.2) Al
        have g4:Yx h=Af:=by
         unfold ok6 at g2;unfold Yx okE;rw[Aqn hne];exact g2
        have g5:VW h (r.map MU)=Tq (h::r):=by
         rw[Ab4];unfold VW hd6 vE;rw[Aqn hne];rfl
        rw[g1,g3,g4,Bool.and_self,Bool.and_self,Aqv];simp only;rw[g5,AF An,Nc (M:=4000) (c:=Tq (h::r)) (AaQ hh (λx hx=>by
         obtain⟨g,hg,rfl⟩:=List.mem_map.1 hx;exact Uq (hr1 g hg))) Al Ab Ab,Bv,he]
        rw[AF Aj];rfl
     | none=>
      obtain⟨n1,n2⟩:=Acx hL;show _=Ad (13,o)
      cases h1:(Ac (A2 h 0=([97,99,107]:Aw)))&&(Ac (r=[])&&Ac ((h.length:Int)=2)) with
      | true=>
       simp only[Aqu,Aqq] at h1;rw[Jc,Bi Ab Ab,Kj hF (by have:=GP hh 1;omega),Bv];have hn:=n1 h1.2.1 h1.2.2;rw[AX ?_]
       cases hq:Ac ((Ny (A2 h 1)).2=0) with
       | false=>rfl
       | true=>
        cases hq2:Ac ((Ny (A2 h 1)).1=rc) with
        | false=>rfl
        | true=>exact absurd (Prod.ext (Aq0 hq2) (Aq0 hq)) hn
      | false=>
       rw[Dv]
       cases hc:Ac (A2 h 0=([99,111,109,109,105,116]:Aw)) with
       | false=>rfl
       | true=>
        rw[AF An,QK Ab hsm (by simp at hrl;omega) (by simp at hrl;omega),Bv]
        cases hg:Ac ((h.length:Int)=6)&&(Yx h&&r.all okF) with
        | false=>rfl
        | true=>
         simp only[Aqu,Aqq] at hg;obtain⟨g1,g2,g3⟩:=hg;rw[Aqv];simp only;rw[AF An,Nc (M:=4000) (c:=VW h (r.map MU)) ⟨by
          show Mh 4000 (vE (A2 h 5));unfold vE
          cases Ac (A2 h 5=([]:Aw)) with
          | true=>exact⟨Al,Aj,λc hc=>by cases hc⟩
          | false=>exact YW _,λx hx=>by
          obtain⟨g,hg,rfl⟩:=List.mem_map.1 hx;exact Uq (hr1 g hg),by have:=GP hh 1;show(A2 h 1).length≤_;omega,by have:=GP hh 2;show(A2 h 2).length≤_;omega⟩ Al Ab Ab,Bv]
         rw[AX ?_]
         cases hq:Ac ((Lv (VW h (r.map MU))).2=0) with
         | false=>rfl
         | true=>
          cases hq2:Ac ((Lv (VW h (r.map MU))).1=rc) with
          | false=>rfl
          | true=>
           exfalso;have he:Lv (VW h (r.map MU))=(rc,0):=Prod.ext (Aq0 hq2) (Aq0 hq);obtain⟨d1,d2⟩:=Ajv g1 g3 g2 he;exact n2 Ab d1 (by rw[d2];exact he)
theorem LY:∀a:Aw,CH a a=Ah
 | []=>rfl
 | x::a=>by
  show Op.bytesLess (x::a) (x::a)=Ah;have h : ¬ x<x:=λh=>absurd h Aj;have ih:Op.bytesLess a a=Ah:=LY a;simp[Op.bytesLess,h,ih]
theorem XZ (x y:UInt8)(a b:Aw):CH (x::a) (y::b)=(Ac (x<y)||(Ac (x=y)&&CH a b)):=by
 show Op.bytesLess (x::a) (y::b)=_;simp only[Op.bytesLess]
 by_cases h:x<y
 ·simp[h]
 ·by_cases e:x=y
  ·subst e;simp[h]
  ·have:y<x:=by
    rcases Nat.lt_trichotomy x.toNat y.toNat with h1 | h1 | h1
    ·exact absurd (UInt8.lt_iff_toNat_lt.2 h1) h
    ·exact absurd (UInt8.toNat_inj.1 h1) e
    ·exact UInt8.lt_iff_toNat_lt.2 h1
   simp[h,e,this]
theorem NM:∀{a b c:Aw},CH a b=Af→CH b c=Af→CH a c=Af
 | [],[],_,h,_=>by cases h
 | [],_::_,[],_,h=>by cases h
 | [],_::_,_::_,_,_=>rfl
 | _::_,[],_,h,_=>by cases h
 | _::_,_::_,[],_,h=>by cases h
 | x::a,y::b,z::c,h,h'=>by
  rw[XZ] at h h' ⊢;simp only[AqF,Aqq,Aqu] at h h' ⊢;have t:∀{u v:UInt8},u<v↔u.toNat<v.toNat:=UInt8.lt_iff_toNat_lt;rcases h with h | ⟨rfl,h⟩
  ·rcases h' with h' | ⟨rfl,h'⟩
   ·exact .inl (t.2 (Nat.lt_trans (t.1 h) (t.1 h')))
   ·exact .inl h
  ·rcases h' with h' | ⟨rfl,h'⟩
   ·exact .inl h'
   ·exact .inr ⟨rfl,NM h h'⟩
theorem U4:∀(a b:Aw),CH a b=Af∨a=b∨CH b a=Af
 | [],[]=>.inr (.inl rfl)
 | [],_::_=>.inl rfl
 | _::_,[]=>.inr (.inr rfl)
 | x::a,y::b=>by
  rw[XZ,XZ];simp only[AqF,Aqq,Aqu];rcases Nat.lt_trichotomy x.toNat y.toNat with h1 | h1 | h1
  ·exact .inl (.inl (UInt8.lt_iff_toNat_lt.2 h1))
  ·have e:=UInt8.toNat_inj.1 h1;subst e;rcases U4 a b with h | rfl | h
   ·exact .inl (.inr ⟨rfl,h⟩)
   ·exact .inr (.inl rfl)
   ·exact .inr (.inr (.inr ⟨rfl,h⟩))
  ·exact .inr (.inr (.inl (UInt8.lt_iff_toNat_lt.2 h1)))
variable{a:Aw}
theorem U5 (h:CH a b=Af):CH b a=Ah:=by
 cases h':CH b a with
 | false=>rfl
 | true=>have:=NM h h';rw[LY] at this;cases this
theorem AlR (h:CH a b=Af):a≠b:=λe=>by subst e;rw[LY] at h;cases h
variable{k:Aw}
section
variable {T : Type}
def Ms (xs:List (Aw×T)):Prop:=xs.Pairwise λp q=>CH p.1 q.1=Af
theorem Ms.nil:Ms ([]:List (Aw×T)):=List.Pairwise.nil
theorem Ms.nodup {xs:List (Aw×T)}(h:Ms xs):(xs.map (·.1)).Nodup:=by
 rw[List.Nodup,List.pairwise_map];exact h.imp λhpq=>AlR hpq
theorem HD {xs:List (Aw×T)}:CZ xs k=Ai↔∀p∈xs,p.1≠k:=by
 induction xs with
 | nil=>simp[CZ]
 | cons p r ih=>
  rw[CZ]
  by_cases h:p.1=k
  ·rw[Aqo h];simp[h]
  ·rw[Aqn h];simp[h,ih]
theorem HW {xs:List (Aw×T)}{v:T}(h:CZ xs k=Ad v):(k,v)∈xs:=by
 induction xs with
 | nil=>cases h
 | cons p r ih=>
  rw[CZ] at h
  by_cases e:p.1=k
  ·rw[Aqo e] at h;cases h;subst e;exact List.mem_cons_self ..
  ·rw[Aqn e] at h;exact List.mem_cons_of_mem _ (ih h)
theorem Lo {xs:List (Aw×T)}{v:T}(hn:(xs.map (·.1)).Nodup)(h:(k,v)∈xs):CZ xs k=Ad v:=by
 induction xs with
 | nil=>cases h
 | cons p r ih=>
  rw[AqY,List.nodup_cons] at hn;rw[CZ];rcases List.mem_cons.1 h with h | h
  ·subst h;rw[Aqo rfl];rfl
  ·have hne : ¬ p.1=k:=λe=>hn.1 (by rw[e];exact List.mem_map.2 ⟨(k,v),h,rfl⟩);rw[Aqn hne];exact ih hn.2 h
theorem AfH (xs:List (Aw×T))(k k':Aw)(v:T):CZ (mput xs k v) k'=bif Ac (k'=k) then(CZ xs k).map (λ_=>v) else CZ xs k':=by
 induction xs with
 | nil=>cases Ac (k'=k)<;>rfl
 | cons p r ih=>
  show CZ ((bif Ac (p.1=k) then(k,v) else p)::mput r k v) k'=_
  by_cases h:p.1=k
  ·rw[Aqo h];simp only[Aqv,CZ]
   by_cases e:k'=k
   ·subst e;rw[Aqo rfl,h,Aqo rfl];rfl
   ·rw[Aqn (Ne.symm e),Aqn e,ih,Aqn e,h,Aqn (Ne.symm e)];rfl
  ·rw[Aqn h];simp only[Aqr,CZ];rw[ih]
   by_cases e:k'=k
   ·subst e;rw[Aqo rfl,Aqn h];rfl
   ·rw[Aqn e]
    cases Ac (p.1=k')<;>rfl
theorem AfI (xs:List (Aw×T))(k k':Aw)(v:T)(h:CZ xs k=Ai):CZ (mins k v xs) k'=bif Ac (k'=k) then Ad v else CZ xs k':=by
 induction xs with
 | nil=>
  show(bif Ac (k=k') then Ad v else Ai)=bif Ac (k'=k) then Ad v else Ai
  by_cases e:k'=k
  ·rw[Aqo e,Aqo e.symm]
  ·rw[Aqn e,Aqn (Ne.symm e)]
 | cons p r ih=>
  rw[CZ] at h
  by_cases hk:p.1=k
  ·rw[Aqo hk] at h;cases h
  ·rw[Aqn hk] at h;rw[mins]
   cases CH k p.1 with
   | true=>
    simp only[Aqv,CZ]
    by_cases e:k'=k
    ·subst e;rw[Aqo rfl]
     try rfl
    ·rw[Aqn e,Aqn (Ne.symm e)]
     try rfl
   | false=>
    simp only[Aqr,CZ];rw[ih h]
    by_cases e:k'=k
    ·subst e;rw[Aqo rfl,Aqn hk];rfl
    ·rw[Aqn e]
     cases Ac (p.1=k')<;>rfl
theorem OV (xs:List (Aw×T))(k k':Aw)(v:T):CZ (mset xs k v) k'=bif Ac (k'=k) then Ad v else CZ xs k':=by
 unfold mset Hh
 cases h:CZ xs k with
 | none=>exact AfI xs k k' v h
 | some w=>
  simp only[Option.isSome_some,Aqv];rw[AfH,h]
  cases Ac (k'=k)<;>rfl
theorem AfJ (xs:List (Aw×T))(k k':Aw):CZ (mdel xs k) k'=bif Ac (k'=k) then Ai else CZ xs k':=by
 unfold mdel
 induction xs with
 | nil=>cases Ac (k'=k)<;>rfl
 | cons p r ih=>
  by_cases h:p.1=k
  ·rw[List.filter_cons_of_neg (by simp[h]),ih,CZ]
   by_cases e:k'=k
   ·rw[Aqo e];rfl
   ·rw[Aqn e,h,Aqn (Ne.symm e)];rfl
  ·rw[List.filter_cons_of_pos (by simp[h]),CZ,CZ,ih]
   by_cases e:k'=k
   ·rw[Aqo e,e,Aqn h];rfl
   ·rw[Aqn e]
    cases Ac (p.1=k')<;>rfl
theorem Aa9 {k:Aw}{v:T}{q:Aw×T}:∀{xs:List (Aw×T)},q∈mins k v xs→q=(k,v)∨q∈xs
 | [],h=>by simp[mins] at h;exact .inl h
 | p::r,h=>by
  rw[mins] at h
  cases hs:CH k p.1 with
  | true=>rw[hs] at h;simpa using h
  | false=>
   rw[hs] at h;rcases List.mem_cons.1 h with h | h
   ·exact .inr (by rw[h];exact List.mem_cons_self ..)
   ·rcases Aa9 h with h | h
    ·exact .inl h
    ·exact .inr (List.mem_cons_of_mem _ h)
theorem Ms.mins {k:Aw}{v:T}:∀{xs:List (Aw×T)},Ms xs→CZ xs k=Ai→Ms (mins k v xs)
 | [],_,_=>List.pairwise_singleton ..
 | p::r,h,hk=>by
  obtain⟨h1,h2⟩:=List.pairwise_cons.1 h;rw[CZ] at hk
  by_cases e:p.1=k
  ·rw[Aqo e] at hk;cases hk
  ·rw[Aqn e] at hk;rw[Proofs.YtiddaamglmmnaaaGreatDoor.mins]
   cases hs:CH k p.1 with
   | true=>exact List.pairwise_cons.2 ⟨λq hq=>by
     rcases List.mem_cons.1 hq with rfl | hq
     ·exact hs
     ·exact NM hs (h1 q hq),h⟩
   | false=>
    have hp:CH p.1 k=Af:=by
     rcases U4 p.1 k with h | h | h
     ·exact h
     ·exact absurd h e
     ·rw[h] at hs;cases hs
    exact List.pairwise_cons.2 ⟨λq hq=>by
     rcases Aa9 hq with rfl | hq
     ·exact hp
     ·exact h1 q hq,Ms.mins h2 hk⟩
theorem Ms.mput {xs:List (Aw×T)}(h:Ms xs)(k:Aw)(v:T):Ms (mput xs k v):=by
 unfold Proofs.YtiddaamglmmnaaaGreatDoor.mput;unfold Ms;rw[List.pairwise_map];refine h.imp fun {p q} hpq=>?_;have e:∀p:Aw×T,(bif Ac (p.1=k) then(k,v) else p).1=p.1:=λp=>by
  by_cases hp:p.1=k
  ·rw[Aqo hp];exact hp.symm
  ·rw[Aqn hp];rfl
 rw[e,e];exact hpq
theorem Ms.mset {xs:List (Aw×T)}(h:Ms xs)(k:Aw)(v:T):Ms (mset xs k v):=by
 unfold Proofs.YtiddaamglmmnaaaGreatDoor.mset Hh
 cases hk:CZ xs k with
 | none=>exact h.mins hk
 | some w=>exact h.mput k v
theorem Ms.mdel {xs:List (Aw×T)}(h:Ms xs)(k:Aw):Ms (mdel xs k):=h.sublist (List.filter_sublist ..)
theorem Ms.ext:∀{xs ys:List (Aw×T)},Ms xs→Ms ys→(∀k,CZ xs k=CZ ys k)→xs=ys
 | [],[],_,_,_=>rfl
 | [],q::s,_,_,h=>by
  have:=h q.1;rw[CZ,CZ,Aqo rfl] at this;cases this
 | p::r,[],_,_,h=>by
  have:=h p.1;rw[CZ,CZ,Aqo rfl] at this;cases this
 | p::r,q::s,hx,hy,h=>by
  obtain⟨x1,x2⟩:=List.pairwise_cons.1 hx;obtain⟨y1,y2⟩:=List.pairwise_cons.1 hy;have hpq:p.1=q.1:=by
   have a1:=h p.1;have a2:=h q.1;rw[CZ,Aqo rfl] at a1;rw[show CZ (q::s) q.1=bif Ac (q.1=q.1) then Ad q.2 else CZ s q.1 from rfl,Aqo rfl] at a2;simp only[Aqv] at a1 a2;have m1:=HW a1.symm;have m2:=HW a2;rcases List.mem_cons.1 m1 with e | m1
   ·exact congrArg Prod.fst e
   ·rcases List.mem_cons.1 m2 with e | m2
    ·exact(congrArg Prod.fst e).symm
    ·have c1:=y1 _ m1;have c2:=x1 _ m2;have:=NM c1 c2;rw[LY] at this;cases this
  have e:p=q:=by
   have a1:=h p.1;rw[CZ,Aqo rfl,CZ,Aqo hpq.symm] at a1;simp only[Aqv,Option.some.injEq] at a1;exact Prod.ext hpq a1
  subst e;rw[Ms.ext x2 y2 λk=>by
   have a1:=h k;rw[CZ,CZ] at a1
   by_cases e:p.1=k
   ·have n1:CZ r k=Ai:=HD.2 λz hz e'=>by have:=x1 z hz;rw[e',← e,LY] at this;cases this
    have n2:CZ s k=Ai:=HD.2 λz hz e'=>by have:=y1 z hz;rw[e',← e,LY] at this;cases this
    rw[n1,n2]
   ·rw[Aqn e] at a1;exact a1]
end
theorem AaD {T St R:Type}(body:T→St→Option (Stp St (Out R St)))(g:T→St→St)(I:St→Prop):∀(ord:List T) (s:St),I s→(∀p∈ord,∀s,I s→body p s=Ad (.next (g p s))∧I (g p s))→Xn body ord s=Ad (.go (ord.foldl (λs p=>g p s) s))∧I (ord.foldl (λs p=>g p s) s)
 | [],s,hi,_=>⟨rfl,hi⟩
 | p::r,s,hi,h=>by
  obtain⟨h1,h2⟩:=h p (List.mem_cons_self ..) s hi;obtain⟨h3,h4⟩:=AaD body g I r (g p s) h2 λq hq=>h q (List.mem_cons_of_mem _ hq);exact⟨by rw[Xn,h1];exact h3,h4⟩
section
variable {T : Type}
theorem AfG {xs ys:List (Aw×T)}(h:ys.Perm xs)(hn:(xs.map (·.1)).Nodup)(k:Aw):CZ ys k=CZ xs k:=by
 have hn':(ys.map (·.1)).Nodup:=(h.map _).nodup_iff.2 hn
 cases e:CZ xs k with
 | none=>exact HD.2 λp hp=>(HD.1 e) p (h.subset hp)
 | some v=>exact Lo hn' (h.symm.subset (HW e))
def apF (del:T→Bool)(xs:List (Aw×T))(p:Aw×T):List (Aw×T):=bif del p.2 then mdel xs p.1 else mset xs p.1 p.2
theorem Ant {del:T→Bool}{xs:List (Aw×T)}(h:Ms xs)(p:Aw×T):Ms (apF del xs p):=by
 unfold apF
 cases del p.2 with
 | true=>exact h.mdel _
 | false=>exact h.mset _ _
theorem TX {del:T→Bool}:∀(ord:List (Aw×T)) {xs:List (Aw×T)},Ms xs→Ms (ord.foldl (apF del) xs)
 | [],_,h=>h
 | p::r,_,h=>TX r (Ant h p)
theorem Aiy {del:T→Bool}(xs:List (Aw×T))(p:Aw×T)(k:Aw):CZ (apF del xs p) k=bif Ac (k=p.1) then(bif del p.2 then Ai else Ad p.2) else CZ xs k:=by
 unfold apF
 cases del p.2 with
 | true=>exact AfJ xs p.1 k
 | false=>exact OV xs p.1 k p.2
theorem OW {del:T→Bool}:∀(ord:List (Aw×T)) (xs:List (Aw×T)) (k:Aw),(ord.map (·.1)).Nodup→CZ (ord.foldl (apF del) xs) k=match CZ ord k with
  | none=>CZ xs k
  | some v=>bif del v then Ai else Ad v
 | [],xs,k,_=>rfl
 | p::r,xs,k,h=>by
  rw[AqY,List.nodup_cons] at h;rw[List.foldl_cons,OW r _ k h.2,CZ,Aiy]
  by_cases e:p.1=k
  ·have hn:CZ r k=Ai:=HD.2 λq hq e'=>h.1 (by rw[e,← e'];exact List.mem_map.2 ⟨q,hq,rfl⟩);rw[hn,Aqo e,Aqo e.symm];rfl
  ·rw[Aqn e,Aqn (Ne.symm e)];rfl
theorem Agz {del:T→Bool}{xs ys zs:List (Aw×T)}(hz:Ms zs)(hx:Ms xs)(h:ys.Perm xs):ys.foldl (apF del) zs=xs.foldl (apF del) zs:=
 Ms.ext (TX ys hz) (TX xs hz) λk=>by
  rw[OW ys zs k ((h.map _).nodup_iff.2 hx.nodup),OW xs zs k hx.nodup,AfG h hx.nodup]
end
theorem PS (a:Aw) : ¬ a<a:=List.lt_irrefl a
theorem Wz {c:Aw}(h:a<b)(h2:b<c):a<c:=List.lt_trans h h2
theorem AeI (h:a<b) : ¬ b<a:=λh2=>PS a (Wz h h2)
theorem Adi (a b:Aw):a<b∨a=b∨b<a:=by
 by_cases h:a<b
 ·exact .inl h
 ·by_cases h2:b<a
  ·exact .inr (.inr h2)
  ·have e1:a≤b:=h2;have e2:b≤a:=h;exact .inr (.inl (List.le_antisymm e1 e2))
theorem AeH {c:Aw}(h:a≤b)(h2:b<c):a<c:=by
 rcases Adi a b with e | e | e
 ·exact Wz e h2
 ·rw[e];exact h2
 ·exact absurd e h
theorem AeG (h:a≤b)(h2:a≠b):a<b:=by
 rcases Adi a b with e | e | e
 ·exact e
 ·exact absurd e h2
 ·exact absurd e h
theorem SJ:∀(a b:List Aw),a.Pairwise (· < ·)→b.Pairwise (· < ·)→(∀x,x∈a↔x∈b)→a=b
 | [],[],_,_,_=>rfl
 | [],y::b,_,_,h=>by have:=(h y).2 Aj;simp at this
 | x::a,[],_,_,h=>by have:=(h x).1 Aj;simp at this
 | x::a,y::b,ha,hb,h=>by
  have ha':=List.pairwise_cons.1 ha;have hb':=List.pairwise_cons.1 hb;have e:x=y:=by
   rcases List.mem_cons.1 ((h x).1 Aj) with e | hx
   ·exact e
   ·rcases List.mem_cons.1 ((h y).2 Aj) with e | hy
    ·exact e.symm
    ·exact absurd (ha'.1 y hy) (AeI (hb'.1 x hx))
  subst e;have:a=b:=SJ a b ha'.2 hb'.2 λz=>by
   constructor
   ·intro hz;rcases List.mem_cons.1 ((h z).1 (by simp[hz])) with e | hz2
    ·subst e;exact absurd (ha'.1 _ hz) (PS _)
    ·exact hz2
   ·intro hz;rcases List.mem_cons.1 ((h z).2 (by simp[hz])) with e | hz2
    ·subst e;exact absurd (hb'.1 _ hz) (PS _)
    ·exact hz2
  rw[this]
theorem PI (zs:List Aw)(hs:zs.Pairwise (·≤·)):∀k,k≤Ae zs→(Lib.compactUpTo zs.toArray k).Pairwise (· < ·)∧(∀x,x∈Lib.compactUpTo zs.toArray k↔x∈zs.take k)
 | 0,_=>by simp[Lib.compactUpTo]
 | k+1,hk=>by
  obtain⟨h1,h2⟩:=PI zs hs k Ab;have hkl:k<Ae zs:=Ab
  have hz:zs.toArray[k]! =zs[k]:=by simp[hkl]
  have ht:zs.take (k+1)=zs.take k++[zs[k]]:=by rw[List.take_add_one,Aqx hkl];rfl
  have hsi:=List.pairwise_iff_getElem.1 hs;rw[Lib.compactUpTo_succ,ht]
  by_cases hkp:Lib.keeps zs.toArray k=Af
  ·rw[Arc hkp,hz];refine⟨List.pairwise_append.2 ⟨h1,Aj,λx hx y hy=>?_⟩,λx=>by rw[List.mem_append,List.mem_append,h2]⟩;simp only[AqG] at hy;subst hy;obtain⟨i,hi,rfl⟩:=List.getElem_of_mem ((h2 x).1 hx);have hik:i<k:=by simp at hi;omega
   rw[List.getElem_take];simp only[Lib.keeps,Aqq,hz] at hkp;have hz1:zs.toArray[k-1]! =zs[k-1]'(Ab):=by simp[show k-1<Ae zs by omega]
   rw[hz1] at hkp;have hne:zs[k]≠zs[k-1]'(Ab):=hkp.resolve_left Ab;have hlt:zs[k-1]'(Ab)<zs[k]:=AeG (hsi (k-1) k Ab hkl Ab) (λe=>hne e.symm)
   by_cases he:i=k-1
   ·subst he;exact hlt
   ·exact AeH (hsi i (k-1) Ab Ab Ab) hlt
  ·rw[AqM hkp];refine⟨by simpa using h1,λx=>?_⟩;simp only[Lib.keeps,Aqq,hz,not_or,Decidable.not_not] at hkp;have hz1:zs.toArray[k-1]! =zs[k-1]'(Ab):=by simp[show k-1<Ae zs by omega]
   rw[hz1] at hkp;rw[AqJ,List.mem_append,h2,AqG];constructor
   ·exact .inl
   ·rintro(h | rfl)
    ·exact h
    ·rw[hkp.2];have:(zs.take k)[k-1]'(Am)=zs[k-1]'(Ab):=List.getElem_take;rw[← this];exact List.getElem_mem _
theorem Wa (ss:List Aw):(Ds ss).Pairwise (· < ·)∧∀x,x∈Ds ss↔x∈ss:=by
 have hs:(ss.mergeSort λx y=>Ac (x≤y)).Pairwise (·≤·):=by
  have:=List.pairwise_mergeSort (le:=λ(x y:Aw)=>Ac (x≤y)) (λa b c h1 h2=>by
   simp only[Aqq] at *;exact List.le_trans h1 h2) (λa b=>by
   simp only[AqF,Aqq];exact List.le_total a b) ss
  exact this.imp (λh=>by simpa using h)
 have h:=PI _ hs _ (Aq7 _);unfold Ds Lib.compact;refine⟨h.1,λx=>?_⟩;rw[h.2,Arn,List.mem_mergeSort]
abbrev L4:=List (Aw×Az)
def S6:Az:=⟨[],0⟩
def Jj (m:L4)(x:A1):Out (Int×L4) L4:=
 bif Ac (x.aa=1) then(bif Ac (256<(Ae (mset m x.ap ⟨x.aj,(C8 m x.ap S6).aq+1⟩):Int)) then .ret (3,mset m x.ap ⟨x.aj,(C8 m x.ap S6).aq+1⟩) else .go (mset m x.ap ⟨x.aj,(C8 m x.ap S6).aq+1⟩))
 else bif Ac (x.aa=2) then .go (mdel m x.ap) else .go m
def AbH (m:L4)(l:List A1):Out (Int×L4) L4:=Ex (λ_=>Jj) 0 m l
def mkG (c:AO)(i:Nat)(x:A1):A0:=⟨Df c.ai (i:Int),c.ag,c.ai,c.aG,x⟩
def Ng (c:AO):Nat→List A1→List A0
 | _,[]=>[]
 | i,x::r=>(bif Km x.aa then[mkG c i x] else[])++Ng c (i+1) r
def Qw (o:AE)(t:Aw):L4:=C8 o.aC t []
def Ik (o:AE)(c:AO):Bool×Int×AE:=
 bif !Ac (Mf c=0) then(Ah,Mf c,o) else
 bif Hh o.ao c.ai then(Ah,0,o) else
 bif Ac (4000≤(Ae o.ah:Int)) then(Ah,3,o) else
 match AbH (Qw o c.ag) c.ac with
 | .ret q=>(Ah,3,o)
 | .go m=>(Af,0,⟨o.ax,o.ah++[c.ai],mset o.ao c.ai c.az,mset o.aC c.ag m,o.ae++Ng c 0 c.ac⟩)
def Wi (l:List A0)(id:Aw):Option Nat:=l.findIdx? λx=>Ac (x.aO=id)
def VP (o:AE)(id:Aw):Int×AE:=
 match Wi o.ae id with
 | none=>(5,o)
 | some i=>(0,⟨o.ax,o.ah,o.ao,o.aC,o.ae.take i++o.ae.drop (i+1)⟩)
def Rl (o:AE)(rc:Aw):Int×AE:=
 Am5 (α:=Unit) (13,o) (λid=>(0,(VP o id).2)) (λc=>((Ik o c).2.1,(Ik o c).2.2)) (Ku rc)
def Zl (p:Aw×Az):B3:=⟨p.1,p.2.aj,p.2.aq⟩
def Nt (o:AE)(t:Aw):List B3:=(Qw o t).map Zl
def AkR (l:List A0)(n:Int):Aw:=bif Ac (n<0)||decide ((Ae l:Int)≤n) then[] else(A2 l n).aO
def doA (o:AE)(x:BZ):Bool×Int×AE:=
 bif Ac (x.aa=0) then Ik o x.fC else
 bif Ac (x.aa=1) then(Ah,VP o x.fS) else
 bif Ac (x.aa=2) then(Ah,VP o (AkR o.ae x.fN)) else
 bif Ac (x.aa=3) then(Ah,Rl o x.fS) else
 bif Ac (x.aa=4) then(Ah,Rl o (Lv x.fC).1) else(Ah,Rl o (Ny x.fS).1)
structure Px (B:Nat) (m:L4):Prop where
 ms:Ms m
 len:Ae m≤256
 val:∀p∈m,0≤p.2.aq∧p.2.aq≤B∧Ae p.2.aj≤200
structure Ua (n:Nat) (o:AE):Prop where
 made:o.ax=Af
 ev:∀k,Hh o.ao k=Ac (k∈o.ah)
 ln:Ae o.ah≤n
 rs:∀p∈o.ao,Ae p.2≤200
 ks:∀t,Px (32*n) (Qw o t)
 pn:Ae o.ae≤32*n
 pv:∀x∈o.ae,Ae x.aA.aj≤200
 pc:∀x∈o.ae,x.aM∈o.ah∧∃i:Int,DR x.aM i=0∧x.aO=Df x.aM i
 pu:(o.ae.map (·.aO)).Nodup
theorem R2 (h:HZ v=0):Ae v≤200:=by
 unfold HZ at h
 cases hw:whole v with
 | none=>rw[hw] at h;cases h
 | some f=>
  rw[hw] at h;rw[(KR hw).1];exact(AaY h).2.2.1
theorem TS {ev:Aw}{i:Int}{x:A1}(h:R4 ev i x=0):Ae x.aj≤200:=by
 obtain⟨_,_,_,h4,h5,_⟩:=R3 h
 by_cases hk:x.aa=2
 ·rw[h4 hk];simp
 ·exact R2 (h5 hk)
variable{T:Type}
theorem Vm {m:List (Aw×T)}{z:T}:(C8 m k z=z∧CZ m k=Ai)∨((k,C8 m k z)∈m∧CZ m k=Ad (C8 m k z)):=by
 unfold C8
 cases h:CZ m k with
 | none=>exact .inl ⟨rfl,rfl⟩
 | some v=>exact .inr ⟨HW h,rfl⟩
variable{B:Nat}
theorem Px.ver {m:L4}(h:Px B m)(k:Aw):0≤(C8 m k S6).aq∧(C8 m k S6).aq≤B∧Ae (C8 m k S6).aj≤200:=by
 rcases Vm (m:=m) (k:=k) (z:=S6) with⟨e,_⟩ | ⟨e,_⟩
 ·rw[e];exact⟨Al,by show(0:Int)≤_;omega,Al⟩
 ·exact h.val _ e
theorem Xl {xs:List (Aw×T)}{v:T}{p:Aw×T}(h:p∈mset xs k v):p=(k,v)∨p∈xs:=by
 unfold mset at h
 cases hh:Hh xs k with
 | true=>
  rw[hh] at h;obtain⟨q,hq,e⟩:=List.mem_map.1 h
  cases hd:Ac (q.1=k) with
  | true=>rw[hd] at e;exact .inl e.symm
  | false=>rw[hd] at e;exact .inr (e▸hq)
 | false=>
  rw[hh] at h;rcases List.mem_cons.1 ((OU k v xs).subset h) with e | e
  ·exact .inl e
  ·exact .inr e
theorem AfK {xs:List (Aw×T)}{p:Aw×T}(h:p∈mdel xs k):p∈xs:=(List.mem_filter.1 h).1
theorem XX {m b:L4}{x:A1}(h:Px B m)(hx:Ae x.aj≤200)(hs:Jj m x = .go b):Px (B+1) b:=by
 unfold Jj at hs
 cases h1:Ac (x.aa=1) with
 | true=>
  rw[h1,Aqv] at hs
  cases h2:Ac (256<(Ae (mset m x.ap ⟨x.aj,(C8 m x.ap S6).aq+1⟩):Int)) with
  | true=>rw[h2] at hs;cases hs
  | false=>
   rw[h2,Aqr] at hs
   cases hs
   refine⟨h.ms.mset _ _,by have:=AqS h2;omega,λp hp=>?_⟩;have hv:=h.ver x.ap;rcases Xl hp with rfl | hp
   ·show 0≤(C8 m x.ap S6).aq+1∧(C8 m x.ap S6).aq+1≤_∧Ae x.aj≤200;exact⟨Ab,Ab,hx⟩
   ·have:=h.val p hp;exact⟨this.1,Ab,this.2.2⟩
 | false=>
  rw[h1,Aqr] at hs
  cases h2:Ac (x.aa=2) with
  | true=>
   rw[h2,Aqv] at hs
   cases hs
   refine⟨h.ms.mdel _,?_,λp hp=>?_⟩
   ·have:=List.length_filter_le (λp:Aw×Az=>!Ac (p.1=x.ap)) m;have:=h.len;show(List.filter _ m).length≤_;omega
   ·have:=h.val p (AfK hp);exact⟨this.1,Ab,this.2.2⟩
  | false=>
   rw[h2,Aqr] at hs
   cases hs
   exact⟨h.ms,h.len,λp hp=>by have:=h.val p hp;exact⟨this.1,Ab,this.2.2⟩⟩
theorem Px.mono {B':Nat}{m:L4}(h:Px B m)(hb:B≤B'):Px B' m:=⟨h.ms,h.len,λp hp=>by have:=h.val p hp;exact⟨this.1,Ab,this.2.2⟩⟩
theorem Ado:∀{l:List A1} {B i:Nat} {m b:L4},Px B m→(∀x∈l,Ae x.aj≤200)→Ex (λ_=>Jj) i m l = .go b→Px (B+Ae l) b
 | [],B,i,m,b,h,_,hr=>by rw[Ex] at hr;cases hr;exact h
 | x::r,B,i,m,b,h,hx,hr=>by
  rw[Ex] at hr
  cases hs:Jj m x with
  | ret q=>rw[hs] at hr;cases hr
  | go b'=>
   rw[hs] at hr;have:=Ado (XX h (hx x Aj) hs) (λy hy=>hx y (by simp[hy])) hr;exact this.mono Am
theorem Qq (h:n≤1000000000):Bc (De 40 n) x=x:=Cn (Aqo Ab)
theorem VF (h:n≤1000000000):Bc (De 48 n) x=x:=Cn (Aqo Ab)
theorem GF (h:n≤1000000000):Bc (De 112 n) x=x:=Cn (Aqo Ab)
theorem L0 (h:n≤1000000000):Bc (De 64 n) x=x:=Cn (Aqo Ab)
theorem Lz (h:Ae v≤1000000000):Kq v=Ad v:=by
 unfold Kq;rw[Qq Am];rfl
theorem AcL {v:List Aw}(h:Ae v≤1000000000):R8 v=Ad v:=by
 unfold R8;rw[I1 Am];rfl
theorem AcM {v:List A0}(h:Ae v≤1000000000):R9 v=Ad v:=by
 unfold R9;rw[GF Am];rfl
theorem AdA {x:A1}(h:Ae x.aj≤1000000000):Ack x=Ad x:=by
 unfold Ack;rw[Lz h,Bv]
theorem Afy {m:L4}{l:List A1}(hF:Ae l<F)(hl:Ae l≤1000000)(hB:B≤1000000)(h:Px B m)(hx:∀x∈l,Ae x.aj≤200):Y4 F m l=Ad (match AbH m l with | .ret q=>q | .go b=>(0,b)):=by
 unfold Y4 AbH;have hh:=(Gr (l:=l) (mk:=λi (acc:L4)=>((i:Int),acc)) (fin:=id) (body:=λσ=>J5 l σ.1 σ.2) (λ_=>Jj) (λi m=>Px (B+i) m) (λi hi acc hP=>by
  have hxi:=hx l[i] (List.getElem_mem hi);have hv:=hP.ver l[i].ap;refine⟨?_,λb hb=>XX hP hxi hb⟩;unfold J5;simp only;rw[AX (Aqo Ab),Bi Ab Ab,C1 hi];unfold Jj KE
  cases Ac (l[i].aa=1) with
  | true=>
   rw[Jc,Lz Ab,Bv,show(Az.mk ([]:(List Av)) 0)=S6 from rfl,AH Ab Ab,AH Ab Ab]
   cases Ac (256<(Ae (mset acc l[i].ap ⟨l[i].aj,(C8 acc l[i].ap S6).aq+1⟩):Int))<;>rfl
  | false=>
   rw[Dv,AH Ab Ab,AH Ab Ab]
   cases Ac (l[i].aa=2)<;>rfl) (λacc hP=>by unfold J5;simp only;rw[AF (Aqn Ab)];rfl) (F:=F) hF (a:=m) h).1
 show BB (Cp (λσ=>J5 l σ.1 σ.2) F (((0:Nat):Int),m)) (Cb λν=>M9 ν)=_;rw[hh,Bv]
 cases Ex (λ_=>Jj) 0 m l<;>rfl
variable{body:Int→Option (Stp Int (Out R U))}
theorem Ala {l:List α}{p:α→Bool}{ret:Nat→R}{u:U}(hb:∀(i:Nat) (h:i<Ae l),body (i:Int)=By (p l[i]) (Ad (.out (.ret (ret i)))) (Ad (.next ((i:Int)+1))))(he:body (Ae l:Int)=Ad (.out (.go u))) :
  ∀(d n i:Nat),i+d=Ae l→d<n→Cp body n (i:Int)=Ad (match (l.drop i).findIdx? p with | some j=>.ret (ret (i+j)) | none=>.go u):=by
 intro d
 induction d with
 | zero=>
  intro n i h hn;obtain⟨n,rfl⟩:∃m,n=m+1:=⟨n-1,Ab⟩
  obtain rfl:i=Ae l:=Ab
  rw[Cp,he,List.drop_length];rfl
 | succ d ih=>
  intro n i h hn;obtain⟨n,rfl⟩:∃m,n=m+1:=⟨n-1,Ab⟩
  have hi:i<Ae l:=Ab
  rw[Cp,hb i hi,List.drop_eq_getElem_cons hi,List.findIdx?_cons]
  cases hp:p l[i] with
  | true=>simp[By]
  | false=>
   have:=ih n (i+1) Ab Ab;simp only[Dv];refine this.trans ?_
   cases(Ap (i+1) l).findIdx? p with
   | none=>rfl
   | some j=>simp only[Option.map_some,AqP,Arl];rw[show i+1+j=i+(j+1) by omega]
theorem MB {l:List α}{p:α→Bool}{ret:Nat→R}{u:U}(hF:Ae l<F)(hb:∀(i:Nat) (h:i<Ae l),body (i:Int)=By (p l[i]) (Ad (.out (.ret (ret i)))) (Ad (.next ((i:Int)+1))))(he:body (Ae l:Int)=Ad (.out (.go u))) :
  Cp body F 0=Ad (match l.findIdx? p with | some j=>.ret (ret j) | none=>.go u):=by
 have h:=Ala hb he (Ae l) F 0 Ab hF;rw[List.drop_zero] at h;refine h.trans ?_
 cases l.findIdx? p with
 | none=>rfl
 | some j=>simp only[AqT]
theorem AfW {l:List A0}(hF:Ae l<F)(hl:Ae l≤1000000)(id:Aw):YJ F l id=Ad (match Wi l id with | some j=>(j:Int) | none=>-1):=by
 unfold YJ Wi;rw[MB (l:=l) (p:=λx=>Ac (x.aO=id)) (ret:=λj:Nat=>(j:Int)) (u:=()) hF (λi h=>by
  unfold MF AdC;rw[AX (Aqo Ab),Bi Ab Ab,C1 h,Bv,AH Ab Ab]) (by unfold MF;rw[AF (Aqn Ab)]),Bv]
 cases l.findIdx? λx=>Ac (x.aO=id)<;>rfl
theorem AcI {l:List A0}(h:i<Ae l):TT l (i:Int) ((i:Int)+1)=Ad (l.take i++l.drop (i+1)):=by
 unfold TT;rw[C0 Ab Ab,C0 Ab Ab,C0 Ab Ab,AF (Aqn Ab),C0 Ab Ab];have e1:Ao (i:Int)=i:=Ab
 have e2:Ao ((i:Int)+1)=i+1:=Ab
 rw[e1,e2,C0 Ab Ab];have e3:Ao ((i+(Ae l-(i+1)):Nat):Int)=i+(Ae l-(i+1)):=Ab
 rw[e3];have hl:Ae (Aq i l++Ap (i+1) l)=i+(Ae l-(i+1)):=by
  rw[Aqs,AqV,AqO];omega
 refine congrArg Ad ?_;rw[Aq4 (Aq i l) (Ap (i+1) l)];rw[← Aq4,← hl,List.take_left' rfl,List.take_left' rfl]
theorem Alo {l:List A0}{id:Aw}(h:Wi l id=Ad i):∃hi:i<Ae l,l[i].aO=id:=by
 unfold Wi at h;obtain⟨hi,hp,_⟩:=List.findIdx?_eq_some_iff_getElem.1 h;exact⟨hi,Aq0 hp⟩
variable{o:AE}
theorem Y5 (h:Ua n o)(hn:n≤100)(hF:5000<F)(id:Aw):Y6 F o id=Ad (VP o id):=by
 have hp:=h.pn;unfold Y6 VP Hw;rw[Bv,h.made,AF An,AfW Ab Ab,Bv]
 cases hi:Wi o.ae id with
 | none=>rfl
 | some i=>
  simp only;obtain⟨hl,_⟩:=Alo hi;rw[AF (Aqn Ab),AcM Ab,Bv,AH Ab Ab,AcI hl,Bv]
theorem SV (h:Ua n o)(hn:n≤100)(hF:5000<F):JX F o=Ad o.ae:=by
 have hp:=h.pn;unfold JX Hw;rw[Bv,h.made,AF An];have hh:=(Gr (l:=o.ae) (mk:=λi (acc:List A0)=>(acc,(i:Int))) (fin:=id) (body:=λσ=>Hx o σ.1 σ.2) (λ_ acc x=>.go (acc++[id x])) (λi acc=>Ae acc=i) (λi hi acc hP=>by
  refine⟨?_,λb hb=>by cases hb;simp[hP]⟩;have hv:=h.pv _ (List.getElem_mem hi);unfold Hx;simp only;rw[AX (Aqo Ab),Bi Ab Ab,C1 hi,AdA Ab,Bv,GF Am,AH Ab Ab];rfl) (λacc hP=>by unfold Hx;simp only;rw[AF (Aqn Ab)];rfl) (F:=F) Ab (a:=[]) rfl).1
 show BB (Cp (λσ=>Hx o σ.1 σ.2) F ([],((0:Nat):Int))) (Cb λν=>IF ν)=_;rw[hh,KZ,Bv];simp[Afq,Cb,IF]
theorem Acm (h:Ua n o)(hn:n≤100):Rc o=Ad o.ah:=by
 have:=h.ln;unfold Rc Hw;rw[Bv,h.made,AF An,AcL Ab,Bv]
theorem Aci (h:Ua n o)(event:Aw):QY o event=Ad (C8 o.ao event [],Hh o.ao event):=by
 unfold QY Hw;rw[Bv,h.made,AF An,Lz (by
  rcases Vm (m:=o.ao) (k:=event) (z:=([]:List Av)) with⟨e,_⟩ | ⟨e,_⟩
  ·rw[e];simp
  ·have:=h.rs _ e;simp only at this;omega),Bv]
theorem Aj4 {m ord:List (Aw×T)}(hm:Ms m)(h:ord.Perm m):ord.foldl (λ(a:List (Aw×T)) p=>mset a p.1 p.2) []=m:=by
 have e:(λ(a:List (Aw×T)) p=>mset a p.1 p.2)=apF (λ_=>Ah):=by funext a p;rfl
 rw[e,Agz (Ms.nil) hm h];exact Ms.ext (TX m Ms.nil) hm λk=>by
  rw[OW m [] k hm.nodup]
  cases CZ m k<;>rfl
theorem W8 {R:Type}(c:AO):∀(l:List A1) (i:Nat) (a:List A0),Ex (R:=R) (λi acc x=>.go (acc++(bif Km x.aa then[mkG c i x] else[]))) i a l = .go (a++Ng c i l)
 | [],i,a=>by simp[Ex,Ng]
 | x::l,i,a=>by
  show Ex (R:=R) (λi acc x=>.go (acc++(bif Km x.aa then[mkG c i x] else[]))) (i+1) (a++(bif Km x.aa then[mkG c i x] else[])) l=_;rw[W8 c l,Ng,Aq4]
theorem Vf (h:Ua n o)(hn:n≤100)(hA:XK M c)(hM:M≤2000000)(hF:M<F)(hF0:5000<F):OP F o c=Ad (Ik o c):=by
 unfold OP Ik Hw;rw[Bv,h.made,AF An,Xe hA hM hF Ab,Bv]
 cases he:Ac (Mf c=0) with
 | false=>rfl
 | true=>
  have ho:=Lt (Aq0 he);have hlen:=ho.len;have hln:=h.ln;have hpn:=h.pn;rw[AF An]
  cases Hh o.ao c.ai with
  | true=>rfl
  | false=>
   rw[Dv]
   cases Ac (4000≤(Ae o.ah:Int)) with
   | true=>rfl
   | false=>
    rw[Dv];show Aa6 (Qw o c.ag) _=Ad (match AbH (Qw o c.ag) c.ac with | .ret q=>_ | .go m=>_);have hk:=h.ks c.ag;have hxs:∀x∈c.ac,Ae x.aj≤200:=λx hx=>by
     obtain⟨i,_,hi⟩:=ho.eff hx;exact TS hi
    refine Aiv λord hp=>?_;have hlf:=(AaD (R:=Bool×Int×AE) (λ(pe:Aw×Az) τ=>Lj pe.1 pe.2 τ) (λpe s=>mset s pe.1 pe.2) (λ_=>True) ord [] trivial (λp _ s _=>⟨rfl,trivial⟩)).1;rw[hlf,Bv,Aj4 hk.ms hp];show Iy F o c (Qw o c.ag)=_;unfold Iy;rw[Afy Ab Ab (by omega:32*n≤1000000) hk hxs,Bv]
    cases hr:AbH (Qw o c.ag) c.ac with
    | ret q=>
     have:q.1=3:=by
      have:∀(l:List A1) (i:Nat) (m:L4),Ex (λ_=>Jj) i m l = .ret q→q.1=3:=by
       intro l
       induction l with
       | nil=>intro i m hq;rw[Ex] at hq;cases hq
       | cons x l ih=>
        intro i m hq;rw[Ex] at hq
        cases hs:Jj m x with
        | go b=>rw[hs] at hq;exact ih _ _ hq
        | ret q'=>
         rw[hs] at hq
         cases hq
         unfold Jj at hs
         cases h1:Ac (x.aa=1) with
         | true=>
          rw[h1,Aqv] at hs
          cases h2:Ac (256<(Ae (mset m x.ap ⟨x.aj,(C8 m x.ap S6).aq+1⟩):Int)) with
          | true=>rw[h2] at hs;cases hs;rfl
          | false=>rw[h2] at hs;cases hs
         | false=>rw[h1,Aqr] at hs;cases h2:Ac (x.aa=2)<;>rw[h2] at hs<;>cases hs
      exact this _ _ _ hr
     simp only;rw[AX (by rw[this];rfl),this]
    | go m=>
     simp only;have hres:=R2 ho.res;rw[AF An,I1 Am,Lz Ab,Bv];have hh:=(Gr (l:=c.ac) (mk:=λi (acc:List A0)=>((i:Int),acc)) (fin:=id) (body:=λσ=>Iz c σ.1 σ.2) (λi acc x=>.go (acc++(bif Km x.aa then[mkG c i x] else[]))) (λi acc=>Ae acc≤Ae o.ae+i) (λi hi acc hP=>by
      have hv:=hxs _ (List.getElem_mem hi);refine⟨?_,λb hb=>by cases hb;rw[Aqs];cases Km c.ac[i].aa<;>simp<;>omega⟩;unfold Iz Li;simp only;rw[AX (Aqo Ab),Bi Ab Ab,C1 hi,QZ,Bv,GZ (by have:=Xy ho.id;omega),AH Ab Ab,AdA Ab,Bv,GF Am,AH Ab Ab,AH Ab Ab]
      cases Km c.ac[i].aa with
      | true=>rfl
      | false=>rw[Dv];simp[Aik]) (λacc hP=>by unfold Iz;simp only;rw[AF (Aqn Ab)];rfl) (F:=F) Ab (a:=o.ae) Ab).1
     show BB (Cp (λσ=>Iz c σ.1 σ.2) F (((0:Nat):Int),o.ae)) (Cb λν=>Lh o c (0,m) c.az ν)=_;rw[hh,W8,Bv];show Ad (Af,(0:Int),AE.mk o.ax _ _ _ _)=Ad (Af,0,AE.mk Af _ _ _ _);rw[h.made];rfl
theorem Aan (q:Aw×Int)(rc:Aw):(!Ac (q.2=0)||!Ac (q.1=rc)) = !Ac (q=(rc,0)):=by
 obtain⟨a,b⟩:=q
 by_cases h1:b=0<;>by_cases h2:a=rc<;>simp[h1,h2]
theorem Vc (h:Ua n o)(hn:n≤100)(hF:270000<F)(hs:Ae rc<F)(hl:Ae rc≤100000000):PA F o rc=Ad (Rl o rc):=by
 unfold PA Rl Hw;rw[Bv,h.made,AF An,Agk Ab hs Ab,Bv];have hnl:=PU rc;have hb:=(OD (Ae rc) rc).2.2;generalize hz:((Cq (Ae rc) rc).2:Int)=z;have hrun:=(Gr (l:=(Cq (Ae rc) rc).1) (mk:=λi (acc:List (List Aw))=>(acc,(i:Int))) (fin:=id) (body:=λσ=>Le F o ((Cq (Ae rc) rc).1,z) σ.1 σ.2) (λ_ acc b=>bif Ac ((KY b).2=0) then .go (acc++[(KY b).1]) else .ret ((13:Int),o)) (λi acc=>Ae acc=i) (λi hi acc hP=>by
   unfold Le;simp only;have hbl:=hb (Cq (Ae rc) rc).1[i] (List.getElem_mem hi);rw[AX (Aqo Ab),Bi Ab Ab,C1 hi,AcF Ab Ab,Bv]
   cases ho:Ac ((KY (Cq (Ae rc) rc).1[i]).2=0) with
   | false=>exact⟨rfl,λb hb=>by cases hb⟩
   | true=>
    rw[AF An,Nw Am,AH Ab Ab];exact⟨rfl,λb hb=>by cases hb;simp[hP]⟩) (λacc hP=>by unfold Le;simp only;rw[AF (Aqn Ab)];rfl) (F:=F) Ab (a:=[]) rfl).1
 show BB (Cp (λσ=>Le F o ((Cq (Ae rc) rc).1,z) σ.1 σ.2) F ([],((0:Nat):Int))) (Cb λν=>M5 F o rc ν)=_;rw[hrun,OE,Bv];unfold Ku;have hall:((Cq (Ae rc) rc).1.all λb=>Ac ((KY b).2=0))=Tz (Cq (Ae rc) rc).1:=rfl;rw[hall]
 cases ha:Tz (Cq (Ae rc) rc).1 with
 | false=>rfl
 | true=>
  rw[Aqv,Aqv];have hsm:=U9 ha;have hrl:=WA (Cq (Ae rc) rc).1;show M5 F o rc ([]++I4 (Cq (Ae rc) rc).1)=_;rw[AqH];generalize I4 (Cq (Ae rc) rc).1=l at hsm hrl;unfold M5 On;have c1:imp (Ac ((Ae l:Int)=1)) (CE 0 (Ae l:Int))=Af:=by
   by_cases h1:(Ae l:Int)=1
   ·rw[L7 Ab Ab];exact Gz _
   ·rw[Aqn h1];rfl
  rw[c1,JB]
  cases h1:Ac ((Ae l:Int)=1)&&Ac ((Ae (A2 l 0):Int)=2) with
  | true=>
   simp only[Aqu,Aqq] at h1;rw[Jc,Aqv,Bi Ab Ab,Bi Ab Ab,PB hF,Bv,Aan]
   cases Ac (Ny (A2 (A2 l 0) 1)=(rc,0)) with
   | false=>rfl
   | true=>rw[AF An,Y5 h hn Ab,Bv];rfl
  | false=>
   obtain⟨c,e,hA,hv⟩:=Acp (F:=F) Ab hsm Ab Ab;rw[Dv,Aqr,e,Bv];simp only;rw[Vd hA Al Ab Ab,Bv,Aan]
   cases hg:Wj l with
   | false=>rfl
   | true=>
    rw[← hv hg,Aq3]
    cases Ac (Lv c=(rc,0)) with
    | false=>rfl
    | true=>rw[AF An,Vf h hn hA Al Ab Ab,Bv];rfl
theorem Xi (xs:List (Aw×T))(k k':Aw)(v z:T):C8 (mset xs k v) k' z=bif Ac (k'=k) then v else C8 xs k' z:=by
 unfold C8;rw[OV]
 cases Ac (k'=k)<;>rfl
theorem AfF (xs:List (Aw×T))(k k':Aw)(v:T):Hh (mset xs k v) k'=(Ac (k'=k)||Hh xs k'):=by
 unfold Hh;rw[OV]
 cases Ac (k'=k)<;>rfl
theorem Ol {c:AO}:∀{l:List A1} {i:Nat} {y:A0},y∈Ng c i l→∃ (k:Nat) (hk:k<Ae l),Km l[k].aa=Af∧y=mkG c (i+k) l[k]
 | [],i,y,h=>by cases h
 | x::l,i,y,h=>by
  rw[Ng] at h;rcases List.mem_append.1 h with h | h
  ·cases ho:Km x.aa with
   | false=>rw[ho] at h;cases h
   | true=>
    rw[ho] at h;obtain rfl:=List.mem_singleton.1 h;exact⟨0,Aj,ho,rfl⟩
  ·obtain⟨k,hk,h1,h2⟩:=Ol h;refine⟨k+1,Am,h1,?_⟩;rw[h2,show i+(k+1)=i+1+k by omega];rfl
theorem Aap (c:AO):∀(l:List A1) (i:Nat),Ae (Ng c i l)≤Ae l
 | [],i=>Aq7 _
 | x::l,i=>by
  have:=Aap c l (i+1);rw[Ng,Aqs,Aqp]
  cases Km x.aa<;>simp<;>omega
theorem XF {i j:Int}(ha:DR a i=0)(hb:DR b j=0)(h:Df a i=Df b j):a=b∧i=j:=by
 obtain⟨_,a1,a2,_⟩:=VM ha;obtain⟨_,b1,b2,_⟩:=VM hb;rw[h] at a1 a2;exact⟨a1.symm.trans b1,a2.symm.trans b2⟩
theorem UV {c:AO}:∀{l:List A1} {i:Nat},(∀(k:Nat) (hk:k<Ae l),Km l[k].aa=Af→DR c.ai ((i+k:Nat):Int)=0)→((Ng c i l).map (·.aO)).Nodup
 | [],i,_=>List.nodup_nil
 | x::l,i,h=>by
  have hr:=UV (c:=c) (l:=l) (i:=i+1) λk hk ho=>by
   have:=h (k+1) Am ho;rw[show i+1+k=i+(k+1) by omega];exact this
  rw[Ng]
  cases ho:Km x.aa with
  | false=>exact hr
  | true=>
   show((mkG c i x::Ng c (i+1) l).map (·.aO)).Nodup;rw[AqY,List.nodup_cons];refine⟨λhm=>?_,hr⟩;obtain⟨y,hy,e⟩:=List.mem_map.1 hm;obtain⟨k,hk,h1,h2⟩:=Ol hy;subst h2;have e0:DR c.ai ((i+0:Nat):Int)=0:=h 0 Aj ho;have e1:DR c.ai ((i+(k+1):Nat):Int)=0:=h (k+1) Am h1;have:=(XF (j:=(i:Int)) (i:=((i+1+k:Nat):Int)) (by rw[show i+1+k=i+(k+1) by omega];exact e1) e0 e).2;omega
theorem Vv (h:Ua n o)(c:AO):Ua (n+1) (Ik o c).2.2:=by
 have mono:Ua (n+1) o:=⟨h.made,h.ev,by have:=h.ln;omega,h.rs,λt=>(h.ks t).mono Ab,by have:=h.pn;omega,h.pv,h.pc,h.pu⟩
 unfold Ik
 by_cases he:Mf c=0
 ·rw[Aqo he];simp only[Aq5,Aqr];have ho:=Lt he
  cases hh:Hh o.ao c.ai with
  | true=>exact mono
  | false=>
   rw[Aqr]
   cases Ac (4000≤(Ae o.ah:Int)) with
   | true=>exact mono
   | false=>
    rw[Aqr];have hxs:∀x∈c.ac,Ae x.aj≤200:=λx hx=>by
     obtain⟨i,_,hi⟩:=ho.eff hx;exact TS hi
    cases hr:AbH (Qw o c.ag) c.ac with
    | ret q=>exact mono
    | go m=>
     simp only;have hlen:=ho.len;have hm:Px (32*(n+1)) m:=(Ado (h.ks c.ag) hxs hr).mono Ab;have hne:c.ai ∉ o.ah:=λhc=>by
      have:=h.ev c.ai;rw[hh,Aqo hc] at this;cases this
     have hchild:∀(k:Nat) (hk:k<Ae c.ac),Km c.ac[k].aa=Af→DR c.ai ((0+k:Nat):Int)=0:=λk hk h1=>by
      have:=ho.ef k hk;rw[C1 hk] at this;obtain⟨_,_,_,_,_,_,h7⟩:=R3 this;rw[AqT];exact h7 h1
     refine⟨h.made,λk=>?_,by show(o.ah++[c.ai]).length≤_;have:=h.ln;simp;omega,λp hp=>?_,λt=>?_,?_,λx hx=>?_,λx hx=>?_,?_⟩
     ·show Hh (mset o.ao c.ai c.az) k=Ac (k∈o.ah++[c.ai]);rw[AfF,h.ev k,Aq2];simp[or_comm]
     ·rcases Xl hp with rfl | hp
      ·exact R2 ho.res
      ·exact h.rs p hp
     ·show Px _ (C8 (mset o.aC c.ag m) t []);rw[Xi]
      cases Ac (t=c.ag) with
      | true=>exact hm
      | false=>exact(h.ks t).mono Ab
     ·show(o.ae++Ng c 0 c.ac).length≤_;rw[Aqs];have:=h.pn;have:=Aap c c.ac 0;omega
     ·rcases List.mem_append.1 hx with hx | hx
      ·exact h.pv x hx
      ·obtain⟨k,hk,_,rfl⟩:=Ol hx;exact hxs _ (List.getElem_mem hk)
     ·rcases List.mem_append.1 hx with hx | hx
      ·obtain⟨h1,h2⟩:=h.pc x hx;exact⟨List.mem_append_left _ h1,h2⟩
      ·obtain⟨k,hk,h1,rfl⟩:=Ol hx;exact⟨List.mem_append_right _ (List.mem_singleton.2 rfl),((0+k:Nat):Int),hchild k hk h1,rfl⟩
     ·show((o.ae++Ng c 0 c.ac).map (·.aO)).Nodup;rw[Arf];refine List.nodup_append.2 ⟨h.pu,UV hchild,λa ha b hb e=>?_⟩;obtain⟨x,hx,rfl⟩:=List.mem_map.1 ha;obtain⟨y,hy,rfl⟩:=List.mem_map.1 hb;obtain⟨h1,i,h2,h3⟩:=h.pc x hx;obtain⟨k,hk,g1,rfl⟩:=Ol hy;have:=(XF h2 (hchild k hk g1) (h3.symm.trans e)).1;exact hne (this▸h1)
 ·rw[Aqn he];exact mono
theorem P4 (l:List α)(i:Nat):(l.take i++l.drop (i+1)).Sublist l:=by
 rw[← List.eraseIdx_eq_take_drop_succ];exact List.eraseIdx_sublist ..
theorem YI (h:Ua n o)(id:Aw):Ua n (VP o id).2:=by
 unfold VP
 cases Wi o.ae id with
 | none=>exact h
 | some i=>
  have hs:=P4 o.ae i;exact⟨h.made,h.ev,h.ln,h.rs,h.ks,by have:=hs.length_le;have:=h.pn;show(o.ae.take i++o.ae.drop (i+1)).length≤_;omega,λx hx=>h.pv x (hs.subset hx),λx hx=>h.pc x (hs.subset hx),(hs.map _).nodup h.pu⟩
theorem Ua.mono {n m:Nat}{o:AE}(h:Ua n o)(hm:n≤m):Ua m o:=⟨h.made,h.ev,by have:=h.ln;omega,h.rs,λt=>(h.ks t).mono Ab,by have:=h.pn;omega,h.pv,h.pc,h.pu⟩
theorem AaL (h:Ua n o)(rc:Aw):Ua (n+1) (Rl o rc).2:=by
 unfold Rl
 cases Ku rc with
 | none=>exact h.mono Ab
 | some q=>
  cases q with
  | inl id=>exact(YI h id).mono Ab
  | inr c=>exact Vv h c
theorem AmX (h:Ua n o)(x:BZ):Ua (n+1) (doA o x).2.2:=by
 unfold doA
 cases Ac (x.aa=0) with
 | true=>exact Vv h _
 | false=>
  cases Ac (x.aa=1) with
  | true=>exact(YI h _).mono Ab
  | false=>
   cases Ac (x.aa=2) with
   | true=>exact(YI h _).mono Ab
   | false=>
    cases Ac (x.aa=3) with
    | true=>exact AaL h _
    | false=>cases Ac (x.aa=4)<;>exact AaL h _
def AkS:AE:=⟨Af,[],[],[],[]⟩
theorem Alk:Ua 0 AkS:=
 ⟨rfl,λk=>rfl,Aq7 _,λp hp=>(by cases hp),λt=>⟨Ms.nil,AqL _,λp hp=>by cases hp⟩,Aq7 _,λx hx=>(by cases hx),λx hx=>(by cases hx),List.nodup_nil⟩
theorem SZ:Ro 5000000=Ad Af:=by decide +kernel
def AkI (y:Av):Bool:=(BJ .i64) y.aa&&(BJ .i64) y.ay&&Qb y.au&&(BJ .i64) y.fN
def AmE (y:A1):Bool:=(BJ .i64) y.aa&&Qb y.ap&&(λys:(List Av)=>ys.all AkI&&Ac (Ae ys≤1048576)) y.aj&&(BJ .i64) y.an
def AmD (y:AO):Bool:=Qb y.ai&&Qb y.ag&&(BJ .i64) y.ar&&(λys:(List Av)=>ys.all AkI&&Ac (Ae ys≤1048576)) y.az&&(λys:(List A1)=>ys.all AmE&&Ac (Ae ys≤1048576)) y.ac&&(BJ .i64) y.aG
def Aoc (y:BZ):Bool:=(BJ .i64) y.aa&&AmD y.fC&&Qb y.fS&&(BJ .i64) y.fN
theorem Ob (h:Qb s=Af):Ae s≤1048576:=Aq0 h
theorem Mh.ofB (h:(v.all AkI&&Ac (Ae v≤1048576))=Af):Mh 1048576 v:=by
 simp only[Aqu,Aqq,AqX] at h;refine⟨Al,h.2,λc hc=>?_⟩;have:=h.1 c hc;unfold AkI at this;simp only[Aqu] at this;exact⟨Ob this.1.2,this.1.1.2,(K6 this.2).2⟩
theorem EfA.ofB {x:A1}(h:AmE x=Af):EfA 1048576 x:=by
 unfold AmE at h;simp only[Aqu] at h;exact⟨Mh.ofB (by simp only[Aqu];exact h.1.2),by have:=Ob h.1.1.2;omega⟩
theorem XK.ofB {c:AO}(h:AmD c=Af):XK 1048576 c:=by
 unfold AmD at h;simp only[Aqu] at h;obtain⟨⟨⟨⟨⟨h1,h2⟩,_⟩,h3⟩,h4⟩,_⟩:=h;exact⟨Mh.ofB (by simp only[Aqu];exact h3),λx hx=>EfA.ofB (List.all_eq_true.1 h4.1 x hx),by have:=Ob h1;omega,by have:=Ob h2;omega⟩
structure OpS (x:BZ):Prop where
 c:XK 1048576 x.fC
 s:Ae x.fS≤1048576
theorem OpS.ofB {x:BZ}(h:Aoc x=Af):OpS x:=by
 unfold Aoc at h;simp only[Aqu] at h;exact⟨XK.ofB h.1.1.2,Ob h.1.2⟩
abbrev FF:Nat:=5000000
theorem ApR (h:XK 1048576 c):Nn FF c=Ad (Lv c):=Vd h Al Al Al
theorem AnV (h:XK 1048576 c):Jv FF c=Ad (Lv c):=Nc h Al Al Al
theorem AcX {α:Type}[DecidableEq α]:∀{a b:List α},Ae a=Ae b→((a.zip b).any λp=>!Ac (p.1=p.2)) = !Ac (a=b)
 | [],[],_=>rfl
 | x::a,y::b,h=>by
  have ih:=AcX (a:=a) (b:=b) (by simpa using h);rw[List.zip_cons_cons,List.any_cons,ih]
  by_cases h1:x=y
  ·subst h1
   by_cases h2:a=b
   ·subst h2;simp
   ·simp[h2]
  ·simp[h1]
 | [],_::_,h=>by simp at h
 | _::_,[],h=>by simp at h
theorem LO {α:Type}(p:α→Bool):∀l:List α,(l.findIdx? p).isSome=l.any p
 | []=>rfl
 | x::l=>by
  rw[List.findIdx?_cons,List.any_cons]
  cases p x with
  | true=>rfl
  | false=>
   have:=LO p l;rw[Aq9,← this]
   cases l.findIdx? p<;>rfl
theorem TL [DecidableEq α]{a b:List α}{body:Int→Option (Stp Int (Out Bool Unit))}(hl:Ae a=Ae b)(hF:Ae a<F)
  (hb:∀(i:Nat) (h:i<Ae a) (h':i<Ae b),body (i:Int)=By (!Ac (a[i]=b[i])) (Ad (.out (.ret Ah))) (Ad (.next ((i:Int)+1)))) (he:body (Ae a:Int)=Ad (.out (.go ()))) :
  BB (Cp body F 0) (Cb λ_=>Ad Af)=Ad (Ac (a=b)):=by
 have hz:Ae (a.zip b)=Ae a:=by rw[List.length_zip];omega
 have h:=MB (l:=a.zip b) (p:=λp=>!Ac (p.1=p.2)) (ret:=λ_=>Ah) (u:=()) (body:=body) (F:=F) Ab (λi hi=>by
  rw[List.getElem_zip];exact hb i Ab Ab) (by rw[hz];exact he)
 rw[h,Bv];have h2:=LO (λp:α×α=>!Ac (p.1=p.2)) (a.zip b);rw[AcX hl] at h2
 cases hf:(a.zip b).findIdx? λp=>!Ac (p.1=p.2) with
 | none=>
  rw[hf] at h2;have:Ac (a=b)=Af:=by cases hd:Ac (a=b) with | true=>rfl | false=>rw[hd] at h2;cases h2
  rw[this];rfl
 | some j=>
  rw[hf] at h2;have:Ac (a=b)=Ah:=by cases hd:Ac (a=b) with | false=>rfl | true=>rw[hd] at h2;cases h2
  rw[this];rfl
theorem RO {a b:List Av}(hF:Ae a<F)(hn:Ae a≤1000000):LA F a b=Ad (Ac (a=b)):=by
 unfold LA
 by_cases hl:Ae a=Ae b
 ·rw[AF (by simp[hl])];exact TL hl hF (λi h h'=>by
   unfold NP;rw[AX (Aqo Ab),Bi Ab Ab,Bi Ab Ab,C1 h,C1 h',AH Ab Ab]
   congr 2
   obtain⟨x1,x2,x3,x4⟩:=a[i];obtain⟨y1,y2,y3,y4⟩:=b[i];rw[Aq2];simp only[Aqu,Aqq,Av.mk.injEq];exact⟨λ⟨⟨⟨h1,h2⟩,h3⟩,h4⟩=>⟨h1,h2,h3,h4⟩,λ⟨h1,h2,h3,h4⟩=>⟨⟨⟨h1,h2⟩,h3⟩,h4⟩⟩) (by unfold NP;rw[AF (Aqn Ab)])
 ·rw[AX Am,Aqn (λe=>hl (by rw[e]))]
theorem Acz {a b:List α}(h:¬ (Ae a)=Ae b) : ¬ a=b:=λe=>h (by rw[e])
theorem AfZ {a b:List Aw}(hF:Ae a<F)(hn:Ae a≤1000000):Vz F a b=Ad (Ac (a=b)):=by
 unfold Vz
 by_cases hl:Ae a=Ae b
 ·rw[AF (by simp[hl])];exact TL hl hF (λi h h'=>by
   unfold MG;rw[AX (Aqo Ab),Bi Ab Ab,Bi Ab Ab,C1 h,C1 h',AH Ab Ab]) (by unfold MG;rw[AF (Aqn Ab)])
 ·rw[AX Am,Aqn (Acz hl)]
theorem Acd (a b:A0):a=b↔a.aO=b.aO∧a.ag=b.ag∧a.aM=b.aM∧a.aG=b.aG∧a.aA.aa=b.aA.aa∧a.aA.ap=b.aA.ap∧a.aA.an=b.aA.an∧a.aA.aj=b.aA.aj:=by
 obtain⟨a1,a2,a3,a4,⟨a5,a6,a7,a8⟩⟩:=a;obtain⟨b1,b2,b3,b4,⟨b5,b6,b7,b8⟩⟩:=b;simp only[A0.mk.injEq,A1.mk.injEq];constructor
 ·rintro⟨h1,h2,h3,h4,h5,h6,h7,h8⟩;exact⟨h1,h2,h3,h4,h5,h6,h8,h7⟩
 ·rintro⟨h1,h2,h3,h4,h5,h6,h7,h8⟩;exact⟨h1,h2,h3,h4,h5,h6,h8,h7⟩
theorem AaK (a b:B3):a=b↔a.ap=b.ap∧a.aq=b.aq∧a.aj=b.aj:=by
 obtain⟨a1,a2,a3⟩:=a;obtain⟨b1,b2,b3⟩:=b;simp only[B3.mk.injEq];constructor
 ·rintro⟨h1,h2,h3⟩;exact⟨h1,h3,h2⟩
 ·rintro⟨h1,h2,h3⟩;exact⟨h1,h3,h2⟩
theorem Wh {a b:List A0}(hF:Ae a<F)(hF2:200<F)(hn:Ae a≤1000000)(hv:∀x∈a,Ae x.aA.aj≤200):Ns F a b=Ad (Ac (a=b)):=by
 unfold Ns
 by_cases hl:Ae a=Ae b
 ·rw[AF (by simp[hl])];exact TL hl hF (λi h h'=>by
   have hvi:=hv _ (List.getElem_mem h);unfold HY;rw[AX (Aqo Ab),Bi Ab Ab,Bi Ab Ab,C1 h,C1 h',RO Ab Ab,AH Ab Ab];simp only[Option.isSome_some,Gz,JB,IS]
   congr 1
   rw[Aq2];simp only[AqF,Aq6,Aqt,Acd a[i] b[i]]
   grind) (by unfold HY;rw[AF (Aqn Ab)])
 ·rw[AX Am,Aqn (Acz hl)]
theorem AaG {a b:List B3}(hF:Ae a<F)(hF2:200<F)(hn:Ae a≤1000000)(hv:∀x∈a,Ae x.aj≤200):Rn F a b=Ad (Ac (a=b)):=by
 unfold Rn
 by_cases hl:Ae a=Ae b
 ·rw[AF (by simp[hl])];exact TL hl hF (λi h h'=>by
   have hvi:=hv _ (List.getElem_mem h);unfold Kc;rw[AX (Aqo Ab),Bi Ab Ab,Bi Ab Ab,C1 h,C1 h',RO Ab Ab,AH Ab Ab];simp only[Option.isSome_some,Gz,JB,IS]
   congr 1
   rw[Aq2];simp only[AqF,Aq6,Aqt,AaK a[i] b[i]]
   grind) (by unfold Kc;rw[AF (Aqn Ab)])
 ·rw[AX Am,Aqn (Acz hl)]
theorem Xg {F:Nat}:∀(ord:L4) (s:List Aw),Ae s+Ae ord≤1000000→Xn (λ(pe:Aw×Az) τ=>J0 pe.1 pe.2 τ) ord s=Ad (Out.go (s++ord.map (·.1)))
 | [],s,_=>by simp[Xn]
 | p::r,s,h=>by
  rw[Aqp] at h;have h1:J0 p.1 p.2 s=Ad (.next (s++[p.1])):=by
   unfold J0;rw[I1 Am]
  rw[Xn,h1];refine(Xg (F:=F) r (s++[p.1]) Am).trans ?_;simp
theorem XY {m ord:L4}(hm:Ms m)(h:ord.Perm m):Ds (ord.map (·.1))=m.map (·.1):=by
 obtain⟨h1,h2⟩:=Wa (ord.map (·.1));refine SJ _ _ h1 ?_ λx=>?_
 ·rw[List.pairwise_map];refine List.Pairwise.imp ?_ hm;intro p q hpq;rw[show CH p.1 q.1=Ac (p.1<q.1) from bytesLess_eq p.1 q.1] at hpq;exact Aq0 hpq
 ·rw[h2];exact(h.map (·.1)).mem_iff
theorem Afw (h:Ua n o)(hn:n≤100)(hF:5000<F)(t:Aw):Qe F o t=Ad (Nt o t):=by
 unfold Qe Hw;rw[Bv,h.made,AF An];have hk:=h.ks t;have hlen:=hk.len;refine Aiv λord hp=>?_;have hlo:=hp.length_eq;have hp':ord.Perm (Qw o t):=hp;have hlo':Ae ord=Ae (Qw o t):=hlo;rw[Xg (F:=F) ord [] Am,Bv];show Jy F o t ([]++ord.map (·.1))=_;rw[AqH];unfold Jy;rw[I1 (by rw[Aqz];omega)];have hsn:=XY hk.ms hp';generalize hns:ord.map (·.1)=ns at hsn;have hrun:=(Gr (l:=(Qw o t).map (·.1)) (mk:=λi (acc:List B3)=>(acc,(i:Int))) (fin:=id) (body:=λσ=>Jz o t ns σ.1 σ.2) (λ_ acc k=>.go (acc++[B3.mk k (C8 (Qw o t) k S6).aj (C8 (Qw o t) k S6).aq])) (λi acc=>Ae acc=i) (λi hi acc hP=>by
  have hi':i<256:=by rw[Aqz] at hi;omega
  refine⟨?_,λb hb=>by cases hb;simp[hP]⟩;unfold Jz;simp only;rw[hsn,AX (Aqo Ab),Bi Ab Ab,C1 hi];generalize((Qw o t).map (·.1))[i]=k;have hv:=hk.ver k;show BB (Kq ((C8 (Qw o t) k S6).aj)) _=_;rw[Lz Ab,Bv,VF Am,AH Ab Ab];rfl) (λacc hP=>by unfold Jz;simp only;rw[hsn,AF (Aqn Ab)];rfl) (F:=F) (by rw[Aqz];omega) (a:=[]) rfl).1
 show BB (Cp (λσ=>Jz o t ns σ.1 σ.2) F ([],((0:Nat):Int))) (Cb λν=>M7 ν)=_;rw[hrun,KZ (λk=>B3.mk k (C8 (Qw o t) k S6).aj (C8 (Qw o t) k S6).aq),Bv];show Ad ([]++_)=_;rw[AqH,Aro];unfold Nt;refine congrArg Ad (List.map_congr_left λp hp=>?_);show B3.mk p.1 (C8 (Qw o t) p.1 S6).aj (C8 (Qw o t) p.1 S6).aq=Zl p;have:C8 (Qw o t) p.1 S6=p.2:=by
  unfold C8;rw[Lo hk.ms.nodup hp];rfl
 rw[this];rfl
theorem Ac4 (h:Ua n o)(t:Aw):Ae (Nt o t)≤256∧∀x∈Nt o t,Ae x.aj≤200:=by
 have hk:=h.ks t;refine⟨by unfold Nt;rw[Aqz];exact hk.len,λx hx=>?_⟩;obtain⟨p,hp,rfl⟩:=List.mem_map.1 hx;exact(hk.val p hp).2.2
theorem Xr (l:List A0)(n:Int):Sg l n=Ad (AkR l n):=by
 unfold Sg AkR
 cases h:Ac (n<0)||decide ((Ae l:Int)≤n) with
 | true=>rfl
 | false=>
  simp only[AqD,Aqt] at h;rw[Dv,Aqr,Bi Ab Ab]
theorem Xw (rs:List (List Aw)):Ae (N6 rs).1≤262144:=by
 unfold N6 PE
 cases rs.all WR with
 | false=>exact AqL _
 | true=>
  rw[Aqv]
  cases hd:Ac (Ae ((rs.map HH).flatMap Dk)≤262144) with
  | true=>exact Aq0 hd
  | false=>exact AqL _
theorem R5 (c:AO):Ae (Lv c).1≤262144:=by
 unfold Lv
 cases Ac (Mf c=0) with
 | true=>exact Xw _
 | false=>show([]:Aw).length≤_;decide
theorem RC (id:Aw):Ae (Ny id).1≤262144:=by
 unfold Ny
 cases KH id with
 | true=>exact Xw _
 | false=>show([]:Aw).length≤_;decide
theorem Aou (h:Ua n o)(hn:n≤100){x:BZ}(hx:OpS x):Xs FF o x=Ad (doA o x):=by
 unfold Xs doA;rw[Vf h hn hx.c Al Al Al,Y5 h hn Al,SV h hn Al,Vc h hn Al (by have:=hx.s;show _<5000000;omega) (by have:=hx.s;omega),ApR hx.c,PB Al];simp only[Bv,Xr];rw[Y5 h hn Al,Vc h hn Al (by have:=R5 x.fC;show _<5000000;omega) (by have:=R5 x.fC;omega),Vc h hn Al (by have:=RC x.fS;show _<5000000;omega) (by have:=RC x.fS;omega)];simp only[Bv,Jd]
abbrev Ti:=List AK
def kvO (w:AK):Aw×Az:=(w.aE.ap,⟨w.aE.aj,w.aE.aq⟩)
def isT (t:Aw)(w:AK):Bool:=Ac (w.ag=t)
def Oc (t:Aw)(l:Ti):L4:=(l.filter (isT t)).map kvO
def AiG (t k:Aw)(w:AK):Bool:=Ac (w.ag=t)&&Ac (w.aE.ap=k)
def AaO (l:Ti)(t k:Aw):Option Nat:=l.findIdx? (AiG t k)
theorem JE (t:Aw)(a b:Ti):Oc t (a++b)=Oc t a++Oc t b:=by unfold Oc;rw[List.filter_append,Arf]
theorem Yy (t:Aw)(w:AK):Oc t [w]=bif isT t w then[kvO w] else[]:=by
 unfold Oc
 cases h:isT t w<;>simp[h]
theorem M3 (t:Aw)(w:AK)(b:Ti):Oc t (w::b)=(bif isT t w then[kvO w] else[])++Oc t b:=by
 rw[← Yy,← JE];rfl
theorem YD {l:Ti}{p:Aw×Az}:p∈Oc t l↔∃w∈l,w.ag=t∧kvO w=p:=by
 unfold Oc;rw[List.mem_map];constructor
 ·rintro⟨w,hw,e⟩;obtain⟨h1,h2⟩:=List.mem_filter.1 hw;exact⟨w,h1,Aq0 h2,e⟩
 ·rintro⟨w,h1,h2,e⟩;exact⟨w,List.mem_filter.2 ⟨h1,Aqo h2⟩,e⟩
theorem Lb (h:Ae v≤1000000000):NS v=Ad v:=by
 unfold NS;rw[Qq Am];rfl
theorem AbT {l:Ti}(hF:Ae l<F)(hl:Ae l≤1000000)(t k:Aw):T9 F l t k=Ad (match AaO l t k with | some j=>(j:Int) | none=>-1):=by
 unfold T9 AaO;rw[MB (l:=l) (p:=AiG t k) (ret:=λj:Nat=>(j:Int)) (u:=()) hF (λi h=>by
  unfold Lc;rw[AX (Aqo Ab),Bi Ab Ab,C1 h,AH Ab Ab];rfl) (by unfold Lc;rw[AF (Aqn Ab)]),Bv]
 cases l.findIdx? (AiG t k)<;>rfl
theorem ZK {R:Type}(t:Aw):∀(l:Ti) (i:Nat) (a:Int),Ex (R:=R) (λ_ a w=>.go (bif isT t w then a+1 else a)) i a l = .go (a+(Ae (Oc t l):Int))
 | [],i,a=>by simp[Ex,Oc]
 | w::l,i,a=>by
  show Ex (R:=R) (λ_ a w=>.go (bif isT t w then a+1 else a)) (i+1) (bif isT t w then a+1 else a) l=_;rw[ZK t l,M3]
  cases isT t w
  ·simp
  ·simp only[Aqv,Aqs,AqA,Int.natCast_add];refine congrArg Out.go ?_;show a+1+_=a+(1+_);omega
theorem Aab {l:Ti}(hF:Ae l<F)(hl:Ae l≤1000000)(t:Aw):QJ F l t=Ad (Ae (Oc t l):Int):=by
 unfold QJ;have hh:=(Gr (l:=l) (mk:=λi (a:Int)=>(a,(i:Int))) (fin:=id) (body:=λσ=>I8 l t σ.1 σ.2) (R:=Int) (λ_ a w=>.go (bif isT t w then a+1 else a)) (λi a=>0≤a∧a≤i) (λi hi a hP=>by
  refine⟨?_,λb hb=>by cases hb;cases isT t l[i]<;>simp only[Aqv,Aqr]<;>omega⟩;unfold I8;simp only;rw[AX (Aqo Ab),Bi Ab Ab,C1 hi,EV Ab Ab,Gz,JB,AH Ab Ab];rfl) (λa hP=>by unfold I8;simp only;rw[AF (Aqn Ab)];rfl) (F:=F) hF (a:=0) ⟨Ab,Ab⟩).1
 refine(congrArg (λz=>BB z _) hh).trans ?_;rw[ZK,Bv,Int.zero_add];rfl
def Af3 (t:Aw)(x:A1):AK:=⟨t,⟨x.ap,x.aj,1⟩⟩
def Ahw (w:AK)(x:A1):AK:=⟨w.ag,⟨x.ap,x.aj,w.aE.aq+1⟩⟩
def YY (l:Ti)(t:Aw)(x:A1):Ti×Bool:=
 match AaO l t x.ap with
 | some i=>bif Ac (x.aa=2) then(l.take i++l.drop (i+1),Af) else bif Ac (x.aa=1) then(l.set i (Ahw (A2 l (i:Int)) x),Af) else(l,Af)
 | none=>bif Ac (x.aa=1) then(l++[Af3 t x],Ac ((Ae (Oc t (l++[Af3 t x])):Int)≤256)) else(l,Af)
theorem YK {l:Ti}(h:AaO l t k=Ad i):∃hi:i<Ae l,l[i].ag=t∧l[i].aE.ap=k:=by
 obtain⟨hi,hp,_⟩:=List.findIdx?_eq_some_iff_getElem.1 h;unfold AiG at hp;simp only[Aqu,Aqq] at hp;exact⟨hi,hp.1,hp.2⟩
theorem AfX {l:Ti}(h:AaO l t k=Ai):∀p∈Oc t l,p.1≠k:=by
 intro p hp e;obtain⟨w,hw,h1,h2⟩:=YD.1 hp;have:=List.findIdx?_eq_none_iff.1 h w hw;unfold AiG at this;rw[Aqo h1,Aqo (show w.aE.ap=k by rw[← e,← h2];rfl)] at this
 cases this
structure XJ (B:Nat) (l:Ti):Prop where
 len:Ae l≤B
 val:∀w∈l,0≤w.aE.aq∧w.aE.aq≤B∧Ae w.aE.aj≤200
theorem XJ.at {l:Ti}(h:XJ B l)(hi:i<Ae l):0≤l[i].aE.aq∧l[i].aE.aq≤B∧Ae l[i].aE.aj≤200:=h.val _ (List.getElem_mem hi)
theorem Yn {l:Ti}{x:A1}(h:XJ B l)(hB:B≤100000)(hF:200000<F)(hx:Ae x.aj≤200):Mw F l t x=Ad (YY l t x):=by
 have hl:=h.len;unfold Mw YY;rw[AbT Ab Ab,Bv]
 cases hi:AaO l t x.ap with
 | none=>
  simp only;rw[AF Aj]
  cases h1:Ac (x.aa=1) with
  | false=>rfl
  | true=>
   rw[AF An,Aqv,AX Al,Lb Ab,Bv,L0 Am,L0 Am,Aab Am Am,Bv];rfl
 | some i=>
  obtain⟨hil,_,_⟩:=YK hi;have hv:=h.at hil;simp only;have e1:Ao (i:Int)=i:=Ab
  have e2:Ao ((i:Int)+1)=i+1:=Ab
  cases h2:Ac (x.aa=2) with
  | true=>
   rw[AX Aj,Aqv,C0 Ab Ab,e1,e2,L0 Am,AH Ab Ab,C0 Ab Ab,L0 Am];rfl
  | false=>
   rw[AF Aj,Aqr]
   cases h1:Ac (x.aa=1) with
   | false=>rfl
   | true=>
    rw[AF An,Aqv,AF (Aqn Ab),L0 Am,Lb Ab,Bv,Bi Ab Ab,C1 hil,AH Ab Ab,AqH,Bi Ab Ab,C1 hil,e1];rfl
theorem Aj6 {l:Ti}{x:A1}(h:XJ B l)(hx:Ae x.aj≤200):XJ (B+1) (YY l t x).1:=by
 have up:XJ (B+1) l:=⟨by have:=h.len;omega,λw hw=>by have:=h.val w hw;exact⟨this.1,Ab,this.2.2⟩⟩
 unfold YY
 cases hi:AaO l t x.ap with
 | none=>
  simp only
  cases Ac (x.aa=1) with
  | false=>exact up
  | true=>
   refine⟨by have:=h.len;simp only[Aqv,Aqs,AqA];omega,λw hw=>?_⟩;rcases List.mem_append.1 hw with hw | hw
   ·exact up.val w hw
   ·obtain rfl:=List.mem_singleton.1 hw;show(0:Int)≤1∧(1:Int)≤((B+1:Nat):Int)∧Ae x.aj≤200;exact⟨Ab,Ab,hx⟩
 | some i=>
  obtain⟨hil,_,_⟩:=YK hi;have hv:=h.at hil;simp only
  cases Ac (x.aa=2) with
  | true=>
   have hs:=P4 l i;exact⟨by have:=hs.length_le;have:=h.len;simp only[Aqv];omega,λw hw=>up.val w (hs.subset hw)⟩
  | false=>
   cases Ac (x.aa=1) with
   | false=>exact up
   | true=>
    refine⟨by have:=h.len;simp only[Aqv,Aqr,List.length_set];omega,λw hw=>?_⟩;rcases List.mem_or_eq_of_mem_set hw with hw | hw
    ·exact up.val w hw
    ·subst hw;rw[C1 hil];show 0≤l[i].aE.aq+1∧l[i].aE.aq+1≤((B+1:Nat):Int)∧Ae x.aj≤200;exact⟨Ab,Ab,hx⟩
def gR (r:A8)(c:AO)(i:Nat)(a:Ti×List A0)(x:A1):Out (Bool×Int×A8) (Ti×List A0):=
 bif (YY a.1 c.ag x).2 then .go ((YY a.1 c.ag x).1,a.2++(bif Km x.aa then[mkG c i x] else[])) else .ret (Ah,3,r)
def Jb (r:A8)(c:AO):Bool×Int×A8:=
 bif !Ac (Mf c=0) then(Ah,Mf c,r) else
 bif r.ah.any (λd=>Ac (d.ai=c.ai)) then(Ah,0,r) else
 bif Ac (4000≤(Ae r.ah:Int)) then(Ah,3,r) else
 match Ex (gR r c) 0 (r.ak,[]) c.ac with
 | .ret q=>q
 | .go a=>(Af,0,⟨r.ax,r.ah++[⟨c.ai,c.az⟩],a.1,r.ae++a.2⟩)
def VO (r:A8)(id:Aw):Int×A8:=
 match Wi r.ae id with
 | none=>(5,r)
 | some i=>(0,⟨r.ax,r.ah,r.ak,r.ae.take i++r.ae.drop (i+1)⟩)
def Vp (r:A8)(rc:Aw):Int×A8:=
 Am5 (α:=Unit) (13,r) (λid=>(0,(VO r id).2)) (λc=>((Jb r c).2.1,(Jb r c).2.2)) (Ku rc)
def doR (o:A8)(x:BZ):Bool×Int×A8:=
 bif Ac (x.aa=0) then Jb o x.fC else
 bif Ac (x.aa=1) then(Ah,VO o x.fS) else
 bif Ac (x.aa=2) then(Ah,VO o (AkR o.ae x.fN)) else
 bif Ac (x.aa=3) then(Ah,Vp o x.fS) else
 bif Ac (x.aa=4) then(Ah,Vp o (Lv x.fC).1) else(Ah,Vp o (Ny x.fS).1)
structure Abq (n:Nat) (r:A8):Prop where
 made:r.ax=Af
 ln:Ae r.ah≤n
 rs:∀d∈r.ah,Ae d.az≤200
 its:XJ (32*n) r.ak
 pn:Ae r.ae≤32*n
 pv:∀x∈r.ae,Ae x.aA.aj≤200
theorem UI {o:A8}(h:Abq n o)(hn:n≤100)(hF:5000<F)(id:Aw):QF F o id=Ad (VO o id):=by
 have hp:=h.pn;unfold QF VO Wi;rw[AF (by rw[h.made];rfl)];rw[MB (l:=o.ae) (p:=λx=>Ac (x.aO=id)) (ret:=λi:Nat=>((0:Int),(⟨o.ax,o.ah,o.ak,o.ae.take i++o.ae.drop (i+1)⟩:A8))) (u:=()) Ab (λi hi=>by
  unfold NV;have e1:Ao (i:Int)=i:=Ab
  have e2:Ao ((i:Int)+1)=i+1:=Ab
  rw[AX (Aqo Ab),Bi Ab Ab,C1 hi,e1,e2,C0 Ab Ab,GF Am,AH Ab Ab,C0 Ab Ab,GF Am,AH Ab Ab];rfl) (by unfold NV;rw[AF (Aqn Ab)]),Bv]
 cases o.ae.findIdx? λx=>Ac (x.aO=id)<;>rfl
theorem QC {o:A8}(h:Abq n o)(hn:n≤100)(hF:5000<F):KB F o=Ad o.ae:=by
 have hp:=h.pn;unfold KB;have hh:=(Gr (l:=o.ae) (mk:=λi (acc:List A0)=>(acc,(i:Int))) (fin:=id) (body:=λσ=>HA o σ.1 σ.2) (λ_ acc x=>.go (acc++[id x])) (λi acc=>Ae acc=i) (λi hi acc hP=>by
  refine⟨?_,λb hb=>by cases hb;simp[hP]⟩;have hv:=h.pv _ (List.getElem_mem hi);unfold HA;simp only;rw[AX (Aqo Ab),Bi Ab Ab,C1 hi,Lb Ab,Bv,GF Am,AH Ab Ab];rfl) (λacc hP=>by unfold HA;simp only;rw[AF (Aqn Ab)];rfl) (F:=F) Ab (a:=[]) rfl).1
 refine(congrArg (λz=>BB z _) hh).trans ?_;rw[KZ,Bv];simp[Afq,Cb,IP]
theorem ZV {o:A8}(h:Abq n o)(hn:n≤100)(hF:5000<F):NU F o=Ad (o.ah.map (·.ai)):=by
 have hp:=h.ln;unfold NU;have hh:=(Gr (l:=o.ah) (mk:=λi (acc:List Aw)=>(acc,(i:Int))) (fin:=id) (body:=λσ=>I5 o σ.1 σ.2) (λ_ acc x=>.go (acc++[x.ai])) (λi acc=>Ae acc=i) (λi hi acc hP=>by
  refine⟨?_,λb hb=>by cases hb;simp[hP]⟩;unfold I5;simp only;rw[AX (Aqo Ab),Bi Ab Ab,C1 hi,I1 Am,AH Ab Ab];rfl) (λacc hP=>by unfold I5;simp only;rw[AF (Aqn Ab)];rfl) (F:=F) Ab (a:=[]) rfl).1
 refine(congrArg (λz=>BB z _) hh).trans ?_;rw[KZ (λx:Cd=>x.ai),Bv];simp[Afq,Cb,JP]
def Ak9 (o:A8)(e:Aw):List Av×Bool:=
 match o.ah.findIdx? λd=>Ac (d.ai=e) with
 | some i=>((A2 o.ah (i:Int)).az,Af)
 | none=>([],Ah)
theorem ZT {o:A8}(h:Abq n o)(hn:n≤100)(hF:5000<F)(e:Aw):QB F o e=Ad (Ak9 o e):=by
 have hp:=h.ln;unfold QB Ak9;rw[MB (l:=o.ah) (p:=λd=>Ac (d.ai=e)) (ret:=λi:Nat=>((A2 o.ah (i:Int)).az,Af)) (u:=()) Ab (λi hi=>by
  unfold JO;have hv:=h.rs _ (List.getElem_mem hi);rw[AX (Aqo Ab),Bi Ab Ab,C1 hi,Lb Ab,Bv,AH Ab Ab]) (by unfold JO;rw[AF (Aqn Ab)]),Bv]
 cases o.ah.findIdx? λd=>Ac (d.ai=e)<;>rfl
theorem SO {o:A8}(h:Abq n o)(hn:n≤100)(hA:XK M c)(hM:M≤2000000)(hF:4*M+100<F)(hF0:300000<F):JT F o c=Ad (Jb o c):=by
 unfold JT Jb;rw[AF (by rw[h.made];rfl),SR hA hM hF,Bv]
 cases he:Ac (Mf c=0) with
 | false=>rfl
 | true=>
  have ho:=Lt (Aq0 he);have hlen:=ho.len;have hln:=h.ln;have hpn:=h.pn;rw[AF An,← LO];rw[MB (l:=o.ah) (p:=λd=>Ac (d.ai=c.ai)) (ret:=λi:Nat=>(Ah,(0:Int),o)) (u:=()) Ab (λi hi=>by
   unfold JS;rw[AX (Aqo Ab),Bi Ab Ab,C1 hi,AH Ab Ab]) (by unfold JS;rw[AF (Aqn Ab)]),Bv]
  cases o.ah.findIdx? λd=>Ac (d.ai=c.ai) with
  | some j=>rfl
  | none=>
   show JQ F o c=Ad (bif Ac (4000≤(Ae o.ah:Int)) then _ else _);unfold JQ
   cases Ac (4000≤(Ae o.ah:Int)) with
   | true=>rfl
   | false=>
    rw[Dv,Aqr];have hxs:∀x∈c.ac,Ae x.aj≤200:=λx hx=>by
     obtain⟨i,_,hi⟩:=ho.eff hx;exact TS hi
    have hres:=R2 ho.res;have hrun:=Gr (l:=c.ac) (mk:=λi (a:Ti×List A0)=>(a.1,a.2,(i:Int))) (fin:=λa=>a) (body:=λσ=>I7 F o c σ.1 σ.2.1 σ.2.2) (gR o c) (λi a=>XJ (32*n+i) a.1∧Ae a.2≤i) (λi hi a hP=>by
     have hv:=hxs _ (List.getElem_mem hi);have hch:=Yn (F:=F) (t:=c.ag) hP.1 Ab Ab hv;refine⟨?_,λb hb=>?_⟩
     ·unfold I7 JR;simp only;rw[AX (Aqo Ab),Bi Ab Ab,C1 hi,hch,Bv];unfold gR
      cases(YY a.1 c.ag c.ac[i]).2 with
      | false=>rfl
      | true=>
       rw[AF An,QA,Bv,GZ (by have:=Xy ho.id;omega),AH Ab Ab,Lb Ab,Bv,GF Am,AH Ab Ab,AH Ab Ab]
       cases Km c.ac[i].aa with
       | true=>rfl
       | false=>rw[Dv];simp[Aik]
     ·unfold gR at hb
      cases hc:(YY a.1 c.ag c.ac[i]).2 with
      | false=>rw[hc] at hb;cases hb
      | true=>
       rw[hc] at hb
       cases hb
       refine⟨Aj6 hP.1 hv,?_⟩;rw[Aqs]
       cases Km c.ac[i].aa<;>simp<;>omega) (λa hP=>by unfold I7;simp only;rw[AF (Aqn Ab)]) (F:=F) Ab (a:=(o.ak,[])) ⟨h.its,Aq7 _⟩
    refine(congrArg (λz=>BB z _) hrun.1).trans ?_;rw[Bv]
    cases hr:Ex (gR o c) 0 (o.ak,[]) c.ac with
    | ret q=>rfl
    | go a=>
     have ha:=hrun.2 a hr;show I6 o c a.1 a.2=_;unfold I6;rw[GF Ab,Lb Ab,Bv,Qq Am]
theorem Alc (h:Ku rc=Ad (.inr c)):XK 4000 c:=by
 unfold Ku at h
 cases ha:Tz (Cq (Ae rc) rc).1 with
 | false=>rw[ha] at h;cases h
 | true=>
  rw[ha,Aqv] at h;have hs:=U9 ha;generalize I4 (Cq (Ae rc) rc).1=l at h hs;unfold On at h
  cases h1:Ac ((Ae l:Int)=1)&&Ac ((Ae (A2 l 0):Int)=2) with
  | true=>
   rw[h1,Aqv] at h
   cases h2:Ac (Ny (A2 (A2 l 0) 1)=(rc,0)) with
   | true=>rw[h2] at h;cases h
   | false=>rw[h2] at h;cases h
  | false=>
   rw[h1,Aqr] at h
   cases h2:Wj l&&Ac (Lv (Tq l)=(rc,0)) with
   | false=>rw[h2] at h;cases h
   | true=>
    rw[h2] at h
    cases h
    cases l with
    | nil=>exact Amq
    | cons f r=>
     exact AaQ (hs f Aj) λx hx=>by
      obtain⟨g,hg,rfl⟩:=List.mem_map.1 hx;exact Uq (hs g (by simp[hg]))
theorem Amh {r:A8}{c:AO}:∀{l:List A1} {i B:Nat} {a b:Ti×List A0},(∀x∈l,Ae x.aj≤200)→XJ B a.1→Ex (gR r c) i a l = .go b→XJ (B+Ae l) b.1
 | [],i,B,a,b,_,h,hr=>by rw[Ex] at hr;cases hr;exact h
 | x::l,i,B,a,b,hx,h,hr=>by
  rw[Ex] at hr;have hc:=Aj6 (t:=c.ag) h (hx x Aj);unfold gR at hr
  cases h2:(YY a.1 c.ag x).2 with
  | false=>rw[h2] at hr;cases hr
  | true=>
   rw[h2] at hr;have:=Amh (l:=l) (λy hy=>hx y (by simp[hy])) hc hr;rw[Aqp];rw[show B+(Ae l+1)=B+1+Ae l by omega];exact this
theorem UF {o:A8}(h:Abq n o)(hn:n≤100)(hF:300000<F)(hs:Ae rc<F)(hl:Ae rc≤100000000):NT F o rc=Ad (Vp o rc):=by
 rw[AeR Ab h.made hs hl];unfold Vp
 cases hk:Ku rc with
 | none=>rfl
 | some q=>
  cases q with
  | inl id=>
   show BB (QF F o id) _=_;rw[UI h hn Ab,Bv];rfl
  | inr c=>
   show BB (JT F o c) _=_;rw[SO h hn (Alc hk) Al Ab Ab,Bv];rfl
theorem Al4 {o:A8}(h:Abq n o)(hn:n≤100){x:BZ}(hx:OpS x):OY FF o x=Ad (doR o x):=by
 unfold OY doR;have hs:=hx.s;rw[SO h hn hx.c Al Al Al,UI h hn Al,QC h hn Al,UF h hn Al (by show _<5000000;omega) Ab,AnV hx.c,Kj Al Ab];simp only[Bv,Xr];rw[UI h hn Al,UF h hn Al (by have:=R5 x.fC;show _<5000000;omega) (by have:=R5 x.fC;omega),UF h hn Al (by have:=RC x.fS;show _<5000000;omega) (by have:=RC x.fS;omega)];simp only[Bv,Jd]
structure Rel (o:AE) (r:A8):Prop where
 made:r.ax=Af
 ev:r.ah.map (·.ai)=o.ah
 rs:∀d∈r.ah,CZ o.ao d.ai=Ad d.az
 ks:∀t,(Oc t r.ak).Perm (Qw o t)
 pd:r.ae=o.ae
theorem Ahq {l:Ti}(hi:i<Ae l):l=l.take i++l[i]::l.drop (i+1):=by rw[← List.drop_eq_getElem_cons hi,Ard]
theorem Af1 {a b:L4}{p:Aw×Az}(h:((a++p::b).map (·.1)).Nodup):(∀q∈a,q.1≠p.1)∧∀q∈b,q.1≠p.1:=by
 rw[Arf,AqY] at h;have hp:=(List.perm_middle (a:=p.1) (l₁:=a.map (·.1)) (l₂:=b.map (·.1))).nodup_iff.1 h;rw[List.nodup_cons,List.mem_append] at hp;exact⟨λq hq e=>hp.1 (.inl (List.mem_map.2 ⟨q,hq,e⟩)),λq hq e=>hp.1 (.inr (List.mem_map.2 ⟨q,hq,e⟩))⟩
theorem Sr {a:L4}(h:∀q∈a,q.1≠k):mdel a k=a:=List.filter_eq_self.2 λq hq=>by rw[Aqn (h q hq)];rfl
theorem AdH {a:L4}{v:Az}(h:∀q∈a,q.1≠k):mput a k v=a:=by
 unfold mput;refine(List.map_congr_left λq hq=>?_).trans (List.map_id a);rw[Aqn (h q hq)];rfl
theorem Ano {m:L4}{l:Ti}{x:A1}(hm:Px B m)(h:(Oc t l).Perm m) :
  (match Jj m x with | .ret _=>(YY l t x).2=Ah | .go m'=>(YY l t x).2=Af∧(Oc t (YY l t x).1).Perm m')∧((YY l t x).2=Af→∀t',t'≠t→Oc t' (YY l t x).1=Oc t' l):=by
 have hn:((Oc t l).map (·.1)).Nodup:=(h.map _).nodup_iff.2 hm.ms.nodup;unfold YY Jj
 cases hi:AaO l t x.ap with
 | none=>
  have hno:=AfX hi;have hno':∀p∈m,p.1≠x.ap:=λp hp=>hno p (h.mem_iff.2 hp);have hg:CZ m x.ap=Ai:=HD.2 hno'
  cases h1:Ac (x.aa=1) with
  | false=>
   simp only[Aqr];refine⟨?_,by intros;trivial⟩
   cases h2:Ac (x.aa=2) with
   | false=>exact⟨by trivial,h⟩
   | true=>
    simp only[Aqv];rw[Sr hno'];exact⟨by trivial,h⟩
  | true=>
   simp only[Aqv];have hv:C8 m x.ap S6=S6:=by unfold C8;rw[hg];rfl
   have hh:Hh m x.ap=Ah:=by unfold Hh;rw[hg];rfl
   have hs:mset m x.ap ⟨x.aj,(C8 m x.ap S6).aq+1⟩=mins x.ap ⟨x.aj,1⟩ m:=by
    unfold mset;rw[hh,hv];rfl
   rw[hs];have hw:Oc t (l++[Af3 t x])=Oc t l++[(x.ap,⟨x.aj,1⟩)]:=by
    rw[JE,Yy];have:isT t (Af3 t x)=Af:=Aqo rfl;rw[this];rfl
   have hp:(Oc t (l++[Af3 t x])).Perm (mins x.ap ⟨x.aj,1⟩ m):=by
    rw[hw];exact(List.perm_append_singleton _ _).trans ((h.cons _).trans (OU _ _ m).symm)
   refine⟨?_,λ_ t' ht=>?_⟩
   ·have hl:=hp.length_eq
    by_cases hc:256<(Ae (mins x.ap (⟨x.aj,1⟩:Az) m):Int)
    ·rw[Aqo hc];exact Aqn Ab
    ·rw[Aqn hc];exact⟨Aqo Ab,hp⟩
   ·rw[JE,Yy];have:isT t' (Af3 t x)=Ah:=Aqn λe=>ht e.symm;rw[this];simp
 | some i=>
  obtain⟨hil,ht,hk⟩:=YK hi;have hl:=Ahq hil;have hisT:isT t l[i]=Af:=Aqo ht;have hO:Oc t l=Oc t (l.take i)++kvO l[i]::Oc t (l.drop (i+1)):=by
   have:=congrArg (Oc t) hl;rw[JE,M3,hisT] at this;exact this
  have hk1:(kvO l[i]).1=x.ap:=hk;rw[hO] at hn;obtain⟨n1,n2⟩:=Af1 hn;rw[hk1] at n1 n2;have hmem:kvO l[i]∈m:=h.mem_iff.1 (by rw[hO];simp);have hg:CZ m x.ap=Ad (kvO l[i]).2:=Lo hm.ms.nodup (by rw[← hk1];exact hmem);have hoth:∀t',t'≠t→∀w:AK,w.ag=t→isT t' w=Ah:=λt' h1 w h2=>Aqn λe=>h1 (by rw[← e,h2])
  cases h2:Ac (x.aa=2) with
  | true=>
   have h1:Ac (x.aa=1)=Ah:=Aqn (by have:=Aq0 h2;omega);rw[h1];simp only[Aqv,Aqr];refine⟨⟨by trivial,?_⟩,λ_ t' hne=>?_⟩
   ·have hf:=h.filter (λp=>!Ac (p.1=x.ap));rw[hO,List.filter_append,List.filter_cons] at hf;rw[hk1,Aqo rfl] at hf;rw[JE];have e1:=Sr n1;have e2:=Sr n2;unfold mdel at e1 e2;rw[e1,e2] at hf;exact hf
   ·have:=congrArg (Oc t') hl;rw[JE,M3,hoth t' hne _ ht] at this;rw[JE,this];rfl
  | false=>
   simp only[Aqr]
   cases h1:Ac (x.aa=1) with
   | false=>exact⟨⟨by trivial,h⟩,λ_ _ _=>rfl⟩
   | true=>
    simp only[Aqv];have hh:Hh m x.ap=Af:=by unfold Hh;rw[hg];rfl
    have hv:(C8 m x.ap S6).aq=l[i].aE.aq:=by unfold C8;rw[hg];rfl
    have hs:mset m x.ap ⟨x.aj,(C8 m x.ap S6).aq+1⟩=mput m x.ap ⟨x.aj,l[i].aE.aq+1⟩:=by
     unfold mset;rw[hh,hv];rfl
    rw[hs];have hlen:Ae (mput m x.ap (⟨x.aj,l[i].aE.aq+1⟩:Az))=Ae m:=by unfold mput;rw[Aqz]
    rw[Aqn (by rw[hlen];have:=hm.len;omega)];simp only[Aqr];have hset:l.set i (Ahw (A2 l (i:Int)) x)=l.take i++Ahw l[i] x::l.drop (i+1):=by
     rw[C1 hil,List.set_eq_take_append_cons_drop,Arc hil]
    rw[hset];have hT':(Ahw l[i] x).ag=t:=ht;refine⟨⟨by trivial,?_⟩,λ_ t' hne=>?_⟩
    ·rw[JE,M3,show isT t (Ahw l[i] x)=Af from Aqo hT'];have hf:=h.map (λp=>bif Ac (p.1=x.ap) then(x.ap,(⟨x.aj,l[i].aE.aq+1⟩:Az)) else p);rw[hO,Arf,AqY,hk1,Aqo rfl] at hf;have e1:=AdH (v:=⟨x.aj,l[i].aE.aq+1⟩) n1;have e2:=AdH (v:=⟨x.aj,l[i].aE.aq+1⟩) n2;unfold mput at e1 e2;rw[e1,e2] at hf;exact hf
    ·have:=congrArg (Oc t') hl;rw[JE,M3,hoth t' hne _ ht] at this;rw[JE,M3,hoth t' hne _ hT',this];rfl
theorem Adn {r:A8}{c:AO}:∀{es:List A1} {B i:Nat} {m:L4} {a:Ti×List A0},Px B m→(∀x∈es,Ae x.aj≤200)→(Oc c.ag a.1).Perm m→
  (match Ex (λ_=>Jj) i m es with
   | .ret _=>Ex (gR r c) i a es = .ret (Ah,3,r)
   | .go m'=>∃its,Ex (gR r c) i a es = .go (its,a.2++Ng c i es)∧(Oc c.ag its).Perm m'∧∀t',t'≠c.ag→Oc t' its=Oc t' a.1)
 | [],B,i,m,a,hm,hx,h=>by
  rw[Ex];exact⟨a.1,by rw[Ex,Ng,AqJ],h,λ_ _=>rfl⟩
 | x::es,B,i,m,a,hm,hx,h=>by
  obtain⟨h1,h2⟩:=Ano (x:=x) hm h;rw[Ex]
  cases hs:Jj m x with
  | ret q=>
   rw[hs] at h1;show Ex (gR r c) i a (x::es)=_;rw[Ex];unfold gR;rw[show(YY a.1 c.ag x).2=Ah from h1];rfl
  | go m1=>
   rw[hs] at h1;obtain⟨k1,k2⟩:=h1;have ih:=Adn (r:=r) (c:=c) (es:=es) (i:=i+1) (a:=((YY a.1 c.ag x).1,a.2++(bif Km x.aa then[mkG c i x] else[]))) (XX hm (hx x Aj) hs) (λy hy=>hx y (by simp[hy])) k2;have hstep:Ex (gR r c) i a (x::es)=Ex (gR r c) (i+1) ((YY a.1 c.ag x).1,a.2++(bif Km x.aa then[mkG c i x] else[])) es:=by
    rw[Ex];have:gR r c i a x = .go ((YY a.1 c.ag x).1,a.2++(bif Km x.aa then[mkG c i x] else[])):=by unfold gR;rw[k1];rfl
    rw[this]
   show(match Ex (λ_=>Jj) (i+1) m1 es with | .ret _=>_ | .go m'=>_);rw[hstep]
   cases hr:Ex (λ_=>Jj) (i+1) m1 es with
   | ret q=>rw[hr] at ih;exact ih
   | go m'=>
    rw[hr] at ih;obtain⟨its,e1,e2,e3⟩:=ih;refine⟨its,?_,e2,λt' ht=>(e3 t' ht).trans (h2 k1 t' ht)⟩;rw[e1,Ng,Aq4]
theorem AjI (l:List Cd)(e:Aw):(l.any λd=>Ac (d.ai=e))=Ac (e∈l.map (·.ai)):=by
 rw[Aq2];simp
variable{r:A8}
theorem AcK (hI:Ua n o)(hR:Rel o r)(hA:XJ (32*n) r.ak)(c:AO) :
  (Jb r c).1=(Ik o c).1∧(Jb r c).2.1=(Ik o c).2.1∧Rel (Ik o c).2.2 (Jb r c).2.2∧XJ (32*(n+1)) (Jb r c).2.2.ak:=by
 have hA':XJ (32*(n+1)) r.ak:=⟨by have:=hA.len;omega,λw hw=>by have:=hA.val w hw;exact⟨this.1,Ab,this.2.2⟩⟩
 unfold Jb Ik
 by_cases he:Mf c=0
 ·rw[Aqo he];simp only[Aq5,Aqr];have ho:=Lt he;have hlen:=ho.len;rw[AjI,hR.ev,hI.ev c.ai]
  cases hh:Ac (c.ai∈o.ah) with
  | true=>exact⟨rfl,rfl,hR,hA'⟩
  | false=>
   rw[Aqr,Aqr];have hll:Ae r.ah=Ae o.ah:=by rw[← hR.ev,Aqz]
   rw[hll]
   cases Ac (4000≤(Ae o.ah:Int)) with
   | true=>exact⟨rfl,rfl,hR,hA'⟩
   | false=>
    rw[Aqr,Aqr];have hxs:∀x∈c.ac,Ae x.aj≤200:=λx hx=>by
     obtain⟨i,_,hi⟩:=ho.eff hx;exact TS hi
    have hrun:=Adn (r:=r) (c:=c) (i:=0) (a:=(r.ak,[])) (hI.ks c.ag) hxs (hR.ks c.ag);unfold AbH
    cases hr:Ex (λ_=>Jj) 0 (Qw o c.ag) c.ac with
    | ret q=>
     rw[hr] at hrun;rw[show Ex (gR r c) 0 (r.ak,[]) c.ac = .ret (Ah,3,r) from hrun];exact⟨rfl,rfl,hR,hA'⟩
    | go m=>
     rw[hr] at hrun;obtain⟨its,e1,e2,e3⟩:=hrun;have hok:=Amh (r:=r) (c:=c) (i:=0) (a:=(r.ak,[])) hxs hA e1;rw[e1];refine⟨rfl,rfl,⟨hR.made,?_,λd hd=>?_,λt=>?_,?_⟩,⟨by have:=hok.len;show (Ae its)≤_;simp only at this;omega,λw hw=>by have:=hok.val w hw;exact⟨this.1,Ab,this.2.2⟩⟩⟩
     ·show(r.ah++[(⟨c.ai,c.az⟩:Cd)]).map (λd=>d.ai)=o.ah++[c.ai];rw[Arf,hR.ev];rfl
     ·show CZ (mset o.ao c.ai c.az) d.ai=Ad d.az;rw[OV];rcases List.mem_append.1 hd with hd | hd
      ·have hne : ¬ d.ai=c.ai:=λe=>by
        have:c.ai∈o.ah:=by rw[← hR.ev,← e];exact List.mem_map.2 ⟨d,hd,rfl⟩
        exact AqS hh this
       rw[Aqn hne];exact hR.rs d hd
      ·obtain rfl:=List.mem_singleton.1 hd;rw[Aqo rfl];rfl
     ·show(Oc t its).Perm (C8 (mset o.aC c.ag m) t []);rw[Xi]
      by_cases ht:t=c.ag
      ·rw[Aqo ht];subst ht;exact e2
      ·rw[Aqn ht,e3 t ht];exact hR.ks t
     ·show r.ae++([]++Ng c 0 c.ac)=o.ae++Ng c 0 c.ac;rw[hR.pd,AqH]
 ·rw[Aqn he];exact⟨rfl,rfl,hR,hA'⟩
theorem AlJ (hR:Rel o r)(id:Aw):(VO r id).1=(VP o id).1∧Rel (VP o id).2 (VO r id).2∧(VO r id).2.ak=r.ak:=by
 unfold VO VP;rw[hR.pd]
 cases Wi o.ae id with
 | none=>exact⟨rfl,hR,rfl⟩
 | some i=>exact⟨rfl,⟨hR.made,hR.ev,hR.rs,hR.ks,rfl⟩,rfl⟩
structure RE (n:Nat) (o:AE) (r:A8):Prop where
 inv:Ua n o
 rel:Rel o r
 own:XJ (32*n) r.ak
theorem RE.invR (h:RE n o r):Abq n r:=by
 obtain⟨hI,hR,hA⟩:=h;refine⟨hR.made,?_,λd hd=>hI.rs _ (HW (hR.rs d hd)),hA,by rw[hR.pd];exact hI.pn,by rw[hR.pd];exact hI.pv⟩;have:=hI.ln;rw[← hR.ev,Aqz] at this;exact this
theorem XJ.mono {B':Nat}{l:Ti}(h:XJ B l)(hb:B≤B'):XJ B' l:=⟨Nat.le_trans h.len hb,λw hw=>by have:=h.val w hw;exact⟨this.1,Ab,this.2.2⟩⟩
structure Aeq (n:Nat) (a:Bool×Int×AE) (b:Bool×Int×A8):Prop where
 one:b.1=a.1
 two:b.2.1=a.2.1
 rel:Rel a.2.2 b.2.2
 own:XJ (32*(n+1)) b.2.2.ak
theorem SM (h:RE n o r)(c:AO):Aeq n (Ik o c) (Jb r c):=by
 obtain⟨h1,h2,h3,h4⟩:=AcK h.inv h.rel h.own c;exact⟨h1,h2,h3,h4⟩
theorem U7 (h:RE n o r)(id:Aw):Aeq n (Ah,VP o id) (Ah,VO r id):=by
 obtain⟨h1,h2,h3⟩:=AlJ h.rel id;exact⟨rfl,h1,h2,by rw[show(Ah,VO r id).2.2.ak=r.ak from h3];exact h.own.mono Ab⟩
theorem W6 (h:RE n o r)(rc:Aw):Aeq n (Ah,Rl o rc) (Ah,Vp r rc):=by
 unfold Rl Vp
 cases Ku rc with
 | none=>exact⟨rfl,rfl,h.rel,h.own.mono Ab⟩
 | some q=>
  cases q with
  | inl id=>
   have:=U7 h id;exact⟨rfl,rfl,this.rel,this.own⟩
  | inr c=>
   have:=SM h c;exact⟨rfl,this.two,this.rel,this.own⟩
theorem Ak1 (h:RE n o r)(x:BZ):Aeq n (doA o x) (doR r x):=by
 unfold doA doR
 cases Ac (x.aa=0) with
 | true=>exact SM h _
 | false=>
  cases Ac (x.aa=1) with
  | true=>exact U7 h _
  | false=>
   cases Ac (x.aa=2) with
   | true=>
    rw[h.rel.pd];exact U7 h _
   | false=>
    cases Ac (x.aa=3) with
    | true=>exact W6 h _
    | false=>cases Ac (x.aa=4)<;>exact W6 h _
theorem Ak8 (h:RE n o r)(e:Aw):Ak9 r e=(C8 o.ao e [],Hh o.ao e):=by
 unfold Ak9;have h2:=LO (λd:Cd=>Ac (d.ai=e)) r.ah;rw[AjI,h.rel.ev,← h.inv.ev] at h2
 cases hf:r.ah.findIdx? λd=>Ac (d.ai=e) with
 | none=>
  rw[hf] at h2;have hm:Hh o.ao e=Ah:=h2.symm;have hg:CZ o.ao e=Ai:=by
   unfold Hh at hm
   cases hg:CZ o.ao e with
   | none=>rfl
   | some v=>rw[hg] at hm;cases hm
  rw[hm];unfold C8;rw[hg];rfl
 | some i=>
  rw[hf] at h2;obtain⟨hi,hp,_⟩:=List.findIdx?_eq_some_iff_getElem.1 hf;have he:r.ah[i].ai=e:=Aq0 hp;have hg:=h.rel.rs _ (List.getElem_mem hi);rw[he] at hg;simp only;rw[C1 hi,← h2];unfold C8;rw[hg];rfl
structure Zi (l:Ti) (cand:AK→Bool) (i:Nat) (b:Int):Prop where
 is:(b = -1∧∀j (hj:j<Ae l),j<i→cand l[j]=Ah)∨(∃k,∃hk:k<Ae l,b=(k:Int)∧k<i∧cand l[k]=Af∧∀j (hj:j<Ae l),j<i→cand l[j]=Af→CH l[j].aE.ap l[k].aE.ap=Ah)
theorem Ac0 {l:Ti}{cand:AK→Bool}{b:Int}(hi:i<Ae l)(h:Zi l cand i b) :
  Zi l cand (i+1) (bif cand l[i]&&(Ac (b<0)||CH l[i].aE.ap (A2 l b).aE.ap) then(i:Int) else b):=by
 cases hc:cand l[i] with
 | false=>
  rw[AqN,Aqr];rcases h.is with⟨h1,h2⟩ | ⟨k,hk,h1,h2,h3,h4⟩
  ·refine⟨.inl ⟨h1,λj hj hji=>?_⟩⟩;rcases Nat.lt_succ_iff_lt_or_eq.1 hji with h5 | rfl
   ·exact h2 j hj h5
   ·exact hc
  ·refine⟨.inr ⟨k,hk,h1,Ab,h3,λj hj hji hcj=>?_⟩⟩;rcases Nat.lt_succ_iff_lt_or_eq.1 hji with h5 | rfl
   ·exact h4 j hj h5 hcj
   ·rw[hc] at hcj;cases hcj
 | true=>
  rw[Aq3];rcases h.is with⟨h1,h2⟩ | ⟨k,hk,h1,h2,h3,h4⟩
  ·rw[Aqo (show b<0 by omega),Arg,Aqv];refine⟨.inr ⟨i,hi,rfl,Ab,hc,λj hj hji hcj=>?_⟩⟩;rcases Nat.lt_succ_iff_lt_or_eq.1 hji with h5 | rfl
   ·rw[h2 j hj h5] at hcj;cases hcj
   ·exact LY _
  ·rw[Aqn (show ¬ b<0 by omega),Aq9,h1,C1 hk]
   cases hs:CH l[i].aE.ap l[k].aE.ap with
   | true=>
    rw[Aqv];refine⟨.inr ⟨i,hi,rfl,Ab,hc,λj hj hji hcj=>?_⟩⟩;rcases Nat.lt_succ_iff_lt_or_eq.1 hji with h5 | rfl
    ·cases hx:CH l[j].aE.ap l[i].aE.ap with
     | false=>rfl
     | true=>
      have:=h4 j hj h5 hcj;rw[NM hx hs] at this;cases this
    ·exact LY _
   | false=>
    rw[Aqr];refine⟨.inr ⟨k,hk,rfl,Ab,h3,λj hj hji hcj=>?_⟩⟩;rcases Nat.lt_succ_iff_lt_or_eq.1 hji with h5 | rfl
    ·exact h4 j hj h5 hcj
    ·exact hs
def Tf (t:Aw)(out:List B3)(w:AK):Bool:=
 Ac (w.ag=t)&&(bif Ac ((Ae out:Int)=0) then Af else !(CH w.aE.ap (A2 out ((Ae out:Int)-1)).ap||decide (w.aE.ap=(A2 out ((Ae out:Int)-1)).ap)))
theorem Ac1 (hA:XJ B r.ak)(hB:B≤100000){out:List B3}(ho:Ae out≤1000)(hi:i<Ae r.ak){b:Int}(hb:b = -1∨∃k:Nat,b=(k:Int)∧k<Ae r.ak) :
  GJ r t out b (i:Int)=Ad (.next (bif Tf t out r.ak[i]&&(Ac (b<0)||CH r.ak[i].aE.ap (A2 r.ak b).aE.ap) then(i:Int) else b,(i:Int)+1)):=by
 have hl:=hA.len;unfold GJ Jt;rw[AX (Aqo Ab),Bi Ab Ab,C1 hi];have c1:imp (!(Ac (b<0))) (CE b (Ae r.ak:Int))=Af:=by
  rcases hb with rfl | ⟨k,rfl,hk⟩
  ·rfl
  ·rw[L7 Ab Ab];exact Gz _
 have c2:imp (!(Ac ((Ae out:Int)=0))) (BJ .i64 ((Ae out:Int)-1))=Af:=by rw[EV Ab Ab];exact Gz _
 have c3:imp (!(Ac ((Ae out:Int)=0))) (CE ((Ae out:Int)-1) (Ae out:Int))=Af:=by
  by_cases h0:(Ae out:Int)=0
  ·rw[Aqo h0];rfl
  ·rw[L7 Ab Ab];exact Gz _
 rw[Cn (by rw[c1,Gz,Gz]),Cn (by rw[c2,Gz]),Cn (by rw[c3,Gz]),Cn (by rw[c1,Gz,Gz,Gz])];rw[AH Ab Ab,AH Ab Ab,Jd];unfold Tf;generalize A2 out ((Ae out:Int)-1)=z;generalize A2 r.ak b=w;generalize r.ak[i]=u;generalize Ac ((Ae out:Int)=0)=E;generalize Ac (b<0)=C;generalize Ac (u.ag=t)=A;generalize CH u.aE.ap w.aE.ap=D;generalize(CH u.aE.ap z.ap||decide (u.aE.ap=z.ap))=G
 cases A<;>cases E<;>cases C<;>cases D<;>cases G<;>rfl
theorem Xo (hA:XJ B r.ak)(hB:B≤100000){out:List B3}(ho:Ae out≤1000) :
  ∀(d n i:Nat) (b:Int),i+d=Ae r.ak→d<n→Zi r.ak (Tf t out) i b→∃b',Cp (λσ=>GJ r t out σ.1 σ.2) n (b,(i:Int))=Ad (.go (b',(Ae r.ak:Int),(Ae r.ak:Int),Ah))∧Zi r.ak (Tf t out) (Ae r.ak) b':=by
 intro d
 induction d with
 | zero=>
  intro n i b h hn hL;obtain⟨n,rfl⟩:∃m,n=m+1:=⟨n-1,Ab⟩
  obtain rfl:i=Ae r.ak:=Ab
  refine⟨b,?_,hL⟩;rw[Cp];have:GJ r t out b (Ae r.ak:Int)=Ad (.out (.go (b,(Ae r.ak:Int),(Ae r.ak:Int),Ah))):=by
   unfold GJ;rw[AF (Aqn Ab),Aqn Ab]
  simp only[this]
 | succ d ih=>
  intro n i b h hn hL;obtain⟨n,rfl⟩:∃m,n=m+1:=⟨n-1,Ab⟩
  have hi:i<Ae r.ak:=Ab
  have hb:b = -1∨∃k:Nat,b=(k:Int)∧k<Ae r.ak:=by
   rcases hL.is with⟨h1,_⟩ | ⟨k,hk,h1,_⟩
   ·exact .inl h1
   ·exact .inr ⟨k,h1,hk⟩
  obtain⟨b',e,hL'⟩:=ih n (i+1) _ Ab Ab (Ac0 hi hL);refine⟨b',?_,hL'⟩;rw[Cp];simp only[Ac1 hA hB ho hi hb];exact e
theorem ZU (h:RE n o r)(hn:n≤100)(t:Aw) :
  ∀(d F j:Nat),j+d=Ae (Qw o t)→d<F→Cp (λσ=>GK FF r t σ) F (((Qw o t).take j).map Zl)=Ad (.ret (Nt o t)):=by
 have hA:=h.own;have hks:=h.inv.ks t;have hlen:=hks.len;have hperm:=h.rel.ks t;have hrl:=hA.len;have hasc:∀(a b:Nat) (ha:a<Ae (Qw o t)) (hb:b<Ae (Qw o t)),a<b→CH (Qw o t)[a].1 (Qw o t)[b].1=Af:=List.pairwise_iff_getElem.1 hks.ms;generalize hm:Qw o t=m at hlen hperm hasc;have hS:Nt o t=m.map Zl:=by unfold Nt;rw[hm]
 rw[hS];have key:∀j,j≤Ae m→∀w,Tf t ((m.take j).map Zl) w=(Ac (w.ag=t)&&(Ac (j=0)||(bif Ac (0<j) then CH (A2 m ((j:Int)-1)).1 w.aE.ap else Af))):=by
  intro j hj w;unfold Tf;have hl:Ae ((m.take j).map Zl)=j:=by rw[Aqz,AqV];omega
  rw[hl]
  by_cases h0:j=0
  ·subst h0;simp
  ·rw[Aqn (show ¬ (j:Int)=0 by omega),Aqn h0,Aqo (show 0<j by omega),Aqr,Aq9,Aqv];have e1:((j:Int)-1)=((j-1:Nat):Int):=Ab
   have hj1:j-1<Ae m:=Ab
   rw[e1,C1 (by rw[hl];omega),C1 hj1,List.getElem_map,List.getElem_take];show _=(Ac (w.ag=t)&&CH m[j-1].1 w.aE.ap)
   congr 1
   show(!(CH w.aE.ap m[j-1].1||decide (w.aE.ap=m[j-1].1)))=_;rcases U4 w.aE.ap m[j-1].1 with h1 | h1 | h1
   ·rw[h1,U5 h1];rfl
   ·rw[h1,LY];simp
   ·rw[h1,U5 h1,Aqn (AlR h1).symm];rfl
 have hcan:∀j,j≤Ae m→∀w∈r.ak,Tf t ((m.take j).map Zl) w=Af→∃q,∃hq:q<Ae m,kvO w=m[q]∧j≤q:=by
  intro j hj w hw hc;rw[key j hj] at hc;simp only[Aqu,Aqq] at hc;obtain⟨ht,hc⟩:=hc;have hmem:kvO w∈m:=hperm.mem_iff.1 (YD.2 ⟨w,hw,ht,rfl⟩);obtain⟨q,hq,e⟩:=List.getElem_of_mem hmem;refine⟨q,hq,e.symm,?_⟩
  by_cases h0:j=0
  ·omega
  ·rw[Aqn h0,Aqo (show 0<j by omega),Aq9,Aqv] at hc;have e1:((j:Int)-1)=((j-1:Nat):Int):=Ab
   have hj1:j-1<Ae m:=Ab
   rw[e1,C1 hj1] at hc;have hc:CH m[j-1].1 (kvO w).1=Af:=hc;rw[← e] at hc
   by_cases hlt:q<j
   ·exfalso;rcases Nat.eq_or_lt_of_le (show q≤j-1 by omega) with rfl | h2
    ·rw[LY] at hc;cases hc
    ·rw[U5 (hasc q (j-1) hq hj1 h2)] at hc;cases hc
   ·omega
 intro d
 induction d with
 | zero=>
  intro F j hj hF;obtain⟨F,rfl⟩:∃m,F=m+1:=⟨F-1,Ab⟩
  obtain rfl:j=Ae m:=Ab
  have ho:Ae ((m.take (Ae m)).map Zl)≤1000:=by rw[Aqz,AqV];omega
  obtain⟨b,e,hL⟩:=Xo hA Ab (t:=t) ho (Ae r.ak) FF 0 (-1) Ab (by show _<5000000;omega) ⟨.inl ⟨rfl,λj _ hj=>by omega⟩⟩;have hb:b = -1:=by
   rcases hL.is with⟨h1,_⟩ | ⟨k,hk,_,_,hc,_⟩
   ·exact h1
   ·obtain⟨q,hq,_,h2⟩:=hcan (Ae m) (Aq7 _) _ (List.getElem_mem hk) hc;omega
  rw[Cp];have:GK FF r t ((m.take (Ae m)).map Zl)=Ad (.out (.ret (m.map Zl))):=by
   unfold GK;refine(congrArg (λz=>BB z _) e).trans ?_;rw[Bv,hb];show Hp r ((m.take (Ae m)).map Zl) (-1) (Ae r.ak:Int) (Ae r.ak:Int) Ah=_;unfold Hp;rw[AX Al,Arn]
  simp only[this]
 | succ d ih=>
  intro F j hj hF;obtain⟨F,rfl⟩:∃m,F=m+1:=⟨F-1,Ab⟩
  have hjl:j<Ae m:=Ab
  have hol:Ae ((m.take j).map Zl)=j:=by rw[Aqz,AqV];omega
  obtain⟨b,e,hL⟩:=Xo hA Ab (t:=t) (out:=(m.take j).map Zl) Ab (Ae r.ak) FF 0 (-1) Ab (by show _<5000000;omega) ⟨.inl ⟨rfl,λj _ hj=>by omega⟩⟩;obtain⟨w,hw,ht,hkv⟩:=YD.1 (hperm.mem_iff.2 (List.getElem_mem hjl));obtain⟨iw,hiw,rfl⟩:=List.getElem_of_mem hw;have hcw:Tf t ((m.take j).map Zl) r.ak[iw]=Af:=by
   rw[key j Ab,Aqo ht,Aq3]
   by_cases h0:j=0
   ·rw[Aqo h0];rfl
   ·rw[Aqn h0,Aqo (show 0<j by omega),Aq9,Aqv];have e1:((j:Int)-1)=((j-1:Nat):Int):=Ab
    have hj1:j-1<Ae m:=Ab
    rw[e1,C1 hj1];show CH m[j-1].1 (kvO r.ak[iw]).1=Af;rw[hkv];exact hasc (j-1) j hj1 hjl Ab
  obtain⟨k,hk,hbk,hkj⟩:∃k,∃hk:k<Ae r.ak,b=(k:Int)∧kvO r.ak[k]=m[j]:=by
   rcases hL.is with⟨_,h2⟩ | ⟨k,hk,h1,_,hc,h4⟩
   ·rw[h2 iw hiw hiw] at hcw;cases hcw
   ·refine⟨k,hk,h1,?_⟩;obtain⟨q,hq,e2,hjq⟩:=hcan j Ab _ (List.getElem_mem hk) hc;rcases Nat.eq_or_lt_of_le hjq with rfl | hlt
    ·exact e2
    ·exfalso;have:=h4 iw hiw hiw hcw;have h5:=hasc j q hjl hq hlt;rw[← e2,← hkv] at h5;rw[show CH r.ak[iw].aE.ap r.ak[k].aE.ap=Af from h5] at this
     cases this
  have hv:=hA.at hk;rw[Cp];have hnext:GK FF r t ((m.take j).map Zl)=Ad (.next ((m.take (j+1)).map Zl)):=by
   unfold GK;refine(congrArg (λz=>BB z _) e).trans ?_;rw[Bv,hbk];show Hp r ((m.take j).map Zl) (k:Int) (Ae r.ak:Int) (Ae r.ak:Int) Ah=_;unfold Hp;rw[AF (Aqn Ab),Bi Ab Ab,C1 hk,Lb Ab,Bv,VF Am];have:B3.mk r.ak[k].aE.ap r.ak[k].aE.aj r.ak[k].aE.aq=Zl m[j]:=by rw[← hkj];rfl
   rw[this,List.take_succ_eq_append_getElem hjl,Arf];rfl
  simp only[hnext];exact ih F (j+1) Ab Ab
theorem AbO (h:RE n o r)(hn:n≤100)(t:Aw):QD FF r t=Ad (Nt o t):=by
 have hlen:=(h.inv.ks t).len;have:=ZU h hn t (Ae (Qw o t)) FF 0 Ab (by show _<5000000;omega);unfold QD;refine(congrArg (λz=>BB z _) this).trans ?_;rfl
def mkB (i:Nat)(s:AE×A8):Int×Bool×(List Cd)×(List AK)×(List A0)×Bool×(List Aw)×(List A0)×(List (Aw×(List Av)))×(List (Aw×(List (Aw×Az)))):=
 ((i:Int),s.2.ax,s.2.ah,s.2.ak,s.2.ae,s.1.ax,s.1.ah,s.1.ae,s.1.ao,s.1.aC)
theorem XA {l:List BZ}{e:Aw}(hx:∀x∈l,OpS x)(hl:Ae l≤60)(i:Nat)(hi:i<Ae l)(s:AE×A8)(hP:RE i s.1 s.2) :
  J7 FF l t e (mkB i s).1 (mkB i s).2.1 (mkB i s).2.2.1 (mkB i s).2.2.2.1 (mkB i s).2.2.2.2.1 (mkB i s).2.2.2.2.2.1 (mkB i s).2.2.2.2.2.2.1 (mkB i s).2.2.2.2.2.2.2.1 (mkB i s).2.2.2.2.2.2.2.2.1 (mkB i s).2.2.2.2.2.2.2.2.2=Ad (.next (mkB (i+1) ((doA s.1 l[i]).2.2,(doR s.2 l[i]).2.2)))∧RE (i+1) (doA s.1 l[i]).2.2 (doR s.2 l[i]).2.2:=by
 obtain⟨o,r⟩:=s;simp only at hP ⊢;have hxi:=hx _ (List.getElem_mem hi);have hat:A2 l (i:Int)=l[i]:=C1 hi;have hS:=Ak1 hP l[i];have hB:RE (i+1) (doA o l[i]).2.2 (doR r l[i]).2.2:=⟨AmX hP.inv _,hS.rel,hS.own⟩
 refine⟨?_,hB⟩;have hI':=hB.inv;have hR':=hB.invR;unfold J7;show By (Ac ((i:Int)<(Ae l:Int))) _ _=_;rw[AX (Aqo Ab)];show Bc (CE (i:Int) (Ae l:Int)) _=_;rw[Bi Ab Ab];simp only[show(mkB i (o,r)).1=(i:Int) from rfl,hat];generalize l[i]=x at hxi hS hB hI' hR';show BB (Xs FF o x) _=_;rw[Aou hP.inv Ab hxi,Bv];show BB (OY FF r x) _=_;rw[Al4 hP.invR Ab hxi,Bv];have hp:=hI'.pn;have hln:=hI'.ln;have hit:=Ac4 hI' t;have hv:Ae (C8 (doA o x).2.2.ao e ([]:List Av))≤200:=by
  rcases Vm (m:=(doA o x).2.2.ao) (k:=e) (z:=([]:List Av)) with⟨h1,_⟩ | ⟨h1,_⟩
  ·rw[h1];exact AqL _
  ·exact hI'.rs _ h1
 rw[Aci hI',Bv,ZT hR' Ab Al,Bv,Ak8 hB,hS.one,hS.two];rw[AF Aj,Aqo rfl,AF An,AF Aj];show BB (LA FF (C8 (doA o x).2.2.ao e []) (C8 (doA o x).2.2.ao e [])) _=_;rw[RO (by show _<5000000;omega) Ab,Bv,Aqo rfl,AF An];rw[Acm hI' Ab,Bv,ZV hR' Ab Al,Bv,hB.rel.ev,AfZ (by show _<5000000;omega) Ab,Bv,Aqo rfl,AF An];rw[SV hI' Ab Al,Bv,QC hR' Ab Al,Bv,hB.rel.pd,Wh (by show _<5000000;omega) Al Ab hI'.pv,Bv,Aqo rfl,AF An];rw[Afw hI' Ab Al,Bv,AbO hB Ab,Bv,AaG (by show _<5000000;omega) Al Ab hit.2,Bv,Aqo rfl];unfold GY mkB;rw[AF An,AH Ab Ab];rfl
theorem AjD:RE 0 AkS ⟨Af,[],[],[]⟩:=
 ⟨Alk,⟨rfl,rfl,λd hd=>(by cases hd),λt=>AqC _,rfl⟩,⟨Aq7 _,λw hw=>by cases hw⟩⟩
theorem Ac2 {l:List BZ}{e:Aw}(hx:∀x∈l,OpS x):YG FF l t e=Ad Af:=by
 unfold YG
 by_cases ha:60<(Ae l:Int)
 ·rw[AX (Aqo ha),SZ,Bv]
 ·rw[AF (Aqn ha)];unfold Afu Yl;rw[Bv,Bv];have h:=(Gr (l:=l) (mk:=mkB) (fin:=λ_=>()) (body:=λσ=>J7 FF l t e σ.1 σ.2.1 σ.2.2.1 σ.2.2.2.1 σ.2.2.2.2.1 σ.2.2.2.2.2.1 σ.2.2.2.2.2.2.1 σ.2.2.2.2.2.2.2.1 σ.2.2.2.2.2.2.2.2.1 σ.2.2.2.2.2.2.2.2.2) (R:=Bool) (λ_ s x=>.go ((doA s.1 x).2.2,(doR s.2 x).2.2)) (λi s=>RE i s.1 s.2) (λi hi s hP=>⟨by rw[(XA hx Ab i hi s hP).1];rfl,λb hb=>by
   cases hb
   exact(XA (t:=t) (e:=e) hx Ab i hi s hP).2⟩) (λs hP=>by
   unfold J7;show By (Ac ((Ae l:Int)<(Ae l:Int))) _ _=_;rw[AF (Aqn Ab)]) (F:=FF) (by show _<5000000;omega) (a:=(AkS,⟨Af,[],[],[]⟩)) AjD).1
  refine(congrArg (λz=>BB z _) h).trans ?_;rw[Bv];have hgo:∀(l:List BZ) (i:Nat) (s:AE×A8),∃b,Ex (R:=Bool) (λ_ s x=>.go ((doA s.1 x).2.2,(doR s.2 x).2.2)) i s l = .go b:=by
   intro l
   induction l with
   | nil=>intro i s;exact⟨s,rfl⟩
   | cons x l ih=>intro i s;rw[Ex];exact ih (i+1) _
  obtain⟨b,hb⟩:=hgo l 0 (AkS,⟨Af,[],[],[]⟩);rw[hb];show MC FF=_;unfold MC;rw[SZ,Bv]
end Go.Proofs.YtiddaamglmmnaaaGreatDoor
namespace Go.Proofs.YtiddaamglmmnaaaGreatDoor.lawOutboxDoes
open Go
set_option linter.unusedVariables false
theorem law:Law:=λl t e h0 _ _=>⟨FF,Ac2 λx hx=>OpS.ofB (List.all_eq_true.1 (Bool.and_eq_true_iff.1 h0).1 x hx)⟩
end Go.Proofs.YtiddaamglmmnaaaGreatDoor.lawOutboxDoes
