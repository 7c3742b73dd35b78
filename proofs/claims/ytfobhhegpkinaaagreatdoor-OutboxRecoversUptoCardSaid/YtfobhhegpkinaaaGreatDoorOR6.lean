/-
  Texts of the proof, put together: LbG, LbI, LbA, LbH, LbJ, LbK, LbL, LwORecovers.
-/
import Derived.Test.YtfobhhegpkinaaaGreatDoorOR5
namespace Go.Proofs.YtfobhhegpkinaaaGreatDoor
open Go
set_option linter.unusedVariables false
set_option linter.unusedSimpArgs false
abbrev KD:=List (Ai×Ac)
def Qe:Ac:=⟨[],0⟩
def Km (m:KD)(x:Ap):Out (Int×KD) KD:=
 bif decide (x.fKind=1) then(bif decide (256<((mset m x.fKey ⟨x.fValue,(B2 m x.fKey Qe).fVersion+1⟩).length:Int)) then .ret (3,mset m x.fKey ⟨x.fValue,(B2 m x.fKey Qe).fVersion+1⟩) else .go (mset m x.fKey ⟨x.fValue,(B2 m x.fKey Qe).fVersion+1⟩))
 else bif decide (x.fKind=2) then .go (mdel m x.fKey) else .go m
def UG (m:KD)(l:List Ap):Out (Int×KD) KD:=ED (λ_=>Km) 0 m l
def mkG (c:AC)(i:Nat)(x:Ap):Ak:=⟨BK c.fEvent (i:Int),c.fTenant,c.fEvent,c.fAt,x⟩
def LI (c:AC):Nat→List Ap→List Ak
 | _,[]=>[]
 | i,x::r=>(bif Kn x.fKind then[mkG c i x] else[])++LI c (i+1) r
def Qv (o:Al)(t:Ai):KD:=B2 o.fKeys t []
def CM (o:Al)(c:AC):Bool×Int×Al:=
 bif !decide (JY c=0) then(false,JY c,o) else
 bif E6 o.fResults c.fEvent then(false,0,o) else
 bif decide (4000≤(o.fEvents.length:Int)) then(false,3,o) else
 match UG (Qv o c.fTenant) c.fEffects with
 | .ret q=>(false,3,o)
 | .go m=>(true,0,⟨o.fMade,o.fEvents++[c.fEvent],mset o.fResults c.fEvent c.fResult,mset o.fKeys c.fTenant m,o.fPending++LI c 0 c.fEffects⟩)
def Qx (l:List Ak)(id:Ai):Option Nat:=l.findIdx? λx=>decide (x.fID=id)
def Iw (o:Al)(id:Ai):Int×Al:=
 match Qx o.fPending id with
 | none=>(5,o)
 | some i=>(0,⟨o.fMade,o.fEvents,o.fResults,o.fKeys,o.fPending.take i++o.fPending.drop (i+1)⟩)
def Hw (o:Al)(rc:Ai):Int×Al:=
 Afm (α:=Unit) (13,o) (λid=>(0,(Iw o id).2)) (λc=>((CM o c).2.1,(CM o c).2.2)) (NR rc)
def itI (p:Ai×Ac):Bt:=⟨p.1,p.2.fValue,p.2.fVersion⟩
def P7 (o:Al)(t:Ai):List Bt:=(Qv o t).map itI
def ZX (l:List Ak)(n:Int):Ai:=bif decide (n<0)||decide ((l.length:Int)≤n) then[] else(Aq l n).fID
def L3 (o:Al)(x:Bl):Bool×Int×Al:=
 bif decide (x.fKind=0) then CM o x.fC else
 bif decide (x.fKind=1) then(false,Iw o x.fS) else
 bif decide (x.fKind=2) then(false,Iw o (ZX o.fPending x.fN)) else
 bif decide (x.fKind=3) then(false,Hw o x.fS) else
 bif decide (x.fKind=4) then(false,Hw o (Ii x.fC).1) else(false,Hw o (HE x.fS).1)
structure MR (B:Nat) (m:KD):Prop where
 ms:Ms m
 len:m.length≤256
 val:∀p∈m,0≤p.2.fVersion∧p.2.fVersion≤B∧p.2.fValue.length≤200
structure JS (n:Nat) (o:Al):Prop where
 made:o.fMade=true
 ev:∀k,E6 o.fResults k=decide (k∈o.fEvents)
 ln:o.fEvents.length≤n
 rs:∀p∈o.fResults,p.2.length≤200
 ks:∀t,MR (32*n) (Qv o t)
 pn:o.fPending.length≤32*n
 pv:∀x∈o.fPending,x.fEffect.fValue.length≤200
 pc:∀x∈o.fPending,x.fCause∈o.fEvents∧∃i:Int,C1 x.fCause i=0∧x.fID=BK x.fCause i
 pu:(o.fPending.map (·.fID)).Nodup
theorem PK {v:List Ab}(h:Jo v=0):v.length≤200:=by
 unfold Jo at h
 cases hw:whole v with
 | none=>rw[hw] at h;cases h
 | some f=>
  rw[hw] at h;rw[(LC hw).1];exact(PM h).2.2.1
theorem Ww {ev:Ai}{i:Int}{x:Ap}(h:PL ev i x=0):x.fValue.length≤200:=by
 obtain⟨_,_,_,h4,h5,_⟩:=MG h
 by_cases hk:x.fKind=2
 ·rw[h4 hk];simp
 ·exact PK (h5 hk)
theorem Pz {T:Type}{m:List (Ai×T)}{k:Ai}{z:T}:(B2 m k z=z∧Cd m k=none)∨((k,B2 m k z)∈m∧Cd m k=some (B2 m k z)):=by
 unfold B2
 cases h:Cd m k with
 | none=>exact .inl ⟨rfl,rfl⟩
 | some v=>exact .inr ⟨GY h,rfl⟩
theorem MR.ver {B:Nat}{m:KD}(h:MR B m)(k:Ai):0≤(B2 m k Qe).fVersion∧(B2 m k Qe).fVersion≤B∧(B2 m k Qe).fValue.length≤200:=by
 rcases Pz (m:=m) (k:=k) (z:=Qe) with⟨e,_⟩ | ⟨e,_⟩
 ·rw[e];exact⟨by decide,by show(0:Int)≤_;omega,by decide⟩
 ·exact h.val _ e
theorem Rf {T:Type}{xs:List (Ai×T)}{k:Ai}{v:T}{p:Ai×T}(h:p∈mset xs k v):p=(k,v)∨p∈xs:=by
 unfold mset at h
 cases hh:E6 xs k with
 | true=>
  rw[hh] at h;obtain⟨q,hq,e⟩:=List.mem_map.1 h
  cases hd:decide (q.1=k) with
  | true=>rw[hd] at e;exact .inl e.symm
  | false=>rw[hd] at e;exact .inr (e▸hq)
 | false=>
  rw[hh] at h;rcases List.mem_cons.1 ((Nl k v xs).subset h) with e | e
  ·exact .inl e
  ·exact .inr e
theorem XG {T:Type}{xs:List (Ai×T)}{k:Ai}{p:Ai×T}(h:p∈mdel xs k):p∈xs:=(List.mem_filter.1 h).1
theorem VH {B:Nat}{m b:KD}{x:Ap}(h:MR B m)(hx:x.fValue.length≤200)(hs:Km m x = .go b):MR (B+1) b:=by
 unfold Km at hs
 cases h1:decide (x.fKind=1) with
 | true=>
  rw[h1,AfL] at hs
  cases h2:decide (256<((mset m x.fKey ⟨x.fValue,(B2 m x.fKey Qe).fVersion+1⟩).length:Int)) with
  | true=>rw[h2] at hs;cases hs
  | false=>
   rw[h2,AfH] at hs
   cases hs
   refine⟨h.ms.mset _ _,by have:=Ag0 h2;omega,λp hp=>?_⟩;have hv:=h.ver x.fKey;rcases Rf hp with rfl | hp
   ·show 0≤(B2 m x.fKey Qe).fVersion+1∧(B2 m x.fKey Qe).fVersion+1≤_∧x.fValue.length≤200;exact⟨by omega,by omega,hx⟩
   ·have:=h.val p hp;exact⟨this.1,by omega,this.2.2⟩
 | false=>
  rw[h1,AfH] at hs
  cases h2:decide (x.fKind=2) with
  | true=>
   rw[h2,AfL] at hs
   cases hs
   refine⟨h.ms.mdel _,?_,λp hp=>?_⟩
   ·have:=List.length_filter_le (λp:Ai×Ac=>!decide (p.1=x.fKey)) m;have:=h.len;show(List.filter _ m).length≤_;omega
   ·have:=h.val p (XG hp);exact⟨this.1,by omega,this.2.2⟩
  | false=>
   rw[h2,AfH] at hs
   cases hs
   exact⟨h.ms,h.len,λp hp=>by have:=h.val p hp;exact⟨this.1,by omega,this.2.2⟩⟩
theorem MR.mono {B B':Nat}{m:KD}(h:MR B m)(hb:B≤B'):MR B' m:=⟨h.ms,h.len,λp hp=>by have:=h.val p hp;exact⟨this.1,by omega,this.2.2⟩⟩
theorem VM:∀{l:List Ap} {B i:Nat} {m b:KD},MR B m→(∀x∈l,x.fValue.length≤200)→ED (λ_=>Km) i m l = .go b→MR (B+l.length) b
 | [],B,i,m,b,h,_,hr=>by rw[ED] at hr;cases hr;exact h
 | x::r,B,i,m,b,h,hx,hr=>by
  rw[ED] at hr
  cases hs:Km m x with
  | ret q=>rw[hs] at hr;cases hr
  | go b'=>
   rw[hs] at hr;have:=VM (VH h (hx x (by simp)) hs) (λy hy=>hx y (by simp[hy])) hr;exact this.mono (by simp;omega)
theorem Vr {α:Type}{n:Nat}{x:Option α}(h:n≤1000000000):Bd (Dz 40 n) x=x:=Cq (AfI (by omega))
theorem Vq {α:Type}{n:Nat}{x:Option α}(h:n≤1000000000):Bd (Dz 48 n) x=x:=Cq (AfI (by omega))
theorem K7 {α:Type}{n:Nat}{x:Option α}(h:n≤1000000000):Bd (Dz 112 n) x=x:=Cq (AfI (by omega))
theorem Ik {v:List Ab}(h:v.length≤1000000000):Hp v=some v:=by
 unfold Hp;rw[Vr (by simp;omega)];rfl
theorem Vo {v:List Ai}(h:v.length≤1000000000):MM v=some v:=by
 unfold MM;rw[Im (by simp;omega)];rfl
theorem Vp {v:List Ak}(h:v.length≤1000000000):MN v=some v:=by
 unfold MN;rw[K7 (by simp;omega)];rfl
theorem Wc {x:Ap}(h:x.fValue.length≤1000000000):UT x=some x:=by
 unfold UT;rw[Ik h,Bh]
theorem X0 {F B:Nat}{m:KD}{l:List Ap}(hF:l.length<F)(hl:l.length≤1000000)(hB:B≤1000000)(h:MR B m)(hx:∀x∈l,x.fValue.length≤200):Pw F m l=some (match UG m l with | .ret q=>q | .go b=>(0,b)):=by
 unfold Pw UG;have hh:=(H8 (l:=l) (mk:=λi (acc:KD)=>((i:Int),acc)) (fin:=id) (body:=λσ=>Gp l σ.1 σ.2) (λ_=>Km) (λi m=>MR (B+i) m) (λi hi acc hP=>by
  have hxi:=hx l[i] (List.getElem_mem hi);have hv:=hP.ver l[i].fKey;refine⟨?_,λb hb=>VH hP hxi hb⟩;unfold Gp;simp only;rw[AZ (AfI (by omega)),Bm (by omega) (by omega),CS hi];unfold Km GO
  cases decide (l[i].fKind=1) with
  | true=>
   rw[CX,Ik (by omega),Bh,show(Ac.mk ([]:(List Ab)) 0)=Qe from rfl,Ba (by omega) (by omega),Ba (by omega) (by omega)]
   cases decide (256<((mset acc l[i].fKey ⟨l[i].fValue,(B2 acc l[i].fKey Qe).fVersion+1⟩).length:Int))<;>rfl
  | false=>
   rw[BU,Ba (by omega) (by omega),Ba (by omega) (by omega)]
   cases decide (l[i].fKind=2)<;>rfl) (λacc hP=>by unfold Gp;simp only;rw[AN (AfG (by omega))];rfl) (F:=F) hF (a:=m) h).1
 show Bq (Ci (λσ=>Gp l σ.1 σ.2) F (((0:Nat):Int),m)) (BO λν=>Je ν)=_;rw[hh,Bh]
 cases ED (λ_=>Km) 0 m l<;>rfl
theorem Ack {α R U:Type}{l:List α}{p:α→Bool}{ret:Nat→R}{body:Int→Option (Stp Int (Out R U))}{u:U}(hb:∀(i:Nat) (h:i<l.length),body (i:Int)=Bw (p l[i]) (some (.out (.ret (ret i)))) (some (.next ((i:Int)+1))))(he:body (l.length:Int)=some (.out (.go u))) :
  ∀(d n i:Nat),i+d=l.length→d<n→Ci body n (i:Int)=some (match (l.drop i).findIdx? p with | some j=>.ret (ret (i+j)) | none=>.go u):=by
 intro d
 induction d with
 | zero=>
  intro n i h hn;obtain⟨n,rfl⟩:∃m,n=m+1:=⟨n-1,by omega⟩
  obtain rfl:i=l.length:=by omega
  rw[Ci,he,List.drop_length];rfl
 | succ d ih=>
  intro n i h hn;obtain⟨n,rfl⟩:∃m,n=m+1:=⟨n-1,by omega⟩
  have hi:i<l.length:=by omega
  rw[Ci,hb i hi,List.drop_eq_getElem_cons hi,List.findIdx?_cons]
  cases hp:p l[i] with
  | true=>simp[Bw]
  | false=>
   have:=ih n (i+1) (by omega) (by omega);simp only[BU];refine this.trans ?_
   cases(List.drop (i+1) l).findIdx? p with
   | none=>rfl
   | some j=>simp only[Option.map_some,Agb,Ag5];rw[show i+1+j=i+(j+1) by omega]
theorem TG {α R U:Type}{l:List α}{p:α→Bool}{ret:Nat→R}{body:Int→Option (Stp Int (Out R U))}{u:U}{F:Nat}(hF:l.length<F)(hb:∀(i:Nat) (h:i<l.length),body (i:Int)=Bw (p l[i]) (some (.out (.ret (ret i)))) (some (.next ((i:Int)+1))))(he:body (l.length:Int)=some (.out (.go u))) :
  Ci body F 0=some (match l.findIdx? p with | some j=>.ret (ret j) | none=>.go u):=by
 have h:=Ack hb he l.length F 0 (by omega) hF;rw[List.drop_zero] at h;refine h.trans ?_
 cases l.findIdx? p with
 | none=>rfl
 | some j=>simp only[Agx]
theorem XP {F:Nat}{l:List Ak}(hF:l.length<F)(hl:l.length≤1000000)(id:Ai):PB F l id=some (match Qx l id with | some j=>(j:Int) | none=>-1):=by
 unfold PB Qx;rw[TG (l:=l) (p:=λx=>decide (x.fID=id)) (ret:=λj:Nat=>(j:Int)) (u:=()) hF (λi h=>by
  unfold HK Wd;rw[AZ (AfI (by omega)),Bm (by omega) (by omega),CS h,Bh,Ba (by omega) (by omega)]) (by unfold HK;rw[AN (AfG (by omega))]),Bh]
 cases l.findIdx? λx=>decide (x.fID=id)<;>rfl
theorem Vn {l:List Ak}{i:Nat}(h:i<l.length):ML l (i:Int) ((i:Int)+1)=some (l.take i++l.drop (i+1)):=by
 unfold ML;rw[C7 (by omega) (by omega),C7 (by omega) (by omega),C7 (by omega) (by omega),AN (AfG (by omega)),C7 (by omega) (by omega)];have e1:Int.toNat (i:Int)=i:=by omega
 have e2:Int.toNat ((i:Int)+1)=i+1:=by omega
 rw[e1,e2,C7 (by omega) (by omega)];have e3:Int.toNat ((i+(l.length-(i+1)):Nat):Int)=i+(l.length-(i+1)):=by omega
 rw[e3];have hl:(List.take i l++List.drop (i+1) l).length=i+(l.length-(i+1)):=by
  rw[AfK,Ag6,Agy];omega
 refine congrArg some ?_;rw[Agk (List.take i l) (List.drop (i+1) l)];rw[← Agk,← hl,List.take_left' rfl,List.take_left' rfl]
theorem Wm {l:List Ak}{id:Ai}{i:Nat}(h:Qx l id=some i):∃hi:i<l.length,l[i].fID=id:=by
 unfold Qx at h;obtain⟨hi,hp,_⟩:=List.findIdx?_eq_some_iff_getElem.1 h;exact⟨hi,AfS hp⟩
theorem Sq {F n:Nat}{o:Al}(h:JS n o)(hn:n≤100)(hF:5000<F)(id:Ai):Sr F o id=some (Iw o id):=by
 have hp:=h.pn;unfold Sr Iw Ev;rw[Bh,h.made,AN (by rfl),XP (by omega) (by omega),Bh]
 cases hi:Qx o.fPending id with
 | none=>rfl
 | some i=>
  simp only;obtain⟨hl,_⟩:=Wm hi;rw[AN (AfG (by omega)),Vp (by omega),Bh,Ba (by omega) (by omega),Vn hl,Bh]
theorem Ks {F n:Nat}{o:Al}(h:JS n o)(hn:n≤100)(hF:5000<F):Ec F o=some o.fPending:=by
 have hp:=h.pn;unfold Ec Ev;rw[Bh,h.made,AN (by rfl)];have hh:=(H8 (l:=o.fPending) (mk:=λi (acc:List Ak)=>(acc,(i:Int))) (fin:=id) (body:=λσ=>DJ o σ.1 σ.2) (λ_ acc x=>.go (acc++[id x])) (λi acc=>acc.length=i) (λi hi acc hP=>by
  refine⟨?_,λb hb=>by cases hb;simp[hP]⟩;have hv:=h.pv _ (List.getElem_mem hi);unfold DJ;simp only;rw[AZ (AfI (by omega)),Bm (by omega) (by omega),CS hi,Wc (by omega),Bh,K7 (by simp;omega),Ba (by omega) (by omega)];rfl) (λacc hP=>by unfold DJ;simp only;rw[AN (AfG (by omega))];rfl) (F:=F) (by omega) (a:=[]) rfl).1
 show Bq (Ci (λσ=>DJ o σ.1 σ.2) F ([],((0:Nat):Int))) (BO λν=>Gi ν)=_;rw[hh,Mp,Bh];simp[AbR,BO,Gi]
theorem UV {n:Nat}{o:Al}(h:JS n o)(hn:n≤100):J8 o=some o.fEvents:=by
 have:=h.ln;unfold J8 Ev;rw[Bh,h.made,AN (by rfl),Vo (by omega),Bh]
theorem UR {n:Nat}{o:Al}(h:JS n o)(event:Ai):J6 o event=some (B2 o.fResults event [],E6 o.fResults event):=by
 unfold J6 Ev;rw[Bh,h.made,AN (by rfl),Ik (by
  rcases Pz (m:=o.fResults) (k:=event) (z:=([]:List Ab)) with⟨e,_⟩ | ⟨e,_⟩
  ·rw[e];simp
  ·have:=h.rs _ e;simp only at this;omega),Bh]
theorem Aba {T:Type}{m ord:List (Ai×T)}(hm:Ms m)(h:ord.Perm m):ord.foldl (λ(a:List (Ai×T)) p=>mset a p.1 p.2) []=m:=by
 have e:(λ(a:List (Ai×T)) p=>mset a p.1 p.2)=apF (λ_=>false):=by funext a p;rfl
 rw[e,Yr (Ms.nil) hm h];exact Ms.ext (OB m Ms.nil) hm λk=>by
  rw[Lb m [] k hm.nodup]
  cases Cd m k<;>rfl
theorem QM {R:Type}(c:AC):∀(l:List Ap) (i:Nat) (a:List Ak),ED (R:=R) (λi acc x=>.go (acc++(bif Kn x.fKind then[mkG c i x] else[]))) i a l = .go (a++LI c i l)
 | [],i,a=>by simp[ED,LI]
 | x::l,i,a=>by
  show ED (R:=R) (λi acc x=>.go (acc++(bif Kn x.fKind then[mkG c i x] else[]))) (i+1) (a++(bif Kn x.fKind then[mkG c i x] else[])) l=_;rw[QM c l,LI,Agk]
theorem Pu {F n M:Nat}{o:Al}(h:JS n o)(hn:n≤100){c:AC}(hA:V0 M c)(hM:M≤2000000)(hF:M<F)(hF0:5000<F):KX F o c=some (CM o c):=by
 unfold KX CM Ev;rw[Bh,h.made,AN (by rfl),QY hA hM hF (by omega),Bh]
 cases he:decide (JY c=0) with
 | false=>rfl
 | true=>
  have ho:=MH (AfS he);have hlen:=ho.len;have hln:=h.ln;have hpn:=h.pn;rw[AN (by rfl)]
  cases E6 o.fResults c.fEvent with
  | true=>rfl
  | false=>
   rw[BU]
   cases decide (4000≤(o.fEvents.length:Int)) with
   | true=>rfl
   | false=>
    rw[BU];show TA (Qv o c.fTenant) _=some (match UG (Qv o c.fTenant) c.fEffects with | .ret q=>_ | .go m=>_);have hk:=h.ks c.fTenant;have hxs:∀x∈c.fEffects,x.fValue.length≤200:=λx hx=>by
     obtain⟨i,_,hi⟩:=ho.eff hx;exact Ww hi
    refine Aae λord hp=>?_;have hlf:=(TJ (R:=Bool×Int×Al) (λ(pe:Ai×Ac) τ=>Ib pe.1 pe.2 τ) (λpe s=>mset s pe.1 pe.2) (λ_=>True) ord [] trivial (λp _ s _=>⟨rfl,trivial⟩)).1;rw[hlf,Bh,Aba hk.ms hp];show Ez F o c (Qv o c.fTenant)=_;unfold Ez;rw[X0 (by omega) (by omega) (by omega:32*n≤1000000) hk hxs,Bh]
    cases hr:UG (Qv o c.fTenant) c.fEffects with
    | ret q=>
     have:q.1=3:=by
      have:∀(l:List Ap) (i:Nat) (m:KD),ED (λ_=>Km) i m l = .ret q→q.1=3:=by
       intro l
       induction l with
       | nil=>intro i m hq;rw[ED] at hq;cases hq
       | cons x l ih=>
        intro i m hq;rw[ED] at hq
        cases hs:Km m x with
        | go b=>rw[hs] at hq;exact ih _ _ hq
        | ret q'=>
         rw[hs] at hq
         cases hq
         unfold Km at hs
         cases h1:decide (x.fKind=1) with
         | true=>
          rw[h1,AfL] at hs
          cases h2:decide (256<((mset m x.fKey ⟨x.fValue,(B2 m x.fKey Qe).fVersion+1⟩).length:Int)) with
          | true=>rw[h2] at hs;cases hs;rfl
          | false=>rw[h2] at hs;cases hs
         | false=>rw[h1,AfH] at hs;cases h2:decide (x.fKind=2)<;>rw[h2] at hs<;>cases hs
      exact this _ _ _ hr
     simp only;rw[AZ (by rw[this];rfl),this]
    | go m=>
     simp only;have hres:=PK ho.res;rw[AN (by rfl),Im (by simp;omega),Ik (by omega),Bh];have hh:=(H8 (l:=c.fEffects) (mk:=λi (acc:List Ak)=>((i:Int),acc)) (fin:=id) (body:=λσ=>E0 c σ.1 σ.2) (λi acc x=>.go (acc++(bif Kn x.fKind then[mkG c i x] else[]))) (λi acc=>acc.length≤o.fPending.length+i) (λi hi acc hP=>by
      have hv:=hxs _ (List.getElem_mem hi);refine⟨?_,λb hb=>by cases hb;rw[AfK];cases Kn c.fEffects[i].fKind<;>simp<;>omega⟩;unfold E0 GN;simp only;rw[AZ (AfI (by omega)),Bm (by omega) (by omega),CS hi,My,Bh,Jq (by have:=XQ ho.id;omega),Ba (by omega) (by omega),Wc (by omega),Bh,K7 (by simp;omega),Ba (by omega) (by omega),Ba (by omega) (by omega)]
      cases Kn c.fEffects[i].fKind with
      | true=>rfl
      | false=>rw[BU];simp[ZV]) (λacc hP=>by unfold E0;simp only;rw[AN (AfG (by omega))];rfl) (F:=F) (by omega) (a:=o.fPending) (by omega)).1
     show Bq (Ci (λσ=>E0 c σ.1 σ.2) F (((0:Nat):Int),o.fPending)) (BO λν=>Ia o c (0,m) c.fResult ν)=_;rw[hh,QM,Bh];show some (true,(0:Int),Al.mk o.fMade _ _ _ _)=some (true,0,Al.mk true _ _ _ _);rw[h.made];rfl
theorem Tt (q:Ai×Int)(rc:Ai):(!decide (q.2=0)||!decide (q.1=rc)) = !decide (q=(rc,0)):=by
 obtain⟨a,b⟩:=q
 by_cases h1:b=0<;>by_cases h2:a=rc<;>simp[h1,h2]
theorem Kt {F n:Nat}{o:Al}(h:JS n o)(hn:n≤100)(hF:270000<F){rc:Ai}(hs:rc.length<F)(hl:rc.length≤100000000):EK F o rc=some (Hw o rc):=by
 unfold EK Hw Ev;rw[Bh,h.made,AN (by rfl),XZ (by omega) hs (by omega),Bh];have hnl:=UD rc;have hb:=(MW rc.length rc).2.2;generalize hz:((Cj rc.length rc).2:Int)=z;have hrun:=(H8 (l:=(Cj rc.length rc).1) (mk:=λi (acc:List (List Ai))=>(acc,(i:Int))) (fin:=id) (body:=λσ=>Hc F o ((Cj rc.length rc).1,z) σ.1 σ.2) (λ_ acc b=>bif decide ((Ki b).2=0) then .go (acc++[(Ki b).1]) else .ret ((13:Int),o)) (λi acc=>acc.length=i) (λi hi acc hP=>by
   unfold Hc;simp only;have hbl:=hb (Cj rc.length rc).1[i] (List.getElem_mem hi);rw[AZ (AfI (by omega)),Bm (by omega) (by omega),CS hi,Vl (by omega) (by omega),Bh]
   cases ho:decide ((Ki (Cj rc.length rc).1[i]).2=0) with
   | false=>exact⟨rfl,λb hb=>by cases hb⟩
   | true=>
    rw[AN (by rfl),PU (by simp;omega),Ba (by omega) (by omega)];exact⟨rfl,λb hb=>by cases hb;simp[hP]⟩) (λacc hP=>by unfold Hc;simp only;rw[AN (AfG (by omega))];rfl) (F:=F) (by omega) (a:=[]) rfl).1
 show Bq (Ci (λσ=>Hc F o ((Cj rc.length rc).1,z) σ.1 σ.2) F ([],((0:Nat):Int))) (BO λν=>HX F o rc ν)=_;rw[hrun,RT,Bh];unfold NR;have hall:((Cj rc.length rc).1.all λb=>decide ((Ki b).2=0))=Ys (Cj rc.length rc).1:=rfl;rw[hall]
 cases ha:Ys (Cj rc.length rc).1 with
 | false=>rfl
 | true=>
  rw[AfL,AfL];have hsm:=Zm ha;have hrl:=Xj (Cj rc.length rc).1;show HX F o rc ([]++NI (Cj rc.length rc).1)=_;rw[Agz];generalize NI (Cj rc.length rc).1=l at hsm hrl;unfold HX Aap;have c1:imp (decide ((l.length:Int)=1)) (CY 0 (l.length:Int))=true:=by
   by_cases h1:(l.length:Int)=1
   ·rw[Qw (by omega) (by omega)];exact Nu _
   ·rw[AfG h1];rfl
  rw[c1,N1]
  cases h1:decide ((l.length:Int)=1)&&decide (((Aq l 0).length:Int)=2) with
  | true=>
   simp only[AfM,AfF] at h1;rw[CX,AfL,Bm (by omega) (by omega),Bm (by omega) (by omega),GX hF,Bh,Tt]
   cases decide (HE (Aq (Aq l 0) 1)=(rc,0)) with
   | false=>rfl
   | true=>rw[AN (by rfl),Sq h hn (by omega),Bh];rfl
  | false=>
   obtain⟨c,e,hA,hv⟩:=UY (F:=F) (by omega) hsm (by omega) (by omega);rw[BU,AfH,e,Bh];simp only;rw[Ps hA (by decide) (by omega) (by omega),Bh,Tt]
   cases hg:Yg l with
   | false=>rfl
   | true=>
    rw[← hv hg,AfT]
    cases decide (Ii c=(rc,0)) with
    | false=>rfl
    | true=>rw[AN (by rfl),Pu h hn hA (by decide) (by omega) (by omega),Bh];rfl
theorem X6 {T:Type}(xs:List (Ai×T))(k k':Ai)(v z:T):B2 (mset xs k v) k' z=bif decide (k'=k) then v else B2 xs k' z:=by
 unfold B2;rw[Nm]
 cases decide (k'=k)<;>rfl
theorem XB {T:Type}(xs:List (Ai×T))(k k':Ai)(v:T):E6 (mset xs k v) k'=(decide (k'=k)||E6 xs k'):=by
 unfold E6;rw[Nm]
 cases decide (k'=k)<;>rfl
theorem Ky {c:AC}:∀{l:List Ap} {i:Nat} {y:Ak},y∈LI c i l→∃ (k:Nat) (hk:k<l.length),Kn l[k].fKind=true∧y=mkG c (i+k) l[k]
 | [],i,y,h=>by cases h
 | x::l,i,y,h=>by
  rw[LI] at h;rcases List.mem_append.1 h with h | h
  ·cases ho:Kn x.fKind with
   | false=>rw[ho] at h;cases h
   | true=>
    rw[ho] at h;obtain rfl:=List.mem_singleton.1 h;exact⟨0,by simp,ho,rfl⟩
  ·obtain⟨k,hk,h1,h2⟩:=Ky h;refine⟨k+1,by simp;omega,h1,?_⟩;rw[h2,show i+(k+1)=i+1+k by omega];rfl
theorem Tu (c:AC):∀(l:List Ap) (i:Nat),(LI c i l).length≤l.length
 | [],i=>AfZ _
 | x::l,i=>by
  have:=Tu c l (i+1);rw[LI,AfK,AfJ]
  cases Kn x.fKind<;>simp<;>omega
theorem RB {a b:Ai}{i j:Int}(ha:C1 a i=0)(hb:C1 b j=0)(h:BK a i=BK b j):a=b∧i=j:=by
 obtain⟨_,a1,a2,_⟩:=LV ha;obtain⟨_,b1,b2,_⟩:=LV hb;rw[h] at a1 a2;exact⟨a1.symm.trans b1,a2.symm.trans b2⟩
theorem Pi {c:AC}:∀{l:List Ap} {i:Nat},(∀(k:Nat) (hk:k<l.length),Kn l[k].fKind=true→C1 c.fEvent ((i+k:Nat):Int)=0)→((LI c i l).map (·.fID)).Nodup
 | [],i,_=>List.nodup_nil
 | x::l,i,h=>by
  have hr:=Pi (c:=c) (l:=l) (i:=i+1) λk hk ho=>by
   have:=h (k+1) (by simp;omega) ho;rw[show i+1+k=i+(k+1) by omega];exact this
  rw[LI]
  cases ho:Kn x.fKind with
  | false=>exact hr
  | true=>
   show((mkG c i x::LI c (i+1) l).map (·.fID)).Nodup;rw[Ag3,List.nodup_cons];refine⟨λhm=>?_,hr⟩;obtain⟨y,hy,e⟩:=List.mem_map.1 hm;obtain⟨k,hk,h1,h2⟩:=Ky hy;subst h2;have e0:C1 c.fEvent ((i+0:Nat):Int)=0:=h 0 (by simp) ho;have e1:C1 c.fEvent ((i+(k+1):Nat):Int)=0:=h (k+1) (by simp;omega) h1;have:=(RB (j:=(i:Int)) (i:=((i+1+k:Nat):Int)) (by rw[show i+1+k=i+(k+1) by omega];exact e1) e0 e).2;omega
theorem LQ {n:Nat}{o:Al}(h:JS n o)(c:AC):JS (n+1) (CM o c).2.2:=by
 have mono:JS (n+1) o:=⟨h.made,h.ev,by have:=h.ln;omega,h.rs,λt=>(h.ks t).mono (by omega),by have:=h.pn;omega,h.pv,h.pc,h.pu⟩
 unfold CM
 by_cases he:JY c=0
 ·rw[AfI he];simp only[AfR,AfH];have ho:=MH he
  cases hh:E6 o.fResults c.fEvent with
  | true=>exact mono
  | false=>
   rw[AfH]
   cases decide (4000≤(o.fEvents.length:Int)) with
   | true=>exact mono
   | false=>
    rw[AfH];have hxs:∀x∈c.fEffects,x.fValue.length≤200:=λx hx=>by
     obtain⟨i,_,hi⟩:=ho.eff hx;exact Ww hi
    cases hr:UG (Qv o c.fTenant) c.fEffects with
    | ret q=>exact mono
    | go m=>
     simp only;have hlen:=ho.len;have hm:MR (32*(n+1)) m:=(VM (h.ks c.fTenant) hxs hr).mono (by omega);have hne:c.fEvent ∉ o.fEvents:=λhc=>by
      have:=h.ev c.fEvent;rw[hh,AfI hc] at this;cases this
     have hchild:∀(k:Nat) (hk:k<c.fEffects.length),Kn c.fEffects[k].fKind=true→C1 c.fEvent ((0+k:Nat):Int)=0:=λk hk h1=>by
      have:=ho.ef k hk;rw[CS hk] at this;obtain⟨_,_,_,_,_,_,h7⟩:=MG this;rw[Agx];exact h7 h1
     refine⟨h.made,λk=>?_,by show(o.fEvents++[c.fEvent]).length≤_;have:=h.ln;simp;omega,λp hp=>?_,λt=>?_,?_,λx hx=>?_,λx hx=>?_,?_⟩
     ·show E6 (mset o.fResults c.fEvent c.fResult) k=decide (k∈o.fEvents++[c.fEvent]);rw[XB,h.ev k,AfY];simp[or_comm]
     ·rcases Rf hp with rfl | hp
      ·exact PK ho.res
      ·exact h.rs p hp
     ·show MR _ (B2 (mset o.fKeys c.fTenant m) t []);rw[X6]
      cases decide (t=c.fTenant) with
      | true=>exact hm
      | false=>exact(h.ks t).mono (by omega)
     ·show(o.fPending++LI c 0 c.fEffects).length≤_;rw[AfK];have:=h.pn;have:=Tu c c.fEffects 0;omega
     ·rcases List.mem_append.1 hx with hx | hx
      ·exact h.pv x hx
      ·obtain⟨k,hk,_,rfl⟩:=Ky hx;exact hxs _ (List.getElem_mem hk)
     ·rcases List.mem_append.1 hx with hx | hx
      ·obtain⟨h1,h2⟩:=h.pc x hx;exact⟨List.mem_append_left _ h1,h2⟩
      ·obtain⟨k,hk,h1,rfl⟩:=Ky hx;exact⟨List.mem_append_right _ (List.mem_singleton.2 rfl),((0+k:Nat):Int),hchild k hk h1,rfl⟩
     ·show((o.fPending++LI c 0 c.fEffects).map (·.fID)).Nodup;rw[Ag8];refine List.nodup_append.2 ⟨h.pu,Pi hchild,λa ha b hb e=>?_⟩;obtain⟨x,hx,rfl⟩:=List.mem_map.1 ha;obtain⟨y,hy,rfl⟩:=List.mem_map.1 hb;obtain⟨h1,i,h2,h3⟩:=h.pc x hx;obtain⟨k,hk,g1,rfl⟩:=Ky hy;have:=(RB h2 (hchild k hk g1) (h3.symm.trans e)).1;exact hne (this▸h1)
 ·rw[AfG he];exact mono
theorem Qi {α:Type}(l:List α)(i:Nat):(l.take i++l.drop (i+1)).Sublist l:=by
 rw[← List.eraseIdx_eq_take_drop_succ];exact List.eraseIdx_sublist ..
theorem Sz {n:Nat}{o:Al}(h:JS n o)(id:Ai):JS n (Iw o id).2:=by
 unfold Iw
 cases Qx o.fPending id with
 | none=>exact h
 | some i=>
  have hs:=Qi o.fPending i;exact⟨h.made,h.ev,h.ln,h.rs,h.ks,by have:=hs.length_le;have:=h.pn;show(o.fPending.take i++o.fPending.drop (i+1)).length≤_;omega,λx hx=>h.pv x (hs.subset hx),λx hx=>h.pc x (hs.subset hx),(hs.map _).nodup h.pu⟩
theorem JS.mono {n m:Nat}{o:Al}(h:JS n o)(hm:n≤m):JS m o:=⟨h.made,h.ev,by have:=h.ln;omega,h.rs,λt=>(h.ks t).mono (by omega),by have:=h.pn;omega,h.pv,h.pc,h.pu⟩
theorem TQ {n:Nat}{o:Al}(h:JS n o)(rc:Ai):JS (n+1) (Hw o rc).2:=by
 unfold Hw
 cases NR rc with
 | none=>exact h.mono (by omega)
 | some q=>
  cases q with
  | inl id=>exact(Sz h id).mono (by omega)
  | inr c=>exact LQ h c
theorem Aaz {n:Nat}{o:Al}(h:JS n o)(x:Bl):JS (n+1) (L3 o x).2.2:=by
 unfold L3
 cases decide (x.fKind=0) with
 | true=>exact LQ h _
 | false=>
  cases decide (x.fKind=1) with
  | true=>exact(Sz h _).mono (by omega)
  | false=>
   cases decide (x.fKind=2) with
   | true=>exact(Sz h _).mono (by omega)
   | false=>
    cases decide (x.fKind=3) with
    | true=>exact TQ h _
    | false=>cases decide (x.fKind=4)<;>exact TQ h _
def Ad0:Al:=⟨true,[],[],[],[]⟩
theorem Acr:JS 0 Ad0:=
 ⟨rfl,λk=>rfl,AfZ _,λp hp=>(by cases hp),λt=>⟨Ms.nil,Agn _,λp hp=>by cases hp⟩,AfZ _,λx hx=>(by cases hx),λx hx=>(by cases hx),List.nodup_nil⟩
theorem Hh:G4 5000000=some true:=by decide +kernel
def AbT (y:Ab):Bool:=(Cb .i64) y.fKind&&(Cb .i64) y.fInt&&LJ y.fStr&&(Cb .i64) y.fN
def Adt (y:Ap):Bool:=(Cb .i64) y.fKind&&LJ y.fKey&&(λys:(List Ab)=>ys.all AbT&&decide (ys.length≤1048576)) y.fValue&&(Cb .i64) y.fDelay
def Ads (y:AC):Bool:=LJ y.fEvent&&LJ y.fTenant&&(Cb .i64) y.fAttempt&&(λys:(List Ab)=>ys.all AbT&&decide (ys.length≤1048576)) y.fResult&&(λys:(List Ap)=>ys.all Adt&&decide (ys.length≤1048576)) y.fEffects&&(Cb .i64) y.fAt
def Ae3 (y:Bl):Bool:=(Cb .i64) y.fKind&&Ads y.fC&&LJ y.fS&&(Cb .i64) y.fN
theorem Ko {s:Ai}(h:LJ s=true):s.length≤1048576:=AfS h
theorem KE.ofB {v:List Ab}(h:(v.all AbT&&decide (v.length≤1048576))=true):KE 1048576 v:=by
 simp only[AfM,AfF,Ags] at h;refine⟨by decide,h.2,λc hc=>?_⟩;have:=h.1 c hc;unfold AbT at this;simp only[AfM] at this;exact⟨Ko this.1.2,this.1.1.2,(Lf this.2).2⟩
theorem EfA.ofB {x:Ap}(h:Adt x=true):EfA 1048576 x:=by
 unfold Adt at h;simp only[AfM] at h;exact⟨KE.ofB (by simp only[AfM];exact h.1.2),by have:=Ko h.1.1.2;omega⟩
theorem V0.ofB {c:AC}(h:Ads c=true):V0 1048576 c:=by
 unfold Ads at h;simp only[AfM] at h;obtain⟨⟨⟨⟨⟨h1,h2⟩,_⟩,h3⟩,h4⟩,_⟩:=h;exact⟨KE.ofB (by simp only[AfM];exact h3),λx hx=>EfA.ofB (List.all_eq_true.1 h4.1 x hx),by have:=Ko h1;omega,by have:=Ko h2;omega⟩
structure OpS (x:Bl):Prop where
 c:V0 1048576 x.fC
 s:x.fS.length≤1048576
theorem OpS.ofB {x:Bl}(h:Ae3 x=true):OpS x:=by
 unfold Ae3 at h;simp only[AfM] at h;exact⟨V0.ofB h.1.1.2,Ko h.1.2⟩
abbrev FF:Nat:=5000000
theorem AeJ {c:AC}(h:V0 1048576 c):H7 FF c=some (Ii c):=Ps h (by decide) (by decide) (by decide)
theorem V3 {α:Type}[DecidableEq α]:∀{a b:List α},a.length=b.length→((a.zip b).any λp=>!decide (p.1=p.2)) = !decide (a=b)
 | [],[],_=>rfl
 | x::a,y::b,h=>by
  have ih:=V3 (a:=a) (b:=b) (by simpa using h);rw[List.zip_cons_cons,List.any_cons,ih]
  by_cases h1:x=y
  ·subst h1
   by_cases h2:a=b
   ·subst h2;simp
   ·simp[h2]
  ·simp[h1]
 | [],_::_,h=>by simp at h
 | _::_,[],h=>by simp at h
theorem NW {α:Type}(p:α→Bool):∀l:List α,(l.findIdx? p).isSome=l.any p
 | []=>rfl
 | x::l=>by
  rw[List.findIdx?_cons,List.any_cons]
  cases p x with
  | true=>rfl
  | false=>
   have:=NW p l;rw[AfW,← this]
   cases l.findIdx? p<;>rfl
theorem O4 {α:Type}[DecidableEq α]{a b:List α}{body:Int→Option (Stp Int (Out Bool Unit))}{F:Nat}(hl:a.length=b.length)(hF:a.length<F)
  (hb:∀(i:Nat) (h:i<a.length) (h':i<b.length),body (i:Int)=Bw (!decide (a[i]=b[i])) (some (.out (.ret false))) (some (.next ((i:Int)+1)))) (he:body (a.length:Int)=some (.out (.go ()))) :
  Bq (Ci body F 0) (BO λ_=>some true)=some (decide (a=b)):=by
 have hz:(a.zip b).length=a.length:=by rw[List.length_zip];omega
 have h:=TG (l:=a.zip b) (p:=λp=>!decide (p.1=p.2)) (ret:=λ_=>false) (u:=()) (body:=body) (F:=F) (by omega) (λi hi=>by
  rw[List.getElem_zip];exact hb i (by omega) (by omega)) (by rw[hz];exact he)
 rw[h,Bh];have h2:=NW (λp:α×α=>!decide (p.1=p.2)) (a.zip b);rw[V3 hl] at h2
 cases hf:(a.zip b).findIdx? λp=>!decide (p.1=p.2) with
 | none=>
  rw[hf] at h2;have:decide (a=b)=true:=by cases hd:decide (a=b) with | true=>rfl | false=>rw[hd] at h2;cases h2
  rw[this];rfl
 | some j=>
  rw[hf] at h2;have:decide (a=b)=false:=by cases hd:decide (a=b) with | false=>rfl | true=>rw[hd] at h2;cases h2
  rw[this];rfl
theorem MZ {F:Nat}{a b:List Ab}(hF:a.length<F)(hn:a.length≤1000000):HV F a b=some (decide (a=b)):=by
 unfold HV
 by_cases hl:a.length=b.length
 ·rw[AN (by simp[hl])];exact O4 hl hF (λi h h'=>by
   unfold IY;rw[AZ (AfI (by omega)),Bm (by omega) (by omega),Bm (by omega) (by omega),CS h,CS h',Ba (by omega) (by omega)]
   congr 2
   obtain⟨x1,x2,x3,x4⟩:=a[i];obtain⟨y1,y2,y3,y4⟩:=b[i];rw[AfY];simp only[AfM,AfF,Ab.mk.injEq];exact⟨λ⟨⟨⟨h1,h2⟩,h3⟩,h4⟩=>⟨h1,h2,h3,h4⟩,λ⟨h1,h2,h3,h4⟩=>⟨⟨⟨h1,h2⟩,h3⟩,h4⟩⟩) (by unfold IY;rw[AN (AfG (by omega))])
 ·rw[AZ (by simp;omega),AfG (λe=>hl (by rw[e]))]
theorem Ve {α:Type}{a b:List α}(h : ¬ a.length=b.length) : ¬ a=b:=λe=>h (by rw[e])
theorem XT {F:Nat}{a b:List Ai}(hF:a.length<F)(hn:a.length≤1000000):Nw F a b=some (decide (a=b)):=by
 unfold Nw
 by_cases hl:a.length=b.length
 ·rw[AN (by simp[hl])];exact O4 hl hF (λi h h'=>by
   unfold HL;rw[AZ (AfI (by omega)),Bm (by omega) (by omega),Bm (by omega) (by omega),CS h,CS h',Ba (by omega) (by omega)]) (by unfold HL;rw[AN (AfG (by omega))])
 ·rw[AZ (by simp;omega),AfG (Ve hl)]
theorem UN (a b:Ak):a=b↔a.fID=b.fID∧a.fTenant=b.fTenant∧a.fCause=b.fCause∧a.fAt=b.fAt∧a.fEffect.fKind=b.fEffect.fKind∧a.fEffect.fKey=b.fEffect.fKey∧a.fEffect.fDelay=b.fEffect.fDelay∧a.fEffect.fValue=b.fEffect.fValue:=by
 obtain⟨a1,a2,a3,a4,⟨a5,a6,a7,a8⟩⟩:=a;obtain⟨b1,b2,b3,b4,⟨b5,b6,b7,b8⟩⟩:=b;simp only[Ak.mk.injEq,Ap.mk.injEq];constructor
 ·rintro⟨h1,h2,h3,h4,h5,h6,h7,h8⟩;exact⟨h1,h2,h3,h4,h5,h6,h8,h7⟩
 ·rintro⟨h1,h2,h3,h4,h5,h6,h7,h8⟩;exact⟨h1,h2,h3,h4,h5,h6,h8,h7⟩
theorem TP (a b:Bt):a=b↔a.fKey=b.fKey∧a.fVersion=b.fVersion∧a.fValue=b.fValue:=by
 obtain⟨a1,a2,a3⟩:=a;obtain⟨b1,b2,b3⟩:=b;simp only[Bt.mk.injEq];constructor
 ·rintro⟨h1,h2,h3⟩;exact⟨h1,h3,h2⟩
 ·rintro⟨h1,h2,h3⟩;exact⟨h1,h3,h2⟩
theorem Qt {F:Nat}{a b:List Ak}(hF:a.length<F)(hF2:200<F)(hn:a.length≤1000000)(hv:∀x∈a,x.fEffect.fValue.length≤200):Id F a b=some (decide (a=b)):=by
 unfold Id
 by_cases hl:a.length=b.length
 ·rw[AN (by simp[hl])];exact O4 hl hF (λi h h'=>by
   have hvi:=hv _ (List.getElem_mem h);unfold Eh;rw[AZ (AfI (by omega)),Bm (by omega) (by omega),Bm (by omega) (by omega),CS h,CS h',MZ (by omega) (by omega),Ba (by omega) (by omega)];simp only[Option.isSome_some,Nu,N1,J3]
   congr 1
   rw[AfY];simp only[Agv,Agd,AfE,UN a[i] b[i]]
   grind) (by unfold Eh;rw[AN (AfG (by omega))])
 ·rw[AZ (by simp;omega),AfG (Ve hl)]
theorem TL {F:Nat}{a b:List Bt}(hF:a.length<F)(hF2:200<F)(hn:a.length≤1000000)(hv:∀x∈a,x.fValue.length≤200):K2 F a b=some (decide (a=b)):=by
 unfold K2
 by_cases hl:a.length=b.length
 ·rw[AN (by simp[hl])];exact O4 hl hF (λi h h'=>by
   have hvi:=hv _ (List.getElem_mem h);unfold Gr;rw[AZ (AfI (by omega)),Bm (by omega) (by omega),Bm (by omega) (by omega),CS h,CS h',MZ (by omega) (by omega),Ba (by omega) (by omega)];simp only[Option.isSome_some,Nu,N1,J3]
   congr 1
   rw[AfY];simp only[Agv,Agd,AfE,TP a[i] b[i]]
   grind) (by unfold Gr;rw[AN (AfG (by omega))])
 ·rw[AZ (by simp;omega),AfG (Ve hl)]
theorem Rb {F:Nat}:∀(ord:KD) (s:List Ai),s.length+ord.length≤1000000→Rk (λ(pe:Ai×Ac) τ=>GL pe.1 pe.2 τ) ord s=some (Out.go (s++ord.map (·.1)))
 | [],s,_=>by simp[Rk]
 | p::r,s,h=>by
  rw[AfJ] at h;have h1:GL p.1 p.2 s=some (.next (s++[p.1])):=by
   unfold GL;rw[Im (by simp;omega)]
  rw[Rk,h1];refine(Rb (F:=F) r (s++[p.1]) (by simp;omega)).trans ?_;simp
theorem RO {m ord:KD}(hm:Ms m)(h:ord.Perm m):BJ (ord.map (·.1))=m.map (·.1):=by
 obtain⟨h1,h2⟩:=Qk (ord.map (·.1));refine NF _ _ h1 ?_ λx=>?_
 ·rw[List.pairwise_map];refine List.Pairwise.imp ?_ hm;intro p q hpq;rw[show Cz p.1 q.1=decide (p.1<q.1) from bytesLess_eq p.1 q.1] at hpq;exact AfS hpq
 ·rw[h2];exact(h.map (·.1)).mem_iff
theorem Xy {F n:Nat}{o:Al}(h:JS n o)(hn:n≤100)(hF:5000<F)(t:Ai):J7 F o t=some (P7 o t):=by
 unfold J7 Ev;rw[Bh,h.made,AN (by rfl)];have hk:=h.ks t;have hlen:=hk.len;refine Aae λord hp=>?_;have hlo:=hp.length_eq;have hp':ord.Perm (Qv o t):=hp;have hlo':ord.length=(Qv o t).length:=hlo;rw[Rb (F:=F) ord [] (by simp;omega),Bh];show Gk F o t ([]++ord.map (·.1))=_;rw[Agz];unfold Gk;rw[Im (by rw[AfP];omega)];have hsn:=RO hk.ms hp';generalize hns:ord.map (·.1)=ns at hsn;have hrun:=(H8 (l:=(Qv o t).map (·.1)) (mk:=λi (acc:List Bt)=>(acc,(i:Int))) (fin:=id) (body:=λσ=>Gl o t ns σ.1 σ.2) (λ_ acc k=>.go (acc++[Bt.mk k (B2 (Qv o t) k Qe).fValue (B2 (Qv o t) k Qe).fVersion])) (λi acc=>acc.length=i) (λi hi acc hP=>by
  have hi':i<256:=by rw[AfP] at hi;omega
  refine⟨?_,λb hb=>by cases hb;simp[hP]⟩;unfold Gl;simp only;rw[hsn,AZ (AfI (by omega)),Bm (by omega) (by omega),CS hi];generalize((Qv o t).map (·.1))[i]=k;have hv:=hk.ver k;show Bq (Hp ((B2 (Qv o t) k Qe).fValue)) _=_;rw[Ik (by omega),Bh,Vq (by simp;omega),Ba (by omega) (by omega)];rfl) (λacc hP=>by unfold Gl;simp only;rw[hsn,AN (AfG (by omega))];rfl) (F:=F) (by rw[AfP];omega) (a:=[]) rfl).1
 show Bq (Ci (λσ=>Gl o t ns σ.1 σ.2) F ([],((0:Nat):Int))) (BO λν=>Jc ν)=_;rw[hrun,Mp (λk=>Bt.mk k (B2 (Qv o t) k Qe).fValue (B2 (Qv o t) k Qe).fVersion),Bh];show some ([]++_)=_;rw[Agz,AgD];unfold P7;refine congrArg some (List.map_congr_left λp hp=>?_);show Bt.mk p.1 (B2 (Qv o t) p.1 Qe).fValue (B2 (Qv o t) p.1 Qe).fVersion=itI p;have:B2 (Qv o t) p.1 Qe=p.2:=by
  unfold B2;rw[Kx hk.ms.nodup hp];rfl
 rw[this];rfl
theorem Vh {n:Nat}{o:Al}(h:JS n o)(t:Ai):(P7 o t).length≤256∧∀x∈P7 o t,x.fValue.length≤200:=by
 have hk:=h.ks t;refine⟨by unfold P7;rw[AfP];exact hk.len,λx hx=>?_⟩;obtain⟨p,hp,rfl⟩:=List.mem_map.1 hx;exact(hk.val p hp).2.2
theorem Rn (l:List Ak)(n:Int):Nq l n=some (ZX l n):=by
 unfold Nq ZX
 cases h:decide (n<0)||decide ((l.length:Int)≤n) with
 | true=>rfl
 | false=>
  simp only[Agj,AfE] at h;rw[BU,AfH,Bm (by omega) (by omega)]
theorem Rs (rs:List (List Ai)):(Jg rs).1.length≤262144:=by
 unfold Jg MA
 cases rs.all Tw with
 | false=>exact Agn _
 | true=>
  rw[AfL]
  cases hd:decide (((rs.map EJ).flatMap CE).length≤262144) with
  | true=>exact AfS hd
  | false=>exact Agn _
theorem PN (c:AC):(Ii c).1.length≤262144:=by
 unfold Ii
 cases decide (JY c=0) with
 | true=>exact Rs _
 | false=>show([]:Ai).length≤_;decide
theorem MQ (id:Ai):(HE id).1.length≤262144:=by
 unfold HE
 cases K3 id with
 | true=>exact Rs _
 | false=>show([]:Ai).length≤_;decide
theorem AeK {n:Nat}{o:Al}(h:JS n o)(hn:n≤100){x:Bl}(hx:OpS x):M9 FF o x=some (L3 o x):=by
 unfold M9 L3;rw[Pu h hn hx.c (by decide) (by decide) (by decide),Sq h hn (by decide),Ks h hn (by decide),Kt h hn (by decide) (by have:=hx.s;show _<5000000;omega) (by have:=hx.s;omega),AeJ hx.c,GX (by decide)];simp only[Bh,Rn];rw[Sq h hn (by decide),Kt h hn (by decide) (by have:=PN x.fC;show _<5000000;omega) (by have:=PN x.fC;omega),Kt h hn (by decide) (by have:=MQ x.fS;show _<5000000;omega) (by have:=MQ x.fS;omega)];simp only[Bh,N0]
structure Chg (o o':Al):Prop where
 ev:∀e∈o.fEvents,e∈o'.fEvents
 pd:∀y∈o'.fPending,y∈o.fPending∨y.fCause ∉ o.fEvents
theorem Chg.refl (o:Al):Chg o o:=⟨λ_ h=>h,λ_ h=>.inl h⟩
theorem HC {n:Nat}{o:Al}(h:JS n o)(c:AC) :
  ((CM o c).1=false∧(CM o c).2.2=o∧(c.fEvent∈o.fEvents∨(CM o c).2.1≠0))∨
  ((CM o c).1=true∧(CM o c).2.1=0∧c.fEvent ∉ o.fEvents∧(CM o c).2.2.fEvents=o.fEvents++[c.fEvent]∧(CM o c).2.2.fPending=o.fPending++LI c 0 c.fEffects∧JY c=0):=by
 unfold CM
 by_cases he:JY c=0
 ·rw[AfI he];simp only[AfR,AfH]
  cases hh:E6 o.fResults c.fEvent with
  | true=>
   rw[AfL];refine .inl ⟨rfl,rfl,.inl ?_⟩;have:=h.ev c.fEvent;rw[hh] at this;exact AfS this.symm
  | false=>
   rw[AfH];have hne:c.fEvent ∉ o.fEvents:=by
    have:=h.ev c.fEvent;rw[hh] at this;exact Ag0 this.symm
   cases decide (4000≤(o.fEvents.length:Int)) with
   | true=>exact .inl ⟨rfl,rfl,.inr (show(3:Int)≠0 by decide)⟩
   | false=>
    rw[AfH]
    cases UG (Qv o c.fTenant) c.fEffects with
    | ret q=>exact .inl ⟨rfl,rfl,.inr (show(3:Int)≠0 by decide)⟩
    | go m=>exact .inr ⟨rfl,rfl,hne,rfl,rfl,he⟩
 ·rw[AfG he];exact .inl ⟨rfl,rfl,.inr he⟩
theorem W6 {o:Al}{id:Ai}(h:(Iw o id).1≠0):(Iw o id).2=o:=by
 unfold Iw at h ⊢
 cases hi:Qx o.fPending id with
 | none=>rfl
 | some i=>rw[hi] at h;exact absurd rfl h
theorem P2 {n:Nat}{o:Al}(hI:JS n o){rc:Ai}(h:(Hw o rc).1≠0):(Hw o rc).2=o:=by
 unfold Hw at h ⊢
 cases hk:NR rc with
 | none=>rfl
 | some q=>
  rw[hk] at h
  cases q with
  | inl id=>exact absurd rfl h
  | inr c=>
   rcases HC hI c with⟨_,h2,_⟩ | ⟨_,h2,_⟩
   ·exact h2
   ·exact absurd h2 h
theorem AdM {n:Nat}{o:Al}(hI:JS n o){x:Bl}(h:(L3 o x).2.1≠0):(L3 o x).2.2=o:=by
 unfold L3 at h ⊢
 cases h0:decide (x.fKind=0) with
 | true=>
  rw[h0] at h;rcases HC hI x.fC with⟨_,h2,_⟩ | ⟨_,h2,_⟩
  ·exact h2
  ·exact absurd h2 h
 | false=>
  rw[h0] at h
  cases h1:decide (x.fKind=1) with
  | true=>rw[h1] at h;exact W6 h
  | false=>
   rw[h1] at h
   cases h2:decide (x.fKind=2) with
   | true=>rw[h2] at h;exact W6 h
   | false=>
    rw[h2] at h
    cases h3:decide (x.fKind=3) with
    | true=>rw[h3] at h;exact P2 hI h
    | false=>
     rw[h3] at h
     cases h4:decide (x.fKind=4) with
     | true=>rw[h4] at h;exact P2 hI h
     | false=>rw[h4] at h;exact P2 hI h
theorem Ri {o:Al}{c:AC}(h:(Ii c).2=0):Hw o (Ii c).1=((CM o c).2.1,(CM o c).2.2):=by
 unfold Hw;rw[Aan (c:=c) (Prod.ext rfl h)];rfl
theorem Rj {o:Al}{id:Ai}(h:(HE id).2=0):Hw o (HE id).1=(0,(Iw o id).2):=by
 unfold Hw;rw[Aao (id:=id) (Prod.ext rfl h)];rfl
def XR (o:Al)(x:Bl):Ai:=bif decide (x.fKind=2) then ZX o.fPending x.fN else x.fS
structure Af2 (gone:List Ai) (o:Al):Prop where
 of:∀g∈gone,∃e i,e∈o.fEvents∧C1 e i=0∧g=BK e i
 no:∀g∈gone,∀y∈o.fPending,y.fID≠g
theorem X2 {l:List Ak}{i:Nat}(hi:i<l.length)(hn:(l.map (·.fID)).Nodup):∀y∈l.take i++l.drop (i+1),y.fID≠l[i].fID:=by
 have e:l=l.take i++l[i]::l.drop (i+1):=by rw[← List.drop_eq_getElem_cons hi,Ag7]
 generalize hx:l[i]=x at e;generalize l.take i=a at e;generalize l.drop (i+1)=b at e;rw[e,Ag8,Ag3] at hn;have hp:=(List.perm_middle (a:=x.fID) (l₁:=a.map (·.fID)) (l₂:=b.map (·.fID))).nodup_iff.1 hn;rw[List.nodup_cons] at hp;intro y hy he;apply hp.1;rw[← Ag8,← he];exact List.mem_map.2 ⟨y,hy,rfl⟩
theorem Abp {n:Nat}{o:Al}(hI:JS n o){id:Ai}(h:(Iw o id).1=0):(∃e i,e∈o.fEvents∧C1 e i=0∧id=BK e i)∧∀y∈(Iw o id).2.fPending,y.fID≠id:=by
 unfold Iw at h ⊢
 cases hi:Qx o.fPending id with
 | none=>rw[hi] at h;exact absurd (show(5:Int)=0 from h) (by decide)
 | some i=>
  obtain⟨hl,hid⟩:=Wm hi;obtain⟨h1,j,h2,h3⟩:=hI.pc _ (List.getElem_mem hl);refine⟨⟨_,j,h1,h2,hid.symm.trans h3⟩,λy hy=>?_⟩;have:=X2 hl hI.pu y hy;rw[hid] at this;exact this
structure Af7 (i:Nat) (s:List Ai×Al):Prop where
 inv:JS i s.2
 gone:Af2 s.1 s.2
 len:s.1.length≤i
theorem S7 {n:Nat}{o:Al}(h:JS n o){c:AC}(he:JY c=0)(hm:c.fEvent∈o.fEvents):CM o c=(false,0,o):=by
 unfold CM;have hh:E6 o.fResults c.fEvent=true:=by rw[h.ev,AfI hm]
 rw[AfI he,hh];rfl
theorem Rt (rs:List (List Ai)):(Jg rs).2=0∨(Jg rs).2=3:=by
 unfold Jg
 cases rs.all Tw with
 | false=>exact .inr rfl
 | true=>
  rw[AfL]
  by_cases h:(MA (rs.map EJ)).2=0
  ·exact .inl h
  ·rw[Rr h];exact .inr rfl
theorem AdK {c:AC}(h:JY c=0):(Ii c).2=0∨(Ii c).2=3:=by
 unfold Ii;rw[AfI h];exact Rt _
theorem AdW {id:Ai}(h:K3 id=true):(HE id).2=0∨(HE id).2=3:=by
 unfold HE;rw[h];exact Rt _
theorem Abo {o:Al}{id:Ai}(h:∀y∈o.fPending,y.fID≠id):Iw o id=(5,o):=by
 unfold Iw Qx;have:(o.fPending.findIdx? λx=>decide (x.fID=id))=none:=by
  rw[List.findIdx?_eq_none_iff];intro x hx;exact AfG (h x hx)
 rw[this]
structure Abs (o o':Al) (rc:Ai):Prop where
 one:Hw o rc=(0,o')
 two:Hw o' rc=(0,o')
theorem Yt {n:Nat}{o:Al}(h:JS n o){c:AC}(h1:(CM o c).1=true)(h3:(Ii c).2≠3):(Ii c).2=0∧Abs o (CM o c).2.2 (Ii c).1:=by
 rcases HC h c with⟨k1,_⟩ | ⟨_,k2,_,k4,_,k6⟩
 ·rw[k1] at h1;cases h1
 ·have h0:(Ii c).2=0:=(AdK k6).resolve_right h3;refine⟨h0,?_,?_⟩
  ·rw[Ri h0,k2]
  ·rw[Ri h0,S7 (LQ h c) k6 (by rw[k4];simp)]
theorem RE {n:Nat}{o:Al}(h:JS n o){id:Ai}(h1:(Iw o id).1=0)(h3:(HE id).2≠3):(HE id).2=0∧Abs o (Iw o id).2 (HE id).1:=by
 obtain⟨⟨e,i,k1,k2,k3⟩,k4⟩:=Abp h h1;have hid:K3 id=true:=by rw[k3];exact(LV k2).2.2.2
 have h0:(HE id).2=0:=(AdW hid).resolve_right h3;refine⟨h0,?_,?_⟩
 ·rw[Rj h0]
 ·rw[Rj h0,Abo k4]
theorem P1 {X:Type}{n:Nat}{o o':Al}{rc:Ai}(hI:JS n o)(hI':JS n o')(hn:n≤100)(hl:rc.length≤262144)(hA:Abs o o' rc){tw:List Bool}{i:Nat}(Q:Bool→Al→Option X) :
  (Bq (EK FF o rc) λq=>Bw (!decide (q.1=0)) (Q true q.2) (Bw (decide ((i:Int)<(tw.length:Int))) (Bd (CY (i:Int) (tw.length:Int))<|Bw (Aq tw (i:Int)) (Bq (EK FF q.2 rc) λq'=>Q (!decide (q'.1=0)) q'.2) (Q false q.2)) (Q false q.2)))=Q false o':=by
 rw[Kt hI hn (by decide) (by show _<5000000;omega) (by omega),Bh,hA.one,AN (by rfl)]
 by_cases h:(i:Int)<(tw.length:Int)
 ·rw[AZ (AfI h),Bm (by omega) (by omega)]
  cases Aq tw (i:Int) with
  | false=>rfl
  | true=>rw[CX,Kt hI' hn (by decide) (by show _<5000000;omega) (by omega),Bh,hA.two];rfl
 ·rw[AN (AfG h)]
def TB (i:Nat)(o:Al):Int×Bool×(List Ai)×(List Ak)×(List (Ai×(List Ab)))×(List (Ai×(List (Ai×Ac))))×Bool×(List Ai)×(List Ak)×(List (Ai×(List Ab)))×(List (Ai×(List (Ai×Ac)))):=
 ((i:Int),o.fMade,o.fEvents,o.fPending,o.fResults,o.fKeys,o.fMade,o.fEvents,o.fPending,o.fResults,o.fKeys)
def UJ (o:Al)(x:Bl):Int:=bif decide (x.fKind=0) then(Ii x.fC).2 else(HE (XR o x)).2
def RW (o:Al)(x:Bl):Out Bool Al:=
 bif decide (x.fKind<0)||decide (2<x.fKind) then .go o else
 bif !decide ((L3 o x).2.1=0)||(decide (x.fKind=0)&&!(L3 o x).1) then .go o else
 bif decide (UJ o x=3) then .ret true else .go (L3 o x).2.2
theorem Xf {n:Nat}{o:Al}(hI:JS n o){x:Bl}(h:(!decide ((L3 o x).2.1=0)||(decide (x.fKind=0)&&!(L3 o x).1))=true):(L3 o x).2.2=o:=by
 by_cases he:(L3 o x).2.1=0
 ·rw[AfI he] at h;simp only[AfR,AfW,AfM,Agd,AfF] at h;have hd:L3 o x=CM o x.fC:=by unfold L3;rw[AfI h.1];rfl
  rw[hd] at h ⊢;rcases HC hI x.fC with⟨_,k2,_⟩ | ⟨k1,_⟩
  ·exact k2
  ·rw[k1] at h;cases h.2
 ·exact AdM hI he
theorem AdN {o:Al}{x:Bl}(hk:x.fKind=1∨x.fKind=2):L3 o x=(false,Iw o (XR o x)):=by
 unfold L3 XR;rcases hk with hk | hk
 ·rw[AfG (show ¬ x.fKind=0 by omega),AfI hk,AfG (show ¬ x.fKind=2 by omega)];rfl
 ·rw[AfG (show ¬ x.fKind=0 by omega),AfG (show ¬ x.fKind=1 by omega),AfI hk];rfl
theorem TN {i:Nat}(hi:i≤1000)(o:Al):Ce (i:Int) o.fMade o.fEvents o.fPending o.fResults o.fKeys o.fMade o.fEvents o.fPending o.fResults o.fKeys=some (.next (TB (i+1) o)):=by
 unfold Ce TB;rw[Ba (by omega) (by omega)];rfl
theorem Zo {l:List Bl}{tw:List Bool}(hx:∀x∈l,OpS x)(hl:l.length≤60)(i:Nat)(hi:i<l.length)(o:Al)(hI:JS i o) :
  Dw FF l tw (TB i o).1 (TB i o).2.1 (TB i o).2.2.1 (TB i o).2.2.2.1 (TB i o).2.2.2.2.1 (TB i o).2.2.2.2.2.1 (TB i o).2.2.2.2.2.2.1 (TB i o).2.2.2.2.2.2.2.1 (TB i o).2.2.2.2.2.2.2.2.1 (TB i o).2.2.2.2.2.2.2.2.2.1 (TB i o).2.2.2.2.2.2.2.2.2.2=some (ZV (TB (i+1)) (RW o l[i])):=by
 have hxi:=hx _ (List.getElem_mem hi);have hI':=Aaz hI l[i];have hI1:JS (i+1) o:=hI.mono (by omega);have hat:Aq l (i:Int)=l[i]:=CS hi;unfold Dw;show Bw (decide ((i:Int)<(l.length:Int))) _ _=_;rw[AZ (AfI (by omega))];show Bd (CY (i:Int) (l.length:Int)) _=_;rw[Bm (by omega) (by omega)];simp only[show(TB i o).1=(i:Int) from rfl,hat];generalize l[i]=x at hxi hI';unfold RW
 cases hk:decide (x.fKind<0)||decide (2<x.fKind) with
 | true=>rw[CX,AfL];exact TN (by omega) o
 | false=>
  rw[BU,AfH];have hk':x.fKind=0∨(x.fKind=1∨x.fKind=2):=by
   simp only[Agj,AfE] at hk;omega
  show Bw (decide (x.fKind=2)) (Bq (Ec FF o) _) (Bq (M9 FF o x) _)=_;rw[Ks hI (by omega) (by decide),Bh,Rn,Bh];show Bw (decide (x.fKind=2)) (Bq (M9 FF o x) _) (Bq (M9 FF o x) _)=_;rw[AeK hI (by omega) hxi,Bh,Bh]
  cases hs : !decide ((L3 o x).2.1=0)||(decide (x.fKind=0)&&!(L3 o x).1) with
  | true=>
   have he:=Xf hI hs;rw[CX,CX,AfL,he];show Bw (decide (x.fKind=2)) (Ce (i:Int) o.fMade o.fEvents o.fPending o.fResults o.fKeys o.fMade o.fEvents o.fPending o.fResults o.fKeys) (Ce (i:Int) o.fMade o.fEvents o.fPending o.fResults o.fKeys o.fMade o.fEvents o.fPending o.fResults o.fKeys)=_;rw[TN (by omega) o]
   cases decide (x.fKind=2)<;>rfl
  | false=>
   simp only[Agj,AgJ,AfF] at hs;obtain⟨he,hs0⟩:=hs;rw[BU,BU,AfH];rcases hk' with h0 | hf
   · -- a commit
    rw[AfG (show ¬ x.fKind=2 by omega),BU,AfI h0,CX,AeJ hxi.c,Bh];rw[AfI h0] at hs0;have h1:(L3 o x).1=true:=by simpa using hs0
    have hd:L3 o x=CM o x.fC:=by unfold L3;rw[AfI h0];rfl
    have hr:UJ o x=(Ii x.fC).2:=by unfold UJ;rw[AfI h0];rfl
    rw[hr]
    cases h3:decide ((Ii x.fC).2=3) with
    | true=>rw[CX,Hh,Bh];rfl
    | false=>
     rw[hd] at h1;obtain⟨hb,hA⟩:=Yt hI h1 (Ag0 h3);rw[← hd] at hA;rw[BU,AN (by rw[hb];rfl),AfH];refine(P1 hI1 hI' (by omega) (PN _) hA (λb q=>CG (i:Int) (L3 o x) b q.fMade q.fEvents q.fPending q.fResults q.fKeys)).trans ?_;unfold CG;rw[BU];exact TN (by omega) _
   ·have hd:=AdN (o:=o) hf;have hn0 : ¬ x.fKind=0:=by omega
    rw[AfG hn0,BU,BU];have hr:UJ o x=(HE (XR o x)).2:=by unfold UJ;rw[AfG hn0];rfl
    rw[hr];have ha:(Iw o (XR o x)).1=0:=by rw[hd] at he;exact he
    rw[GX (by decide),Bh,GX (by decide),Bh]
    by_cases h2:x.fKind=2
    ·have hid:ZX o.fPending x.fN=XR o x:=by unfold XR;rw[AfI h2];rfl
     rw[AfI h2,CX,hid]
     cases h3:decide ((HE (XR o x)).2=3) with
     | true=>rw[CX,Hh,Bh];rfl
     | false=>
      obtain⟨hb,hA⟩:=RE hI ha (Ag0 h3);rw[show(Iw o (XR o x)).2=(L3 o x).2.2 by rw[hd]] at hA;rw[BU,AN (by rw[hb];rfl),AfH];refine(P1 hI1 hI' (by omega) (MQ _) hA (λb q=>CH (i:Int) (L3 o x) b q.fMade q.fEvents q.fPending q.fResults q.fKeys)).trans ?_;unfold CH;rw[BU];exact TN (by omega) _
    ·have hid:x.fS=XR o x:=by unfold XR;rw[AfG h2];rfl
     rw[AfG h2,BU,hid]
     cases h3:decide ((HE (XR o x)).2=3) with
     | true=>rw[CX,Hh,Bh];rfl
     | false=>
      obtain⟨hb,hA⟩:=RE hI ha (Ag0 h3);rw[show(Iw o (XR o x)).2=(L3 o x).2.2 by rw[hd]] at hA;rw[BU,AN (by rw[hb];rfl),AfH];refine(P1 hI1 hI' (by omega) (MQ _) hA (λb q=>CF (i:Int) (L3 o x) b q.fMade q.fEvents q.fPending q.fResults q.fKeys)).trans ?_;unfold CF;rw[BU];exact TN (by omega) _
theorem Zp {n:Nat}{o b:Al}{x:Bl}(hI:JS n o)(h:RW o x = .go b):JS (n+1) b:=by
 unfold RW at h
 cases h1:decide (x.fKind<0)||decide (2<x.fKind) with
 | true=>rw[h1] at h;cases h;exact hI.mono (by omega)
 | false=>
  rw[h1,AfH] at h
  cases h2 : !decide ((L3 o x).2.1=0)||(decide (x.fKind=0)&&!(L3 o x).1) with
  | true=>rw[h2] at h;cases h;exact hI.mono (by omega)
  | false=>
   rw[h2,AfH] at h
   cases h3:decide (UJ o x=3) with
   | true=>rw[h3] at h;cases h
   | false=>rw[h3] at h;cases h;exact Aaz hI x
theorem P4 {l:List Bl}{tw:List Bool}{t e:Ai}(hx:∀x∈l,OpS x):Ie FF l tw t e=some true:=by
 unfold Ie
 by_cases ha:60<(l.length:Int)
 ·rw[AZ (AfI ha),Hh,Bh]
 ·rw[AN (AfG ha)];unfold UU;rw[Bh,Bh];have h:=(H8 (l:=l) (mk:=TB) (fin:=λo=>(TB 0 o).2) (body:=λσ=>Dw FF l tw σ.1 σ.2.1 σ.2.2.1 σ.2.2.2.1 σ.2.2.2.2.1 σ.2.2.2.2.2.1 σ.2.2.2.2.2.2.1 σ.2.2.2.2.2.2.2.1 σ.2.2.2.2.2.2.2.2.1 σ.2.2.2.2.2.2.2.2.2.1 σ.2.2.2.2.2.2.2.2.2.2) (λ_ o x=>RW o x) JS (λi hi o hP=>⟨Zo hx (by omega) i hi o hP,λb hb=>Zp hP hb⟩) (λo hP=>by
   unfold Dw;show Bw (decide ((l.length:Int)<(l.length:Int))) _ _=_;rw[AN (AfG (by omega))];rfl) (F:=FF) (by show _<5000000;omega) (a:=Ad0) Acr)
  obtain⟨h,hinv⟩:=h;refine(congrArg (λz=>Bq z _) h).trans ?_;rw[Bh];have hret:∀(l:List Bl) (i:Nat) (o:Al) (q:Bool),ED (λ_ o x=>RW o x) i o l = .ret q→q=true:=by
   intro l
   induction l with
   | nil=>intro i o q h;rw[ED] at h;cases h
   | cons x l ih=>
    intro i o q h;rw[ED] at h
    cases hr:RW o x with
    | go b=>rw[hr] at h;exact ih _ _ _ h
    | ret q'=>
     rw[hr] at h
     cases h
     unfold RW at hr
     cases h1:decide (x.fKind<0)||decide (2<x.fKind) with
     | true=>rw[h1] at hr;cases hr
     | false=>
      rw[h1,AfH] at hr
      cases h2 : !decide ((L3 o x).2.1=0)||(decide (x.fKind=0)&&!(L3 o x).1) with
      | true=>rw[h2] at hr;cases hr
      | false=>
       rw[h2,AfH] at hr
       cases h3:decide (UJ o x=3) with
       | true=>rw[h3] at hr;cases hr;rfl
       | false=>rw[h3] at hr;cases hr
  cases hr:ED (λ_ o x=>RW o x) 0 Ad0 l with
  | ret q=>rw[hret _ _ _ _ hr];rfl
  | go o=>
   have hI:=hinv o hr;have hn:l.length≤100:=by omega
   have hp:=hI.pn;have hln:=hI.ln;have hit:=Vh hI t;show Ei FF t e o.fMade o.fEvents o.fPending o.fResults o.fKeys o.fMade o.fEvents o.fPending o.fResults o.fKeys=_;unfold Ei;rw[show(Al.mk o.fMade o.fEvents o.fResults o.fKeys o.fPending)=o from rfl,UR hI,Bh,Bh];have hv:(B2 o.fResults e ([]:List Ab)).length≤200:=by
    rcases Pz (m:=o.fResults) (k:=e) (z:=([]:List Ab)) with⟨h1,_⟩ | ⟨h1,_⟩
    ·rw[h1];exact Agn _
    ·exact hI.rs _ h1
   rw[AZ (by simp)];show Bq (HV FF (B2 o.fResults e []) (B2 o.fResults e [])) _=_;rw[MZ (by show _<5000000;omega) (by omega),Bh,AfI rfl,CX];rw[UV hI hn,Bh,Bh,XT (by show _<5000000;omega) (by omega),Bh,AfI rfl,CX];rw[Ks hI hn (by decide),Bh,Bh,Qt (by show _<5000000;omega) (by decide) (by omega) hI.pv,Bh,AfI rfl,CX];rw[Xy hI hn (by decide),Bh,Bh,TL (by show _<5000000;omega) (by decide) (by omega) hit.2,Bh,AfI rfl,CX];rw[Hh,Bh];rfl
end Go.Proofs.YtfobhhegpkinaaaGreatDoor
namespace Go.Proofs.YtfobhhegpkinaaaGreatDoor.lawOutboxRecovers
open Go
set_option linter.unusedVariables false
theorem law:Law:=λl tw t e h0 _ _ _=>⟨FF,P4 λx hx=>OpS.ofB (List.all_eq_true.1 (Bool.and_eq_true_iff.1 h0).1 x hx)⟩
end Go.Proofs.YtfobhhegpkinaaaGreatDoor.lawOutboxRecovers
