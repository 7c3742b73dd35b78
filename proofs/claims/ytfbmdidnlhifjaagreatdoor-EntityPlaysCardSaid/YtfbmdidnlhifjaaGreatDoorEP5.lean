/-
  Texts of the proof, put together: LnA, LnB, LnC, PN, LnF, LnG, LnH, LnI, LnJ, LnK, LnL, LwEPlays.
-/
import Derived.Test.YtfbmdidnlhifjaaGreatDoorEP4
import Derived.Sort.Walk0
namespace Go.Proofs.YtfbmdidnlhifjaaGreatDoor
open Go
set_option linter.unusedVariables false
set_option linter.unusedSimpArgs false
theorem BS {α:Type}[Inhabited α]{l:List α}{i:Nat}(h:i<l.length):Af l (i:Int)=l[i]:=by simp[Af,h]
def Hp {α:Type}(f:α→Int):List α→Int
 | []=>0
 | x::r=>if f x=0 then Hp f r else f x
theorem Sc {α U:Type}{l:List α}{f:α→Int}{body:Int→Option (Stp Int (Out Int U))}{u:U}(hb:∀(i:Nat) (h:i<l.length),body (i:Int)=Bq (!decide (f l[i]=0)) (some (.out (.ret (f l[i])))) (some (.next ((i:Int)+1))))(he:body (l.length:Int)=some (.out (.go u))) :
  ∀(d n i:Nat),i+d=l.length→d<n→BW body n (i:Int)=some (if Hp f (l.drop i)=0 then .go u else .ret (Hp f (l.drop i))):=by
 intro d
 induction d with
 | zero=>
  intro n i h hn;obtain⟨n,rfl⟩:∃m,n=m+1:=⟨n-1,by omega⟩
  obtain rfl:i=l.length:=by omega
  rw[BW,he,List.drop_length];rfl
 | succ d ih=>
  intro n i h hn;obtain⟨n,rfl⟩:∃m,n=m+1:=⟨n-1,by omega⟩
  have hi:i<l.length:=by omega
  rw[BW,hb i hi,List.drop_eq_getElem_cons hi]
  by_cases hf:f l[i]=0
  ·rw[A3 (by simp[hf])];have:=ih n (i+1) (by omega) (by omega);rw[Hp,Xr hf];exact this
  ·rw[AI (by simp[hf]),Hp,Xn hf,Xn hf]
theorem Mt {α U:Type}{l:List α}{f:α→Int}{body:Int→Option (Stp Int (Out Int U))}{u:U}{F:Nat}(hF:l.length<F)(hb:∀(i:Nat) (h:i<l.length),body (i:Int)=Bq (!decide (f l[i]=0)) (some (.out (.ret (f l[i])))) (some (.next ((i:Int)+1))))(he:body (l.length:Int)=some (.out (.go u))) :
  Bt (BW body F 0) (Cf λ_=>some 0)=some (Hp f l):=by
 have h:=Sc hb he l.length F 0 (by omega) hF;have h':BW body F 0=_:=h;rw[List.drop_zero] at h';rw[AW h']
 by_cases h0:Hp f l=0
 ·rw[Xr h0,h0];rfl
 ·rw[Xn h0];rfl
theorem UH {α U:Type}{l:List α}{body:Int→Option (Stp Int (Out Bool U))}{bad:α→Bool}{u:U}(hb:∀(i:Nat) (h:i<l.length),body (i:Int)=Bq (bad l[i]) (some (.out (.ret false))) (some (.next ((i:Int)+1))))(he:body (l.length:Int)=some (.out (.go u))) :
  ∀(d n i:Nat),i+d=l.length→d<n→BW body n (i:Int)=some (if (l.drop i).any bad=true then .ret false else .go u):=by
 intro d
 induction d with
 | zero=>
  intro n i h hn;obtain⟨n,rfl⟩:∃m,n=m+1:=⟨n-1,by omega⟩
  obtain rfl:i=l.length:=by omega
  rw[BW,he,List.drop_length];rfl
 | succ d ih=>
  intro n i h hn;obtain⟨n,rfl⟩:∃m,n=m+1:=⟨n-1,by omega⟩
  have hi:i<l.length:=by omega
  rw[BW,hb i hi,List.drop_eq_getElem_cons hi,List.any_cons]
  cases hf:bad l[i] with
  | false=>rw[A3 rfl,X4];exact ih n (i+1) (by omega) (by omega)
  | true=>rw[AI rfl,XS,Xr rfl]
theorem EL {α U:Type}{l:List α}{body:Int→Option (Stp Int (Out Bool U))}{bad:α→Bool}{u:U}{F:Nat}(hF:l.length<F)(hb:∀(i:Nat) (h:i<l.length),body (i:Int)=Bq (bad l[i]) (some (.out (.ret false))) (some (.next ((i:Int)+1))))(he:body (l.length:Int)=some (.out (.go u)))(k:U→Option Bool) :
  Bt (BW body F 0) (Cf k)=bif l.any bad then some false else k u:=by
 have h:=UH hb he l.length F 0 (by omega) hF;have h':BW body F 0=_:=h;rw[List.drop_zero] at h';rw[AW h']
 cases l.any bad<;>rfl
def MC (v:List Ac):Bool:=decide (100<v.length)||v.any λc=>decide (250<c.fStr.length)
theorem GV {α:Type}(n:Nat)(f:List α):decide (((n:Nat):Int)<(f.length:Int))=decide (n<f.length):=by rw[Xt];simp
theorem Sh {F:Nat}(hF:100<F)(v:List Ac):Mx F v=some (!MC v):=by
 unfold Mx MC;rw[show decide ((100:Int)<(v.length:Int))=decide (100<v.length) from GV 100 v]
 cases hl:decide (100<v.length) with
 | true=>rfl
 | false=>
  have hl' : ¬ 100<v.length:=of_decide_eq_false hl;rw[A3 rfl,EL (l:=v) (bad:=λc=>decide (250<c.fStr.length)) (u:=()) (by omega) (λi h=>by
   unfold GI;rw[AI (Xb (by omega)),AZ (by omega) (by omega),BS h,AP (by omega) (by omega),show decide ((250:Int)<((v[i]).fStr.length:Int))=decide (250<(v[i]).fStr.length) from GV 250 _]) (by unfold GI;rw[A3 (Xa (by omega))])]
  cases v.any _<;>rfl
def IG (op:A6):Bool:=(decide (100<op.fEntity.length)||(decide (100<op.fID.length)||(decide (100<op.fOp.length)||decide (4<op.fArgs.length))))||op.fArgs.any MC
theorem Sf {F:Nat}(hF:100<F)(op:A6):Mw F op=some (!IG op):=by
 unfold Mw IG;have hk:((decide (100<(op.fEntity.length:Int)))||((decide (100<(op.fID.length:Int)))||((decide (100<(op.fOp.length:Int)))||(decide (4<(op.fArgs.length:Int))))))=(decide (100<op.fEntity.length)||(decide (100<op.fID.length)||(decide (100<op.fOp.length)||decide (4<op.fArgs.length)))):=by
  rw[← GV 100 op.fEntity,← GV 100 op.fID,← GV 100 op.fOp,← GV 4 op.fArgs];rfl
 rw[hk]
 cases hb:(decide (100<op.fEntity.length)||(decide (100<op.fID.length)||(decide (100<op.fOp.length)||decide (4<op.fArgs.length)))) with
 | true=>rfl
 | false=>
  simp only[X8,Xe] at hb;rw[A3 rfl,EL (l:=op.fArgs) (bad:=MC) (u:=()) (by omega) (λi h=>by
   unfold GH;rw[AI (Xb (by omega)),AZ (by omega) (by omega),BS h,Sh hF,AW rfl,Bool.not_not,AP (by omega) (by omega)]) (by unfold GH;rw[A3 (Xa (by omega))])]
  cases op.fArgs.any MC<;>rfl
theorem JM.ofN {v:List Ac}(hs:MC v=false)(hc:v.all HS=true):JM 250 v:=by
 unfold MC at hs;simp only[X8,Xe,List.any_eq_false,X1,Xc] at hs hc;refine⟨by decide,by omega,λc h=>?_⟩;have h1:=hs.2 c h;have h2:=hc c h;unfold HS at h2;simp only[Xf] at h2;exact⟨by omega,h2.1.1.2,(Ic h2.2).2⟩
structure ML (M:Nat) (op:A6):Prop where
 e:op.fEntity.length≤1000000
 i:op.fID.length≤1000000
 o:op.fOp.length≤1000000
 n:op.fArgs.length≤1000000
 a:∀v∈op.fArgs,JM M v
theorem ML.of {op:A6}(hs:IG op=false)(hc:op.fArgs.all (λv=>v.all HS)=true):ML 250 op:=by
 unfold IG at hs;simp only[X8,Xe,List.any_eq_false] at hs;exact⟨by omega,by omega,by omega,by omega,λv hv=>JM.ofN (by have:=hs.2 v hv;simpa using this) (List.all_eq_true.1 hc v hv)⟩
abbrev Kb:Aq:=[114,101,97,100]
abbrev EH:Aq:=[119,114,105,116,101]
abbrev L2:Aq:=[97,100,100]
abbrev Kc:Aq:=[99,97,115]
def DV (op:Aq):Int:=if op=Kb then 0 else if op=EH then 1 else if op=L2 then 1 else if op=Kc then 2 else -1
theorem Su:mset (mset (mset (mset ([]:List (Aq×Int)) Kb 0) EH 1) L2 1) Kc 2=[(L2,1),(Kc,2),(Kb,0),(EH,1)]:=by decide
theorem RQ (op:Aq):∃n,Mp op=some (n,decide (0≤DV op))∧(0≤DV op→n=DV op):=by
 unfold Mp;rw[show mset (mset (mset (mset ([]:List (Aq×Int)) ([114,101,97,100]:Aq) 0) ([119,114,105,116,101]:Aq) 1) ([97,100,100]:Aq) 1) ([99,97,115]:Aq) 2=[(L2,1),(Kc,2),(Kb,0),(EH,1)] from Su];unfold AE BB DV
 by_cases h1:op=Kb
 ·subst h1;exact⟨0,rfl,λ_=>rfl⟩
 ·by_cases h2:op=EH
  ·subst h2;exact⟨1,rfl,λ_=>rfl⟩
  ·by_cases h3:op=L2
   ·subst h3;exact⟨1,rfl,λ_=>rfl⟩
   ·by_cases h4:op=Kc
    ·subst h4;exact⟨2,rfl,λ_=>rfl⟩
    ·have hn:BA [(L2,(1:Int)),(Kc,2),(Kb,0),(EH,1)] op=none:=by
      simp only[BA];rw[Xa (λe=>h3 e.symm),Xa (λe=>h4 e.symm),Xa (λe=>h1 e.symm),Xa (λe=>h2 e.symm)];rfl
     rw[hn,Xn h1,Xn h2,Xn h3,Xn h4];exact⟨0,rfl,λe=>by omega⟩
theorem Qk (op:Aq):Ki op=some (DV op):=by
 unfold Ki DV
 by_cases h1:op=Kb
 ·rw[AI (Xb h1),Xr h1]
 ·rw[A3 (Xa h1),Xn h1]
  by_cases h2:op=EH
  ·rw[AI (Xb h2),Xr h2]
  ·rw[A3 (Xa h2),Xn h2]
   by_cases h3:op=L2
   ·rw[AI (Xb h3),Xr h3]
   ·rw[A3 (Xa h3),Xn h3]
    by_cases h4:op=Kc
    ·rw[AI (Xb h4),Xr h4]
    ·rw[A3 (Xa h4),Xn h4]
def EU (op:A6):Int:=if (Is op.fEntity&&(Is op.fID&&decide (0≤DV op.fOp)))=false then 4 else if (op.fArgs.length:Int)=DV op.fOp then Hp Gf op.fArgs else 7
theorem E6 {M F:Nat}{op:A6}(hA:ML M op)(hM:M≤1000000)(hF:M<F)(hF2:op.fArgs.length<F):KT F op=some (EU op):=by
 obtain⟨n,h1,h2⟩:=RQ op.fOp;unfold KT EU;rw[h1,AW rfl];simp only;have hk:((!(Is op.fEntity))||((!(Is op.fID))||(!decide (0≤DV op.fOp)))) = !(Is op.fEntity&&(Is op.fID&&decide (0≤DV op.fOp))):=by
  cases Is op.fEntity<;>cases Is op.fID<;>cases decide (0≤DV op.fOp)<;>rfl
 rw[hk]
 cases hb:(Is op.fEntity&&(Is op.fID&&decide (0≤DV op.fOp))) with
 | false=>rfl
 | true=>
  have h0:0≤DV op.fOp:=by
   simp only[Xf,Xc] at hb;exact hb.2.2
  rw[A3 (by rfl),h2 h0,Xn (by simp)]
  by_cases hl:(op.fArgs.length:Int)=DV op.fOp
  ·rw[Xr hl,A3 (by simp[hl])];exact Mt (l:=op.fArgs) (f:=Gf) (u:=()) hF2 (λi h=>by
    unfold GF;rw[AI (Xb (by omega)),AZ (by omega) (by omega),BS h,Nc (hA.a _ (List.getElem_mem h)) hM hF,AW rfl,AP (by omega) (by have:=hA.n;omega)]) (by unfold GF;rw[A3 (Xa (by omega))])
  ·rw[Xn hl,AI (by simp[hl])]
theorem U6:∀a b d e f g h i j:Bool,(Bt (some a) λha=>Bq ha (some true) (Bq d (Bq e (some true) (Bt (some b) λhb=>Bq hb (some true) (Bq f (some true) (Bq g (some true) (Bq h (some true) (Bq i (some true) (some j))))))) (Bt (some b) λhd=>Bq hd (some true) (Bq f (some true) (Bq g (some true) (Bq h (some true) (Bq i (some true) (some j))))))))=some (a||b||(d&&e)||f||g||h||i||j):=by decide
theorem Q4 (c:Int):Oj c=some (De c):=U6 (decide (97≤c)&&decide (c≤122)) (decide (48≤c)&&decide (c≤57)) (decide (65≤c)) (decide (c≤90)) (decide (c=45)) (decide (c=95)) (decide (c=46)) (decide (c=58)) (decide (c=47))
theorem K8:∀(s:Aq) (k:Nat),Ch La k s=s.all λu=>De u.toNat
 | [],k=>rfl
 | u::r,k=>by rw[Ch,K8 r (k+1),List.all_cons];rfl
theorem P3 {F:Nat}(hF:64<F)(s:Aq):JE F s=some (Is s):=by
 unfold JE Is;rw[K8]
 by_cases hl:(s.length:Int)<1∨(64:Int)<(s.length:Int)
 ·rw[AI (by simpa using hl)];have:(decide (1≤s.length)&&decide (s.length≤64))=false:=by
   simp only[Bool.and_eq_false_iff,Xe];omega
  rw[Bool.and_assoc,this,XF]
 ·rw[A3 (by simpa using hl)];have hb:(decide (1≤s.length)&&decide (s.length≤64))=true:=by
   simp only[Xf,Xc];omega
  rw[Bool.and_assoc,hb,XP,EL (l:=s) (bad:=λu=>!De u.toNat) (u:=()) (by omega) (λi h=>by
   unfold Ji;rw[AI (Xb (by omega)),AZ (by omega) (by omega),VG (Xg h),Q4,AW rfl,AP (by omega) (by omega)]) (by unfold Ji;rw[A3 (Xa (by omega))])]
  have:(s.any λu=>!De u.toNat) = !(s.all λu=>De u.toNat):=by rw[List.not_all_eq_any_not]
  rw[this]
  cases s.all λu=>De u.toNat<;>rfl
theorem E0 {M F:Nat}{op:A6}(hA:ML M op)(hM:M≤1000000)(hF:4*M+70<F)(hF2:op.fArgs.length<F):H8 F op=some (EU op):=by
 unfold H8 EU;rw[Qk,AW rfl,P3 (by omega),P3 (by omega),Option.isSome_some,Option.isSome_some,BP rfl,BP (by unfold imp;simp),IR,IR];have hk:((!(Is op.fEntity))||((!(Is op.fID))||(decide (DV op.fOp<0)))) = !(Is op.fEntity&&(Is op.fID&&decide (0≤DV op.fOp))):=by
  have:decide (DV op.fOp<0) = !decide (0≤DV op.fOp):=by rw[Xt];simp
  rw[this]
  cases Is op.fEntity<;>cases Is op.fID<;>cases decide (0≤DV op.fOp)<;>rfl
 rw[hk]
 cases hb:(Is op.fEntity&&(Is op.fID&&decide (0≤DV op.fOp))) with
 | false=>rfl
 | true=>
  rw[A3 (by rfl),Xn (by simp)]
  by_cases hl:(op.fArgs.length:Int)=DV op.fOp
  ·rw[Xr hl,A3 (by simp[hl])];exact Mt (l:=op.fArgs) (f:=Gf) (u:=()) hF2 (λi h=>by
    unfold E1;rw[AI (Xb (by omega)),AZ (by omega) (by omega),BS h,KK (hA.a _ (List.getElem_mem h)) hM (by omega),AW rfl,AP (by omega) (by have:=hA.n;omega)]) (by unfold E1;rw[A3 (Xa (by omega))])
  ·rw[Xn hl,AI (by simp[hl])]
theorem UP {v:List Ac}(h:Gf v=0):∃c r,v=c::r∧pl c=true∧GX c=false:=by
 unfold Gf at h
 cases hw:whole v with
 | none=>rw[hw] at h;simp at h
 | some f=>
  rw[hw] at h;obtain⟨h1,h2,h3⟩:=LT hw;have ho:=(Sm h).1
  cases f with
  | nil=>cases h3
  | cell k c r=>
   cases k with
   | some _=>cases h3
   | none=>
    refine⟨c,r.flat,h1,?_,?_⟩
    ·simp only[Fo.wf,Xf] at h2;exact h2.1.1.2
    ·simp only[Fo.flat,BK,XI,List.any_cons,X8] at ho;exact ho.1
  | node k c kids r=>
   cases k with
   | some _=>cases h3
   | none=>
    refine⟨c,kids.flat++r.flat,h1,?_,?_⟩
    ·simp only[Fo.wf,Xf] at h2;exact h2.1.1.1.1.2
    ·simp only[Fo.flat,BK,XI,List.any_cons,X8] at ho;exact ho.1
def Gr (n:Int):Ac:=⟨3,n,[],0⟩
def ET (n:Int):Bool:=decide ((-1000000000000)≤n)&&decide (n≤1000000000000)
theorem PA {n:Int}(h0 : -9223372036854775808≤n)(h1:n≤9223372036854775807):Gf [Gr n]=if ET n=true then 0 else 2:=by
 have hw:whole [Gr n]=some (.cell none (Gr n) .nil):=SK (f:=.cell none (Gr n) .nil) rfl (by simp[Fo.wf,CH,pl,Gr]);unfold Gf;rw[hw];simp only;unfold Q6;have hf:(Fo.cell none (Gr n) .nil).flat=[Gr n]:=rfl;have ho:[Gr n].any GX = !ET n:=by simp[GX,Gr,ET]
 have ht:((Fo.cell none (Gr n) .nil).txt true).length≤21:=by
  have:(Fo.cell none (Gr n) .nil).txt true=Lib.itoa n:=by simp[Fo.txt,Hj,MR,Kt,Gr]
  rw[this];exact T9 n h0 h1
 rw[hf,ho];have hl:[Gr n].any Gv=false:=by simp[Gv,Gr]
 have hd:(Fo.cell none (Gr n) .nil).dep=1:=rfl;rw[hl,hd]
 cases hk:ET n with
 | false=>rfl
 | true=>
  rw[Xa (show ¬ 4000<((Fo.cell none (Gr n) .nil).txt true).length from by omega)];simp
theorem Ew {v:List Ac}(h:v.length≤1000000):Dr v=some v:=by
 unfold Dr;rw[BP (show L4 40 _=true from Xb (by simp;omega))];rfl
def C8:List Ac:=[⟨1,0,[],0⟩]
def Vo (b:Bool):List Ac:=[⟨2,if b then 1 else 0,[],0⟩]
def JL (v:List Ac):Int:=(Af v 0).fKind
def Ny (v:List Ac):Int:=(Af v 0).fInt
def Ox (state n:List Ac):List Ac×A8:=
 if (JL state≠1∧JL state≠3)∨JL n≠3 then(state,⟨7,[]⟩) else if ET (Ny state+Ny n)=true then([Gr (Ny state+Ny n)],⟨0,[Gr (Ny state+Ny n)]⟩) else(state,⟨8,[]⟩)
def Sv (state:List Ac)(op:A6):List Ac×A8:=
 if op.fOp=EH then(Af op.fArgs 0,⟨0,C8⟩) else if op.fOp=L2 then Ox state (Af op.fArgs 0)
 else if op.fOp=Kc then(if state=Af op.fArgs 0 then(Af op.fArgs 1,⟨0,Vo true⟩) else(state,⟨0,Vo false⟩)) else(state,⟨0,state⟩)
def It (state:List Ac)(op:A6):List Ac×A8×Int:=
 if EU op≠0 then([],⟨0,[]⟩,EU op) else if Gf state≠0 then([],⟨0,[]⟩,Gf state) else((Sv state op).1,(Sv state op).2,0)
theorem K0 {v:List Ac}(h:Gf v=0):0<v.length∧(JL v=1→Ny v=0)∧(JL v=3→-1000000000000≤Ny v∧Ny v≤1000000000000):=by
 obtain⟨c,r,rfl,hp,ho⟩:=UP h;refine⟨by simp,λhk=>?_,λhk=>?_⟩
 ·have hk':c.fKind=1:=hk;have:c.fInt=0:=by
   unfold pl at hp;rw[Xb hk',Xp] at hp;simp only[Xf,Xc] at hp;exact hp.1
  exact this
 ·have hk':c.fKind=3:=hk;unfold GX at ho;rw[Xb hk',X7,Bool.not_eq_false',Xf,Xc,Xc] at ho;exact ho
theorem Ns {F:Nat}(hF:10<F){a b:Int}(ha : -1000000000000≤a∧a≤1000000000000)(hb : -1000000000000≤b∧b≤1000000000000):KQ F a b=some (if ET (a+b)=true then(a+b,0) else(0,8)):=by
 have hv:I3 F [a,b]=some true:=by
  unfold I3;have hbad:([a,b].any λn=>!ET n)=false:=by
   simp[ET];omega
  rw[EL (l:=[a,b]) (bad:=λn=>!ET n) (u:=()) (by simp;omega) (λi h=>by
   unfold E3 B2;rw[AI (Xb (by omega)),AZ (by omega) (by omega),BS h,AW rfl,AP (by omega) (by simp only[Xj,XA] at h;omega)];rfl) (by unfold E3;rw[A3 (Xa (by omega))]),hbad]
  rfl
 unfold KQ;rw[hv,AW rfl,A3 (by rfl),AP (by omega) (by omega)];unfold IV B2;rw[AW rfl];have:(decide (-1000000000000≤a+b)&&decide (a+b≤1000000000000))=ET (a+b):=rfl;rw[this]
 cases ET (a+b)<;>rfl
theorem K3 {op:A6}(h:EU op=0):Is op.fEntity=true∧Is op.fID=true∧0≤DV op.fOp∧(op.fArgs.length:Int)=DV op.fOp∧∀v∈op.fArgs,Gf v=0:=by
 unfold EU at h
 split at h
 ·simp at h
 ·rename_i h1
  rw[Bool.not_eq_false] at h1;simp only[Xf,Xc] at h1
  split at h
  ·rename_i h2
   refine⟨h1.1,h1.2.1,h1.2.2,h2,?_⟩;have key:∀l:List (List Ac),Hp Gf l=0→∀v∈l,Gf v=0:=by
    intro l
    induction l with
    | nil=>intro _ v hv;cases hv
    | cons x r ih=>
     intro hf v hv;rw[Hp] at hf
     by_cases hx:Gf x=0
     ·rw[Xr hx] at hf;rcases List.mem_cons.1 hv with rfl | hv
      ·exact hx
      ·exact ih hf v hv
     ·rw[Xn hx] at hf;exact absurd hf hx
   exact key _ h
  ·simp at h
theorem Rq {l:List (List Ac)}{i:Nat}(h:i<l.length):Af l (i:Int)∈l:=by rw[BS h];exact List.getElem_mem h
theorem RR {F:Nat}(hF:10<F){state:List Ac}{args:List (List Ac)}(hs:Gf state=0)(hl:args.length=1)(ha:Gf (Af args 0)=0)(hsl:state.length≤1000000):Mq F state args=some (Ox state (Af args 0)):=by
 obtain⟨s1,s2,s3⟩:=K0 hs;obtain⟨a1,a2,a3⟩:=K0 ha;unfold Mq Ox;rw[AZ (by omega) (by omega)];have hk:(Af state 0).fKind=JL state:=rfl;have hk2:(Af (Af args 0) 0).fKind=JL (Af args 0):=rfl;have hi:(Af state 0).fInt=Ny state:=rfl;have hi2:(Af (Af args 0) 0).fInt=Ny (Af args 0):=rfl;rw[hk,hk2,hi,hi2];have hcl:∀n:Int,Dr [Ac.mk 3 n [] 0]=some [Gr n]:=λn=>Ew (by simp)
 by_cases h3:JL state=3
 ·have hsi:=s3 h3;rw[AI (Xb h3),AZ (by omega) (by omega),AZ (by omega) (by omega)]
  by_cases hn:JL (Af args 0)=3
  ·have hai:=a3 hn;have hne : ¬ ((JL state≠1∧JL state≠3)∨JL (Af args 0)≠3):=by omega
   rw[A3 (by simp[hn]),Ns hF hsi hai,AW rfl,Xn hne]
   by_cases ho:ET (Ny state+Ny (Af args 0))=true
   ·rw[Xr ho,Xr ho,A3 (by simp)];simp only;rw[hcl,AW rfl];rfl
   ·rw[Xn ho,Xn ho,AI (by simp)]
  ·rw[AI (by simp[hn]),Xr (.inr hn)]
 ·rw[A3 (Xa h3)]
  by_cases h1:JL state=1
  ·have hsi:=s2 h1;rw[AI (Xb h1),AZ (by omega) (by omega),AZ (by omega) (by omega)]
   by_cases hn:JL (Af args 0)=3
   ·have hai:=a3 hn;have hne : ¬ ((JL state≠1∧JL state≠3)∨JL (Af args 0)≠3):=by omega
    rw[A3 (by simp[hn]),Ns hF (by omega) hai,AW rfl,Xn hne,hsi]
    by_cases ho:ET (0+Ny (Af args 0))=true
    ·rw[Xr ho,Xr ho,A3 (by simp)];simp only;rw[hcl,AW rfl];rfl
    ·rw[Xn ho,Xn ho,AI (by simp)]
   ·rw[AI (by simp[hn]),Xr (.inr hn)]
  ·rw[A3 (Xa h1),Xr (.inl ⟨h1,h3⟩)]
theorem U4 {F:Nat}(hF:100<F){n:Int}(h0 : -9223372036854775808≤n)(h1:n≤9223372036854775807):Tf F n=some (if ET n=true then([Gr n],0) else([],2)):=by
 unfold Tf Kh;have hA:JM 10 [Gr n]:=⟨by decide,by simp,λc hc=>by
  simp at hc;subst hc;exact⟨by simp[Gr],Kw h0 h1,by simp[Gr]⟩⟩
 have hc:=KK hA (by decide) (F:=F) (by omega);have hc':I1 F [Ac.mk 3 n [] 0]=some (Gf [Gr n]):=hc;rw[hc',AW rfl,PA h0 h1]
 cases ET n<;>rfl
theorem RI {F:Nat}(hF:100<F){state n:List Ac}(hs:Gf state=0)(ha:Gf n=0):KL F state n=some (Ox state n):=by
 obtain⟨s1,s2,s3⟩:=K0 hs;obtain⟨a1,a2,a3⟩:=K0 ha;unfold KL Ox;have hk:(Af state 0).fKind=JL state:=rfl;have hk2:(Af n 0).fKind=JL n:=rfl;have hi:(Af state 0).fInt=Ny state:=rfl;have hi2:(Af n 0).fInt=Ny n:=rfl;rw[hk,hk2,hi,hi2,MU (by omega) (by omega),MU (by omega) (by omega),BP rfl,BP (by unfold imp;simp),BP (by unfold imp;simp)]
 by_cases hc:(JL state≠1∧JL state≠3)∨JL n≠3
 ·rw[Xr hc,AI (by
   by_cases h1:JL state=1
   ·rw[Xb h1,Xs,Xl];have:JL n≠3:=by omega
    simp[this]
   ·rw[Xa h1,XL,Xp]
    by_cases h3:JL state=3
    ·have:JL n≠3:=by omega
     simp[this]
    ·simp[h3])]
 ·rw[Xn hc,A3 (by
   have hn:JL n=3:=by omega
   by_cases h1:JL state=1
   ·rw[Xb h1,Xs,Xl,hn];rfl
   ·rw[Xa h1,XL,Xp];have h3:JL state=3:=by omega
    rw[h3,hn];rfl),BP rfl]
  have hb : -1000000000000≤Ny state∧Ny state≤1000000000000:=by
   by_cases h1:JL state=1
   ·have:=s2 h1;omega
   ·exact s3 (by omega)
  have hb2:=a3 (by omega);rw[AP (by omega) (by omega),U4 hF (by omega) (by omega),AW rfl]
  cases ET (Ny state+Ny n)<;>rfl
theorem Wo {l:List (List Ac)}(h:0<l.length):Af l 0∈l:=Rq (i:=0) h
theorem WF {l:List (List Ac)}(h:1<l.length):Af l 1∈l:=Rq (i:=1) h
theorem Vy {F:Nat}{a b:List Ac}(hF:a.length<F)(hv:a.length≤1000000):MZ F a b=some (decide (a=b)):=by
 have:MZ F a b=Gz F a b:=by
  unfold MZ
  cases Gz F a b<;>rfl
 rw[this];exact Iv hF (by omega)
theorem IS {op:Aq}(h:0≤DV op):op=Kb∨op=EH∨op=L2∨op=Kc:=by
 unfold DV at h
 by_cases h1:op=Kb
 ·exact .inl h1
 ·by_cases h2:op=EH
  ·exact .inr (.inl h2)
  ·by_cases h3:op=L2
   ·exact .inr (.inr (.inl h3))
   ·by_cases h4:op=Kc
    ·exact .inr (.inr (.inr h4))
    ·rw[Xn h1,Xn h2,Xn h3,Xn h4] at h;omega
theorem V6 {M F:Nat}{state:List Ac}{op:A6}(hS:JM M state)(hA:ML M op)(hM:M≤1000000)(hF:4*M+100<F)(hF2:op.fArgs.length<F):VW F state op=some (It state op):=by
  have hsl:=hS.hv;unfold VW It;rw[E6 hA hM (by omega) hF2,AW rfl]
  by_cases he:EU op=0
  · rw[A3 (by simp[he]),Xn (by simp[he]),Nc hS hM (by omega),AW rfl]
    by_cases hs:Gf state=0
    · rw[A3 (by simp[hs]),Xn (by simp[hs])]
      obtain⟨_,_,e0,el,ev⟩:=K3 he;have hcs:Dr state=some state:=Ew (by omega);unfold Sv;rcases IS e0 with h | h | h | h
      · rw[h,AI (by decide),hcs,AW rfl,Xn (by decide),Xn (by decide),Xn (by decide)]
        unfold IY;rw[hcs];rfl
      · have hl:op.fArgs.length=1:=by
                                            rw[h] at el;have:DV EH=1:=by decide
                                            omega
        have hcl:Dr (Af op.fArgs 0)=some (Af op.fArgs 0):=Ew (by have:=(hA.a _ (Wo (by omega))).hv;omega);rw[h,A3 (by decide),AI (by decide),hcs,AW rfl,Xr rfl];unfold HW;rw[AZ (by omega) (by omega),hcl];rfl
      · have hl:op.fArgs.length=1:=by
                                            rw[h] at el;have:DV L2=1:=by decide
                                            omega
        rw[h,A3 (by decide),A3 (by decide),AI (by decide),hcs,AW rfl,RR (by omega) hs hl (ev _ (Wo (by omega))) (by omega),Xn (by decide),Xr rfl];rfl
      · have hl:op.fArgs.length=2:=by
                                            rw[h] at el;have:DV Kc=2:=by decide
                                            omega
        have hcl:Dr (Af op.fArgs 1)=some (Af op.fArgs 1):=Ew (by have:=(hA.a _ (WF (by omega))).hv;omega);rw[h,A3 (by decide),A3 (by decide),A3 (by decide),BP (by decide),hcs,AW rfl,Xn (by decide),Xn (by decide),Xr rfl];unfold Kn;rw[AZ (by omega) (by omega),Vy (by omega) (by omega),AW rfl]
        by_cases hq:state=Af op.fArgs 0
        · rw[Xb hq,Xr hq,A3 (by rfl),AZ (by omega) (by omega),hcl];rfl
        · rw[Xa hq,Xn hq,AI (by rfl)];rfl
    · rw[AI (by simp[hs]),Xr hs]
  · rw[AI (by simp[he]),Xr he]
theorem OV {M F:Nat}{state:List Ac}{op:A6}(hS:JM M state)(hA:ML M op)(hM:M≤1000000)(hF:4*M+100<F)(hF2:op.fArgs.length<F):Nm F state op=some (It state op):=by
  have hsl:=hS.hv;unfold Nm It;rw[E0 hA hM (by omega) hF2,AW rfl]
  by_cases he:EU op=0
  · rw[AI (by simp[he]),Xn (by simp[he]),KK hS hM (by omega),AW rfl]
    by_cases hs:Gf state=0
    · rw[A3 (by simp[hs]),Xn (by simp[hs])]
      obtain⟨_,_,e0,el,ev⟩:=K3 he;unfold Sv;rcases IS e0 with h | h | h | h
      · rw[h,A3 (by decide),A3 (by decide),A3 (by decide),Xn (by decide),Xn (by decide),Xn (by decide)]
      · have hl:op.fArgs.length=1:=by
                                            rw[h] at el;have:DV EH=1:=by decide
                                            omega
        rw[h,AI (by decide),Xr rfl,AZ (by omega) (by omega)];rfl
      · have hl:op.fArgs.length=1:=by
                                            rw[h] at el;have:DV L2=1:=by decide
                                            omega
        rw[h,A3 (by decide),AI (by decide),Xn (by decide),Xr rfl,AZ (by omega) (by omega),RI (by omega) hs (ev _ (Wo (by omega)))];rfl
      · have hl:op.fArgs.length=2:=by
                                            rw[h] at el;have:DV Kc=2:=by decide
                                            omega
        rw[h,A3 (by decide),A3 (by decide),AI (by decide),Xn (by decide),Xn (by decide),Xr rfl,AZ (by omega) (by omega),IK (by omega) (by omega),AW rfl]
        by_cases hq:state=Af op.fArgs 0
        · rw[Xb hq,Xr hq,AI rfl,AZ (by omega) (by omega)];rfl
        · rw[Xa hq,Xn hq,A3 rfl];rfl
    · rw[AI (by simp[hs]),Xr hs]
  · rw[A3 (by simp[he]),AI (by simp[he]),Xr he]
theorem Pz:IB 30000=some true:=by decide +kernel
theorem Jw {F:Nat}{a:A8}(hF:a.fValue.length<F)(hv:a.fValue.length≤1000000):BD F a a=some true:=by
 unfold BD;rw[IK hF (by omega),Xb rfl,Xb rfl];rfl
theorem US {state:List Ac}{op:A6}{M:Nat}(hS:JM M state)(hA:ML M op)(hM:1≤M):(It state op).1.length≤M∧(It state op).2.1.fValue.length≤M:=by
  have hsl:=hS.hv;unfold It
  by_cases he:EU op≠0
  · rw[Xr he];exact⟨X5 _,X5 _⟩
  · rw[Xn he]
    by_cases hs:Gf state≠0
    · rw[Xr hs];exact⟨X5 _,X5 _⟩
    · rw[Xn hs]
      rw[Decidable.not_not] at he;obtain⟨_,_,e0,el,ev⟩:=K3 he;unfold Sv;rcases IS e0 with h | h | h | h
      · rw[h,Xn (by decide),Xn (by decide),Xn (by decide)];exact⟨hsl,hsl⟩
      · have hl:op.fArgs.length=1:=by
                                            rw[h] at el;have:DV EH=1:=by decide
                                            omega
        rw[h,Xr rfl];exact⟨(hA.a _ (Wo (by omega))).hv,hM⟩
      · rw[h,Xn (by decide),Xr rfl]
        unfold Ox
        split
        · exact⟨hsl,X5 _⟩
        · split
          · exact⟨hM,hM⟩
          · exact⟨hsl,X5 _⟩
      · have hl:op.fArgs.length=2:=by
                                            rw[h] at el;have:DV Kc=2:=by decide
                                            omega
        rw[h,Xn (by decide),Xn (by decide),Xr rfl]
        split
        · exact⟨(hA.a _ (WF (by omega))).hv,hM⟩
        · exact⟨hsl,hM⟩
theorem PO {α:Type}[DecidableEq α]:∀{a b:List α},a.length=b.length→((a.zip b).any λp=>!decide (p.1=p.2)) = !decide (a=b)
 | [],[],_=>rfl
 | x::a,y::b,h=>by
  have ih:=PO (a:=a) (b:=b) (by simpa using h);rw[List.zip_cons_cons,List.any_cons,ih]
  by_cases h1:x=y
  ·subst h1
   by_cases h2:a=b
   ·subst h2;simp
   ·simp[h2]
  ·simp[h1]
 | [],_::_,h=>by simp at h
 | _::_,[],h=>by simp at h
theorem No (a b:A6):a=b↔a.fEntity=b.fEntity∧a.fID=b.fID∧a.fOp=b.fOp∧a.fArgs=b.fArgs:=by
 cases a;cases b;simp
theorem Mc {M F:Nat}{a b:A6}(hA:ML M a)(hM:M≤1000000)(hF:M<F)(hF2:a.fArgs.length<F):BR F a b=some (decide (a=b)):=by
 unfold BR
 by_cases hc:a.fEntity=b.fEntity∧a.fID=b.fID∧a.fOp=b.fOp∧(a.fArgs.length:Int)=(b.fArgs.length:Int)
 ·rw[A3 (by simp[hc.1,hc.2.1,hc.2.2.1,hc.2.2.2])];have hl:a.fArgs.length=b.fArgs.length:=by have:=hc.2.2.2;omega
  have hn:=hA.n;rw[EL (l:=a.fArgs.zip b.fArgs) (bad:=λp=>!decide (p.1=p.2)) (u:=()) (by rw[List.length_zip];omega) (λi h=>by
   rw[List.length_zip] at h;unfold EW;have h1:i<a.fArgs.length:=by omega
   have h2:i<b.fArgs.length:=by omega
   rw[AI (Xb (by omega)),AZ (by omega) (by omega),AZ (by omega) (by omega),BS h1,BS h2,IK (by have:=(hA.a _ (List.getElem_mem h1)).hv;omega) (by have:=(hA.a _ (List.getElem_mem h1)).hv;omega),AW rfl,AP (by omega) (by omega),List.getElem_zip]) (by
   unfold EW;rw[List.length_zip,A3 (Xa (by omega))]),PO hl]
  have he:decide (a=b)=decide (a.fArgs=b.fArgs):=by
   rw[Xt,Xc,Xc,No];exact⟨λh=>h.2.2.2,λh=>⟨hc.1,hc.2.1,hc.2.2.1,h⟩⟩
  rw[he]
  cases decide (a.fArgs=b.fArgs)<;>rfl
 ·have he : ¬ a=b:=λe=>hc (by subst e;exact⟨rfl,rfl,rfl,rfl⟩);rw[AI (by
   simp only[X2,Xz,Xe]
   by_cases h1:a.fEntity=b.fEntity
   ·by_cases h2:a.fID=b.fID
    ·by_cases h3:a.fOp=b.fOp
     ·exact .inr (.inr (.inr λh4=>hc ⟨h1,h2,h3,h4⟩))
     ·exact .inr (.inr (.inl h3))
    ·exact .inr (.inl h2)
   ·exact .inl h1),Xa he]
theorem LZ:∀a:Aq,Ce a a=false
 | []=>rfl
 | x::a=>by
  show Op.bytesLess (x::a) (x::a)=false;have h : ¬ x<x:=λh=>absurd h (by simp);have ih:Op.bytesLess a a=false:=LZ a;simp[Op.bytesLess,h,ih]
theorem NN (x y:UInt8)(a b:Aq):Ce (x::a) (y::b)=(decide (x<y)||(decide (x=y)&&Ce a b)):=by
 show Op.bytesLess (x::a) (y::b)=_;simp only[Op.bytesLess]
 by_cases h:x<y
 ·simp[h]
 ·by_cases e:x=y
  ·subst e;simp[h]
  ·have:y<x:=by
    rcases Nat.lt_trichotomy x.toNat y.toNat with h1 | h1 | h1
    ·exact absurd (UInt8.lt_iff_toNat_lt.2 h1) h
    ·exact absurd (UInt8.toNat_inj.1 h1) e
    ·exact UInt8.lt_iff_toNat_lt.2 h1
   simp[h,e,this]
theorem LY:∀{a b c:Aq},Ce a b=true→Ce b c=true→Ce a c=true
 | [],[],_,h,_=>by cases h
 | [],_::_,[],_,h=>by cases h
 | [],_::_,_::_,_,_=>rfl
 | _::_,[],_,h,_=>by cases h
 | _::_,_::_,[],_,h=>by cases h
 | x::a,y::b,z::c,h,h'=>by
  rw[NN] at h h' ⊢;simp only[X2,Xc,Xf] at h h' ⊢;have t:∀{u v:UInt8},u<v↔u.toNat<v.toNat:=UInt8.lt_iff_toNat_lt;rcases h with h | ⟨rfl,h⟩
  ·rcases h' with h' | ⟨rfl,h'⟩
   ·exact .inl (t.2 (Nat.lt_trans (t.1 h) (t.1 h')))
   ·exact .inl h
  ·rcases h' with h' | ⟨rfl,h'⟩
   ·exact .inl h'
   ·exact .inr ⟨rfl,LY h h'⟩
theorem ON:∀(a b:Aq),Ce a b=true∨a=b∨Ce b a=true
 | [],[]=>.inr (.inl rfl)
 | [],_::_=>.inl rfl
 | _::_,[]=>.inr (.inr rfl)
 | x::a,y::b=>by
  rw[NN,NN];simp only[X2,Xc,Xf];rcases Nat.lt_trichotomy x.toNat y.toNat with h1 | h1 | h1
  ·exact .inl (.inl (UInt8.lt_iff_toNat_lt.2 h1))
  ·have e:=UInt8.toNat_inj.1 h1;subst e;rcases ON a b with h | rfl | h
   ·exact .inl (.inr ⟨rfl,h⟩)
   ·exact .inr (.inl rfl)
   ·exact .inr (.inr (.inr ⟨rfl,h⟩))
  ·exact .inr (.inr (.inl (UInt8.lt_iff_toNat_lt.2 h1)))
theorem VP {a b:Aq}(h:Ce a b=true):a≠b:=λe=>by subst e;rw[LZ] at h;cases h
section
variable {T : Type}
def Ms (xs:List (Aq×T)):Prop:=xs.Pairwise λp q=>Ce p.1 q.1=true
theorem Ms.nil:Ms ([]:List (Aq×T)):=List.Pairwise.nil
theorem Ms.nodup {xs:List (Aq×T)}(h:Ms xs):(xs.map (·.1)).Nodup:=by
 rw[List.Nodup,List.pairwise_map];exact h.imp λhpq=>VP hpq
theorem Ia {xs:List (Aq×T)}{k:Aq}:BA xs k=none↔∀p∈xs,p.1≠k:=by
 induction xs with
 | nil=>simp[BA]
 | cons p r ih=>
  rw[BA]
  by_cases h:p.1=k
  ·rw[Xb h];simp[h]
  ·rw[Xa h];simp[h,ih]
theorem Hn {xs:List (Aq×T)}{k:Aq}{v:T}(h:BA xs k=some v):(k,v)∈xs:=by
 induction xs with
 | nil=>cases h
 | cons p r ih=>
  rw[BA] at h
  by_cases e:p.1=k
  ·rw[Xb e] at h;cases h;subst e;exact List.mem_cons_self ..
  ·rw[Xa e] at h;exact List.mem_cons_of_mem _ (ih h)
theorem RX (xs:List (Aq×T))(k k':Aq)(v:T):BA (mput xs k v) k'=bif decide (k'=k) then(BA xs k).map (λ_=>v) else BA xs k':=by
 induction xs with
 | nil=>cases decide (k'=k)<;>rfl
 | cons p r ih=>
  show BA ((bif decide (p.1=k) then(k,v) else p)::mput r k v) k'=_
  by_cases h:p.1=k
  ·rw[Xb h];simp only[Xp,BA]
   by_cases e:k'=k
   ·subst e;rw[Xb rfl,h,Xb rfl];rfl
   ·rw[Xa (Ne.symm e),Xa e,ih,Xa e,h,Xa (Ne.symm e)];rfl
  ·rw[Xa h];simp only[Xl,BA];rw[ih]
   by_cases e:k'=k
   ·subst e;rw[Xb rfl,Xa h];rfl
   ·rw[Xa e]
    cases decide (p.1=k')<;>rfl
theorem RY (xs:List (Aq×T))(k k':Aq)(v:T)(h:BA xs k=none):BA (mins k v xs) k'=bif decide (k'=k) then some v else BA xs k':=by
 induction xs with
 | nil=>
  show(bif decide (k=k') then some v else none)=bif decide (k'=k) then some v else none
  by_cases e:k'=k
  ·rw[Xb e,Xb e.symm]
  ·rw[Xa e,Xa (Ne.symm e)]
 | cons p r ih=>
  rw[BA] at h
  by_cases hk:p.1=k
  ·rw[Xb hk] at h;cases h
  ·rw[Xa hk] at h;rw[mins]
   cases Ce k p.1 with
   | true=>
    simp only[Xp,BA]
    by_cases e:k'=k
    ·subst e;rw[Xb rfl]
     try rfl
    ·rw[Xa e,Xa (Ne.symm e)]
     try rfl
   | false=>
    simp only[Xl,BA];rw[ih h]
    by_cases e:k'=k
    ·subst e;rw[Xb rfl,Xa hk];rfl
    ·rw[Xa e]
     cases decide (p.1=k')<;>rfl
theorem HD (xs:List (Aq×T))(k k':Aq)(v:T):BA (mset xs k v) k'=bif decide (k'=k) then some v else BA xs k':=by
 unfold mset BB
 cases h:BA xs k with
 | none=>exact RY xs k k' v h
 | some w=>
  simp only[Option.isSome_some,Xp];rw[RX,h]
  cases decide (k'=k)<;>rfl
theorem Pt {k:Aq}{v:T}{q:Aq×T}:∀{xs:List (Aq×T)},q∈mins k v xs→q=(k,v)∨q∈xs
 | [],h=>by simp[mins] at h;exact .inl h
 | p::r,h=>by
  rw[mins] at h
  cases hs:Ce k p.1 with
  | true=>rw[hs] at h;simpa using h
  | false=>
   rw[hs] at h;rcases List.mem_cons.1 h with h | h
   ·exact .inr (by rw[h];exact List.mem_cons_self ..)
   ·rcases Pt h with h | h
    ·exact .inl h
    ·exact .inr (List.mem_cons_of_mem _ h)
theorem Ms.mins {k:Aq}{v:T}:∀{xs:List (Aq×T)},Ms xs→BA xs k=none→Ms (mins k v xs)
 | [],_,_=>List.pairwise_singleton ..
 | p::r,h,hk=>by
  obtain⟨h1,h2⟩:=List.pairwise_cons.1 h;rw[BA] at hk
  by_cases e:p.1=k
  ·rw[Xb e] at hk;cases hk
  ·rw[Xa e] at hk;rw[Proofs.YtfbmdidnlhifjaaGreatDoor.mins]
   cases hs:Ce k p.1 with
   | true=>exact List.pairwise_cons.2 ⟨λq hq=>by
     rcases List.mem_cons.1 hq with rfl | hq
     ·exact hs
     ·exact LY hs (h1 q hq),h⟩
   | false=>
    have hp:Ce p.1 k=true:=by
     rcases ON p.1 k with h | h | h
     ·exact h
     ·exact absurd h e
     ·rw[h] at hs;cases hs
    exact List.pairwise_cons.2 ⟨λq hq=>by
     rcases Pt hq with rfl | hq
     ·exact hp
     ·exact h1 q hq,Ms.mins h2 hk⟩
theorem Ms.mput {xs:List (Aq×T)}(h:Ms xs)(k:Aq)(v:T):Ms (mput xs k v):=by
 unfold Proofs.YtfbmdidnlhifjaaGreatDoor.mput;unfold Ms;rw[List.pairwise_map];refine h.imp fun {p q} hpq=>?_;have e:∀p:Aq×T,(bif decide (p.1=k) then(k,v) else p).1=p.1:=λp=>by
  by_cases hp:p.1=k
  ·rw[Xb hp];exact hp.symm
  ·rw[Xa hp];rfl
 rw[e,e];exact hpq
theorem Ms.mset {xs:List (Aq×T)}(h:Ms xs)(k:Aq)(v:T):Ms (mset xs k v):=by
 unfold Proofs.YtfbmdidnlhifjaaGreatDoor.mset BB
 cases hk:BA xs k with
 | none=>exact h.mins hk
 | some w=>exact h.mput k v
theorem Ms.ext:∀{xs ys:List (Aq×T)},Ms xs→Ms ys→(∀k,BA xs k=BA ys k)→xs=ys
 | [],[],_,_,_=>rfl
 | [],q::s,_,_,h=>by
  have:=h q.1;rw[BA,BA,Xb rfl] at this;cases this
 | p::r,[],_,_,h=>by
  have:=h p.1;rw[BA,BA,Xb rfl] at this;cases this
 | p::r,q::s,hx,hy,h=>by
  obtain⟨x1,x2⟩:=List.pairwise_cons.1 hx;obtain⟨y1,y2⟩:=List.pairwise_cons.1 hy;have hpq:p.1=q.1:=by
   have a1:=h p.1;have a2:=h q.1;rw[BA,Xb rfl] at a1;rw[show BA (q::s) q.1=bif decide (q.1=q.1) then some q.2 else BA s q.1 from rfl,Xb rfl] at a2;simp only[Xp] at a1 a2;have m1:=Hn a1.symm;have m2:=Hn a2;rcases List.mem_cons.1 m1 with e | m1
   ·exact congrArg Prod.fst e
   ·rcases List.mem_cons.1 m2 with e | m2
    ·exact(congrArg Prod.fst e).symm
    ·have c1:=y1 _ m1;have c2:=x1 _ m2;have:=LY c1 c2;rw[LZ] at this;cases this
  have e:p=q:=by
   have a1:=h p.1;rw[BA,Xb rfl,BA,Xb hpq.symm] at a1;simp only[Xp,Option.some.injEq] at a1;exact Prod.ext hpq a1
  subst e;rw[Ms.ext x2 y2 λk=>by
   have a1:=h k;rw[BA,BA] at a1
   by_cases e:p.1=k
   ·have n1:BA r k=none:=Ia.2 λz hz e'=>by have:=x1 z hz;rw[e',← e,LZ] at this;cases this
    have n2:BA s k=none:=Ia.2 λz hz e'=>by have:=y1 z hz;rw[e',← e,LZ] at this;cases this
    rw[n1,n2]
   ·rw[Xa e] at a1;exact a1]
theorem Pq (k:Aq)(v:T)(xs:List (Aq×T)):(mins k v xs).length=xs.length+1:=(KV k v xs).length_eq
theorem Lr (xs:List (Aq×T))(k:Aq)(v:T):(mset xs k v).length=bif BB xs k then xs.length else xs.length+1:=by
 unfold mset
 cases BB xs k with
 | true=>simp[mput]
 | false=>simp[Pq]
end
theorem UG {α β S O:Type}{l:List α}{mk:Nat→β→S}{body:S→Option (Stp S O)}(g:β→α→β)(P:Nat→β→Prop)
  (hb:∀(i:Nat) (h:i<l.length) (acc:β),P i acc→body (mk i acc)=some (.next (mk (i+1) (g acc l[i])))∧P (i+1) (g acc l[i])) :
  ∀(d i:Nat) (acc:β),i+d=l.length→P i acc→(∀n,BW body (n+d) (mk i acc)=BW body n (mk l.length ((l.drop i).foldl g acc)))∧P l.length ((l.drop i).foldl g acc):=by
 intro d
 induction d with
 | zero=>
  intro i acc h hP;obtain rfl:i=l.length:=by omega
  rw[List.drop_length];exact⟨λn=>rfl,hP⟩
 | succ d ih=>
  intro i acc h hP;have hi:i<l.length:=by omega
  obtain⟨h1,h2⟩:=hb i hi acc hP;obtain⟨h3,h4⟩:=ih (i+1) _ (by omega) h2;rw[List.drop_eq_getElem_cons hi,List.foldl_cons];refine⟨λn=>?_,h4⟩;rw[show n+(d+1)=(n+d)+1 from by omega,BW,h1];exact h3 n
theorem Mr {α β S O:Type}{l:List α}{mk:Nat→β→S}{body:S→Option (Stp S O)}(g:β→α→β)(P:Nat→β→Prop)
  (hb:∀(i:Nat) (h:i<l.length) (acc:β),P i acc→body (mk i acc)=some (.next (mk (i+1) (g acc l[i])))∧P (i+1) (g acc l[i])) {F:Nat} (hF:l.length<F) {a:β} (hP:P 0 a) :
  (∃n,BW body F (mk 0 a)=BW body (n+1) (mk l.length (l.foldl g a)))∧P l.length (l.foldl g a):=by
 obtain⟨h1,h2⟩:=UG g P hb l.length 0 a (by omega) hP;rw[List.drop_zero] at h1 h2;exact⟨⟨F-l.length-1,by rw[← h1,show F-l.length-1+1+l.length=F from by omega]⟩,h2⟩
theorem G3 {α β S O:Type}{l:List α}{mk:Nat→β→S}{body:S→Option (Stp S O)}{fin:β→O}(g:β→α→β)(P:Nat→β→Prop)
  (hb:∀(i:Nat) (h:i<l.length) (acc:β),P i acc→body (mk i acc)=some (.next (mk (i+1) (g acc l[i])))∧P (i+1) (g acc l[i]))
  (he:∀acc,P l.length acc→body (mk l.length acc)=some (.out (fin acc))) {F:Nat} (hF:l.length<F) {a:β} (hP:P 0 a) :
  BW body F (mk 0 a)=some (fin (l.foldl g a))∧P l.length (l.foldl g a):=by
 obtain⟨⟨n,h1⟩,h2⟩:=Mr g P hb hF hP;exact⟨by rw[h1,BW,he _ h2],h2⟩
theorem T0 {α R U:Type}{l:List α}{p:α→Bool}{ret:α→R}{body:Int→Option (Stp Int (Out R U))}{u:U}(hb:∀(i:Nat) (h:i<l.length),body (i:Int)=Bq (p l[i]) (some (.out (.ret (ret l[i])))) (some (.next ((i:Int)+1))))(he:body (l.length:Int)=some (.out (.go u))) :
  ∀(d n i:Nat),i+d=l.length→d<n→BW body n (i:Int)=some (match (l.drop i).find? p with | some x=>.ret (ret x) | none=>.go u):=by
 intro d
 induction d with
 | zero=>
  intro n i h hn;obtain⟨n,rfl⟩:∃m,n=m+1:=⟨n-1,by omega⟩
  obtain rfl:i=l.length:=by omega
  rw[BW,he,List.drop_length];rfl
 | succ d ih=>
  intro n i h hn;obtain⟨n,rfl⟩:∃m,n=m+1:=⟨n-1,by omega⟩
  have hi:i<l.length:=by omega
  rw[BW,hb i hi,List.drop_eq_getElem_cons hi,List.find?_cons]
  cases hp:p l[i] with
  | true=>rfl
  | false=>exact ih n (i+1) (by omega) (by omega)
theorem Nw {α R U:Type}{l:List α}{p:α→Bool}{ret:α→R}{body:Int→Option (Stp Int (Out R U))}{u:U}{F:Nat}(hF:l.length<F)(hb:∀(i:Nat) (h:i<l.length),body (i:Int)=Bq (p l[i]) (some (.out (.ret (ret l[i])))) (some (.next ((i:Int)+1))))(he:body (l.length:Int)=some (.out (.go u))) :
  BW body F 0=some (match l.find? p with | some x=>.ret (ret x) | none=>.go u):=by
 have h:=T0 hb he l.length F 0 (by omega) hF;rw[List.drop_zero] at h;exact h
theorem M4 {α:Type}:∀(l a:List α),l.foldl (λa v=>a++[v]) a=a++l
 | [],a=>by simp
 | x::l,a=>by rw[List.foldl_cons,M4 l];simp
theorem ID {α β:Type}(p:α→Bool)(f:α→β):∀(l:List α) (a:List β),l.foldl (λa v=>bif p v then a++[f v] else a) a=a++(l.filter p).map f
 | [],a=>by simp
 | x::l,a=>by
  rw[List.foldl_cons,ID p f l,List.filter_cons]
  cases p x<;>simp
theorem N9 {α:Type}{n:Nat}{x:Option α}(h:n≤1000000000):Br (L4 8 n) x=x:=BP (Xb (by omega))
theorem Hi {α:Type}{n:Nat}{x:Option α}(h:n≤1000000000):Br (L4 120 n) x=x:=BP (Xb (by omega))
theorem KS {M F:Nat}{op:A6}(hA:ML M op)(hM:M≤1000000)(hF:op.fArgs.length<F):JA F op=some op:=by
 have hn:=hA.n;unfold JA;have h:=(G3 (O:=Out A6 (List (List Ac))) (l:=op.fArgs) (mk:=λi (acc:List (List Ac))=>((i:Int),acc)) (body:=λσ=>E5 op σ.1 σ.2) (fin:=λacc=>.go acc) (λacc v=>acc++[v]) (λi acc=>acc.length=i) (λi h acc hP=>by
  refine⟨?_,by simp[hP]⟩;unfold E5;simp only;rw[AI (Xb (by omega)),AZ (by omega) (by omega),BS h,Ew (by have:=(hA.a _ (List.getElem_mem h)).hv;omega),AW rfl,QA (by simp;omega),AP (by omega) (by omega)];rfl) (λacc hP=>by unfold E5;simp only;rw[A3 (Xa (by omega))]) hF (a:=[]) rfl).1
 have h':BW (λσ=>E5 op σ.1 σ.2) F (0,([]:List (List Ac)))=_:=h;rw[h',AW rfl,Dc,M4,XI];rfl
theorem Qx {M F:Nat}{c:Al}(hA:ML M c.fOp)(hM:M≤1000000)(hF:c.fOp.fArgs.length<F)(hv:c.fAnswer.fValue.length≤1000000):EK F c=some c:=by
 unfold EK;rw[KS hA hM hF,AW rfl,Ew hv,AW rfl]
theorem Sn {M F:Nat}{a b:List (List Ac)}(hA:∀v∈a,JM M v)(hM:M≤1000000)(hF:M<F)(hn:a.length≤1000000)(hF2:a.length<F):IE F a b=some (decide (a=b)):=by
 unfold IE
 by_cases hl:a.length=b.length
 ·rw[A3 (by simp[hl]),EL (l:=a.zip b) (bad:=λp=>!decide (p.1=p.2)) (u:=()) (by rw[List.length_zip];omega) (λi h=>by
   rw[List.length_zip] at h;unfold GK Og;have h1:i<a.length:=by omega
   have h2:i<b.length:=by omega
   rw[AI (Xb (by omega)),AZ (by omega) (by omega),AZ (by omega) (by omega),BS h1,BS h2,Iv (by have:=(hA _ (List.getElem_mem h1)).hv;omega) (by have:=(hA _ (List.getElem_mem h1)).hv;omega),AW rfl,AW rfl,AP (by omega) (by omega),List.getElem_zip]) (by
   unfold GK;rw[List.length_zip,A3 (Xa (by omega))]),PO hl]
  cases decide (a=b)<;>rfl
 ·rw[AI (by simp;omega),Xa (λe=>hl (by rw[e]))]
theorem Pn {M F:Nat}{a b:A6}(hA:ML M a)(hM:M≤1000000)(hF:M<F)(hF2:a.fArgs.length<F):Po F a b=some (decide (a=b)):=by
 unfold Po;rw[Sn hA.a hM hF hA.n hF2,Option.isSome_some,Kx,Kx,Kx,BP rfl,IR]
 congr 1
 rw[Xt,Xc,No];simp only[Xf,Xc]
theorem MD {α:Type}(l:List α):(l.any λ_=>false)=false:=by induction l<;>simp_all
theorem Lt {F:Nat}{a:List Aq}(hF:a.length<F)(hn:a.length≤1000000):Ev F a a=some true:=by
 unfold Ev;rw[A3 (by simp),EL (l:=a) (bad:=λ_=>false) (u:=()) hF (λi h=>by
  unfold GG;rw[AI (Xb (by omega)),AZ (by omega) (by omega),AZ (by omega) (by omega),A3 (by simp),AP (by omega) (by omega)];rfl) (by
  unfold GG;rw[A3 (Xa (by omega))]),MD]
 rfl
theorem Lu {M F:Nat}{a:List Al}(hF:a.length<F)(hn:a.length≤1000000)(hM:M≤1000000)(hF1:M<F)(hA:∀c∈a,ML M c.fOp∧c.fOp.fArgs.length<F∧c.fAnswer.fValue.length≤M):EM F a a=some true:=by
 unfold EM;rw[A3 (by simp),EL (l:=a) (bad:=λ_=>false) (u:=()) hF (λi h=>by
  obtain⟨h1,h2,h3⟩:=hA _ (List.getElem_mem h);unfold GJ;rw[AI (Xb (by omega)),AZ (by omega) (by omega),AZ (by omega) (by omega),BS h,Mc h1 hM hF1 h2,Jw (by omega) (by omega),Xb rfl,Xb rfl,Xb rfl,Option.isSome_some,Kx,BP rfl,BP rfl,IR,A3 rfl,AP (by omega) (by omega)];rfl) (by
  unfold GJ;rw[A3 (Xa (by omega))]),MD]
 rfl
theorem J1 (a:Aq) : ¬ a<a:=List.lt_irrefl a
theorem Nf {a b c:Aq}(h:a<b)(h2:b<c):a<c:=List.lt_trans h h2
theorem R5 {a b:Aq}(h:a<b) : ¬ b<a:=λh2=>J1 a (Nf h h2)
theorem Uw (a b:Aq):a<b∨a=b∨b<a:=by
 by_cases h:a<b
 ·exact .inl h
 ·by_cases h2:b<a
  ·exact .inr (.inr h2)
  ·have e1:a≤b:=h2;have e2:b≤a:=h;exact .inr (.inl (List.le_antisymm e1 e2))
theorem Lk:∀(a b:List Aq),a.Pairwise (· < ·)→b.Pairwise (· < ·)→(∀x,x∈a↔x∈b)→a=b
 | [],[],_,_,_=>rfl
 | [],y::b,_,_,h=>by have:=(h y).2 (by simp);simp at this
 | x::a,[],_,_,h=>by have:=(h x).1 (by simp);simp at this
 | x::a,y::b,ha,hb,h=>by
  have ha':=List.pairwise_cons.1 ha;have hb':=List.pairwise_cons.1 hb;have e:x=y:=by
   rcases List.mem_cons.1 ((h x).1 (by simp)) with e | hx
   ·exact e
   ·rcases List.mem_cons.1 ((h y).2 (by simp)) with e | hy
    ·exact e.symm
    ·exact absurd (ha'.1 y hy) (R5 (hb'.1 x hx))
  subst e;have:a=b:=Lk a b ha'.2 hb'.2 λz=>by
   constructor
   ·intro hz;rcases List.mem_cons.1 ((h z).1 (by simp[hz])) with e | hz2
    ·subst e;exact absurd (ha'.1 _ hz) (J1 _)
    ·exact hz2
   ·intro hz;rcases List.mem_cons.1 ((h z).2 (by simp[hz])) with e | hz2
    ·subst e;exact absurd (hb'.1 _ hz) (J1 _)
    ·exact hz2
  rw[this]
def BC:List Aq→Aq→Nat
 | [],_=>0
 | y::r,x=>if y<x then BC r x+1 else 0
theorem Jj:∀(o:List Aq) (x:Aq),BC o x≤o.length
 | [],_=>Xq _
 | y::r,x=>by have:=Jj r x;unfold BC;split<;>simp;omega
def MT (o:List Aq)(x:Aq):List Aq:=if BC o x=o.length∨MJ o (BC o x)≠x then o.take (BC o x)++[x]++o.drop (BC o x) else o
def Iw (l:List Aq)(k:Nat):List Aq:=(l.take k).foldl MT []
theorem N1:∀(o:List Aq) (x:Aq),∀y∈o.take (BC o x),y<x
 | [],x,y,h=>by simp at h
 | z::r,x,y,h=>by
  unfold BC at h
  split at h
  ·rename_i hz
   rcases List.mem_cons.1 (by simpa using h) with rfl | h
   ·exact hz
   ·exact N1 r x y h
  ·simp at h
theorem N2:∀(o:List Aq) (x:Aq),BC o x<o.length→¬ MJ o (BC o x)<x
 | [],x,h=>by simp[BC] at h
 | z::r,x,h=>by
  unfold BC at h ⊢
  by_cases hz:z<x
  ·rw[Xr hz] at h ⊢;have:=N2 r x (by simpa using h);have e:MJ (z::r) ((BC r x+1:Nat):Int)=MJ r (BC r x):=by simp[MJ]
   rw[e];exact this
  ·rw[Xn hz];simpa[MJ] using hz
theorem Q1 {o:List Aq}(h:o.Pairwise (· < ·))(x:Aq):(MT o x).Pairwise (· < ·)∧∀z,z∈MT o x↔z∈o∨z=x:=by
 unfold MT
 by_cases hc:BC o x=o.length∨MJ o (BC o x)≠x
 ·rw[Xr hc];have hsplit:o=o.take (BC o x)++o.drop (BC o x):=(List.take_append_drop _ _).symm;have hp:=h;rw[hsplit] at hp;obtain⟨p1,p2,p3⟩:=List.pairwise_append.1 hp;have hgt:∀y∈o.drop (BC o x),x<y:=λy hy=>by
   have hlt:BC o x<o.length:=by
    rcases Nat.lt_or_ge (BC o x) o.length with h' | h'
    ·exact h'
    ·rw[List.drop_of_length_le h'] at hy;simp at hy
   have hne:MJ o (BC o x)≠x:=hc.resolve_left (by omega);have hge:=N2 o x hlt;have hx:x<MJ o (BC o x):=by
    rcases Uw x (MJ o (BC o x)) with e | e | e
    ·exact e
    ·exact absurd e.symm hne
    ·exact absurd e hge
   rw[List.drop_eq_getElem_cons hlt] at hy p2;have e0:o[BC o x]=MJ o (BC o x):=by simp[MJ,hlt]
   rcases List.mem_cons.1 hy with rfl | hy
   ·rw[e0];exact hx
   ·exact Nf hx (by rw[← e0];exact(List.pairwise_cons.1 p2).1 y hy)
  refine⟨?_,λz=>?_⟩
  ·rw[Xw];refine List.pairwise_append.2 ⟨p1,List.pairwise_cons.2 ⟨hgt,p2⟩,λa ha b hb=>?_⟩;rcases List.mem_cons.1 hb with rfl | hb
   ·exact N1 o _ a ha
   ·exact p3 a ha b hb
  ·conv=>rhs;rw[hsplit]
   simp only[List.mem_append,Xu];constructor
   ·rintro((h | h) | h)
    ·exact .inl (.inl h)
    ·exact .inr h
    ·exact .inl (.inr h)
   ·rintro((h | h) | h)
    ·exact .inl (.inl h)
    ·exact .inr h
    ·exact .inl (.inr h)
 ·rw[Xn hc];simp only[not_or,ne_eq,Decidable.not_not] at hc;refine⟨h,λz=>⟨.inl,?_⟩⟩;rintro(hz | rfl)
  ·exact hz
  ·have hlt:BC o z<o.length:=by have:=Jj o z;omega
   have e0:o[BC o z]=MJ o (BC o z):=by simp[MJ,hlt]
   have e1:o[BC o z]=z:=e0.trans hc.2;have:=List.getElem_mem hlt
   rwa [e1] at this
theorem Jq {ss:List (List UInt8)}{k:Nat}(h:k<ss.length):ss.take (k+1)=ss.take k++[MJ ss k]:=by
 rw[List.take_add_one,show ss[k]? =some (MJ ss k) from by simp[MJ,h]];rfl
theorem OQ {l:List Aq}{k:Nat}(h:k<l.length):Iw l (k+1)=MT (Iw l k) (MJ l k):=by
 unfold Iw;rw[Jq h,List.foldl_append];rfl
theorem J3 (l:List Aq):∀k,k≤l.length→(Iw l k).Pairwise (· < ·)∧(∀z,z∈Iw l k↔z∈l.take k)∧(Iw l k).length≤k
 | 0,_=>by simp[Iw]
 | k+1,hk=>by
  obtain⟨h1,h2,h3⟩:=J3 l k (by omega);have hi:=Q1 h1 (MJ l k);rw[OQ (by omega)];refine⟨hi.1,λz=>?_,?_⟩
  ·rw[hi.2,h2,Jq (by omega),List.mem_append,Xu]
  ·unfold MT
   split
   ·simp;have:=Jj (Iw l k) (MJ l k);omega
   ·omega
theorem Qb (a b:Aq):Ce a b=decide (a<b):=bytesLess_eq a b
theorem Va {α:Type}[Inhabited α]{l:List α}{x:Int}(h0:0≤x)(h:x<(l.length:Int)):l[x.toNat]? =some (Af l x):=by
 have hx:x.toNat<l.length:=by omega
 simp[Af,hx]
theorem PY {α:Type}{l:List α}{k:Nat}{c:α}(h:l[k]? =some c):l.take (k+1)=l.take k++[c]:=by
 rw[List.take_add_one,h];rfl
theorem M5:∀(o:List Aq) (c:Aq) (k:Nat),(∀y∈o.take k,y<c)→(∀z,o[k]? =some z→¬ z<c)→k≤o.length→BC o c=k
 | [],c,k,_,_,h=>by simp at h;subst h;rfl
 | y::r,c,0,_,h2,_=>by
  unfold BC;rw[Xn (h2 y rfl)]
 | y::r,c,k+1,h1,h2,h3=>by
  unfold BC;rw[Xr (h1 y (by simp)),M5 r c k (λz hz=>h1 z (by simp[hz])) (λz hz=>h2 z (by simpa using hz)) (by simpa using h3)]
theorem TF {F:Nat}{l o:List Aq}{x:Int}(h0:0≤x)(hx:x<(l.length:Int))(hF:o.length<F)(ho:o.length≤100000):∃b,BW (λσ=>DU l o x σ) F 0=some (.go ((BC o (Af l x):Int),b)):=by
 obtain⟨q,h1,b,h2⟩:=Gi (body:=λσ=>DU l o x σ) (λk=>0≤k∧k≤(o.length:Int)∧∀y∈o.take k.toNat,y<Af l x) (λk=>o.length-k.toNat) (λq=>∃b,q = .go ((BC o (Af l x):Int),b)) (λk ⟨g0,gk,ga⟩=>by
  unfold DU
  by_cases hlt:k<(o.length:Int)
  ·have hg:=Va g0 hlt;rw[Xb hlt,BP (by show imp true _=true;simp only[imp];rw[MU g0 hlt];rfl),BP (by show imp true _=true;simp only[imp];rw[MU h0 hx];rfl),X7]
   cases hs:Ce (Af o k) (Af l x) with
   | true=>
    have hs':Af o k<Af l x:=by rw[Qb] at hs;exact XE hs
    refine .inl ⟨k+1,by rw[AI rfl,AP (by omega) (by omega)],⟨by omega,by omega,λy hy=>?_⟩,by omega⟩;rw[show(k+1).toNat=k.toNat+1 from by omega,PY hg] at hy;rcases List.mem_append.1 hy with hy | hy
    ·exact ga y hy
    ·rw[List.mem_singleton.1 hy];exact hs'
   | false=>
    have hs' : ¬ Af o k<Af l x:=by rw[Qb] at hs;exact of_decide_eq_false hs
    refine .inr ⟨_,A3 rfl,false,?_⟩;rw[M5 o (Af l x) k.toNat ga (λz hz=>by rw[hg] at hz;rw[← Option.some.inj hz];exact hs') (by omega),show((k.toNat:Nat):Int)=k from by omega]
  ·rw[Xa hlt,BP (by rfl),BP (by rfl),XH];refine .inr ⟨_,A3 rfl,false,?_⟩;rw[M5 o (Af l x) k.toNat ga (λz hz=>by rw[List.getElem?_eq_none (by omega)] at hz;cases hz) (by omega),show((k.toNat:Nat):Int)=k from by omega]) F 0 ⟨Xx 0,by omega,by simp⟩ (by show o.length-0<F;omega)
 exact⟨b,by rw[h1,h2]⟩
theorem TE {l o:List Aq}{x:Int}(h0:0≤x)(hx:x<(l.length:Int))(hx2:x<100000)(ho:o.length≤100000)(b:Bool):EA l o x (BC o (Af l x):Int) b=some (.next (MT o (Af l x),x+1)):=by
 have hf:=Jj o (Af l x);unfold EA MT EB;generalize Af l x=c at *
 by_cases he:BC o c=o.length
 ·have e1:decide (((BC o c:Nat):Int)=(o.length:Int))=true:=Xb (by omega);rw[e1,BP (by rfl),BP (by rfl),AI (by rfl),Xr (.inl he)];rw[Id (by omega) (by omega),Dz (by simp;omega),AZ h0 hx,Dz (by simp;omega),Dz (by simp;omega),AP (by omega) (by omega),XK];rfl
 ·have e1:decide (((BC o c:Nat):Int)=(o.length:Int))=false:=Xa (by omega);have e2:Af o ((BC o c:Nat):Int)=MJ o ((BC o c:Nat):Int):=rfl;rw[e1,BP (by show imp true _=true;simp only[imp];rw[MU (by omega) (by omega)];rfl),BP (by show imp true _=true;simp only[imp];rw[MU h0 hx];rfl),e2,X4]
  by_cases hq:MJ o ((BC o c:Nat):Int)=c
  ·rw[Xn (by rintro(h | h);exact he h;exact h hq),A3 (by rw[Xb hq];rfl),AP (by omega) (by omega)]
  ·rw[Xr (.inr hq),AI (by rw[Xa hq];rfl)];rw[Id (by omega) (by omega),Dz (by simp;omega),AZ h0 hx,Dz (by simp;omega),Dz (by simp;omega),AP (by omega) (by omega),XK];rfl
theorem P2 {F:Nat}{l:List Aq}(hl:l.length≤2000)(hF:2000<F):IC F l=some (Iw l l.length):=by
 unfold IC;obtain⟨o,h1,h2⟩:=Gi (body:=λσ:List Aq×Int=>EC F l σ.1 σ.2) (λσ=>0≤σ.2∧σ.2≤(l.length:Int)∧σ.1=Iw l σ.2.toNat) (λσ=>l.length-σ.2.toNat) (λq=>q = .go (Iw l l.length)) (λ⟨o,x⟩ ⟨h0,hx,ho⟩=>by
  dsimp only at h0 hx ho ⊢;subst ho;unfold EC
  by_cases hlt:x<(l.length:Int)
  ·have hlen:=(J3 l x.toNat (by omega)).2.2;obtain⟨b,hb⟩:=TF (F:=F) h0 hlt (o:=Iw l x.toNat) (by omega) (by omega);refine .inl ⟨(MT (Iw l x.toNat) (Af l x),x+1),?_,⟨by show 0≤x+1;omega,by show x+1≤_;omega,?_⟩,by show l.length-(x+1).toNat<l.length-x.toNat;omega⟩
   ·rw[AI (Xb hlt),AW hb,Dc];exact TE h0 hlt (by omega) (by omega) b
   ·show MT (Iw l x.toNat) (Af l x)=Iw l (x+1).toNat;rw[show(x+1).toNat=x.toNat+1 from by omega,OQ (by omega)];rw[show((x.toNat:Nat):Int)=x from by omega];rfl
  ·refine .inr ⟨_,A3 (Xa hlt),?_⟩;rw[show x.toNat=l.length from by omega]) F ([],0) ⟨Xx 0,by show(0:Int)≤_;omega,by simp[Iw]⟩ (by show l.length-0<F;omega)
 subst h2;rw[AW h1,Dc];rfl
theorem TI {F:Nat}{l:List Aq}{s:Aq}(hF:l.length<F)(hn:l.length≤1000000):P4 F l s=some (decide (s∈l)):=by
 unfold P4;rw[Nw (l:=l) (p:=λx=>decide (x=s)) (ret:=λ_=>true) (u:=()) hF (λi h=>by
  unfold HE;rw[AI (Xb (by omega)),AZ (by omega) (by omega),BS h,AP (by omega) (by omega)]) (by unfold HE;rw[A3 (Xa (by omega))])]
 cases hf:l.find? (λx=>decide (x=s)) with
 | some x=>
  have h1:=List.find?_some hf;have h2:=List.mem_of_find?_eq_some hf;rw[Xb (by rw[← XE h1];exact h2)];rfl
 | none=>
  have h1:=List.find?_eq_none.1 hf;rw[Xa (λhm=>h1 s hm (Xb rfl))];rfl
def CM (cs:List Al)(e:Aq):List Al:=cs.filter λc=>decide (c.fOp.fEntity=e)
def Sq (c:Al):Bool:=decide (0≤c.fTo)
def Ej (s:List Ac)(l:List Al):List Ac:=l.foldl (λs c=>(It s c.fOp).1) s
def PL (cs:List Al)(e:Aq):List Ac:=Ej C8 ((CM cs e).filter Sq)
def Vx (cs:List Al)(e:Aq):List Aq:=((CM cs e).filter λc=>decide (c.fTo<0)).map λc=>c.fOp.fID
def Vc (cs:List Al)(id:Aq):A8×Bool:=match cs.find? (λc=>decide (c.fOp.fID=id)&&decide (0≤c.fTo)) with
 | some c=>(c.fAnswer,true)
 | none=>(⟨0,[]⟩,false)
structure S5 (c:Al):Prop where
 op:ML 250 c.fOp
 ne:c.fOp.fArgs.length≤4
 er:EU c.fOp=0
 an:c.fAnswer.fValue.length≤250
 to:c.fTo = -1∨0≤c.fTo
def GS (s:List Ac):Prop:=JM 250 s∧Gf s=0
theorem TS {c:Ac}(h1:c.fStr.length≤250)(h2:Cj .i64 c.fInt=true)(h3:c.fN≤9223372036854775807):JM 250 [c]:=⟨by decide,(by show 1≤250;decide),λx hx=>by rw[List.mem_singleton.1 hx];exact⟨h1,h2,h3⟩⟩
theorem TK:GS C8:=⟨TS (by decide) (by decide) (by decide),by decide +kernel⟩
theorem Vd (s n:List Ac):(Ox s n).1=s∨∃k,ET k=true∧(Ox s n).1=[Gr k]:=by
 unfold Ox
 split
 ·exact .inl rfl
 ·split
  ·rename_i h;exact .inr ⟨_,h,rfl⟩
  ·exact .inl rfl
theorem Rg {s:List Ac}{op:A6}(h:GS s)(hA:ML 250 op)(he:EU op=0):GS (It s op).1∧(It s op).2.2=0∧(It s op).2.1.fValue.length≤250:=by
  have hl:=US h.1 hA (by decide);refine⟨?_,?_,hl.2⟩
  · unfold It
    rw[Xn (λx=>x he),Xn (λx=>x h.2)];obtain⟨_,_,e0,el,ev⟩:=K3 he;unfold Sv;have ha:∀v∈op.fArgs,GS v:=λv hv=>⟨hA.a v hv,ev v hv⟩
    rcases IS e0 with h1 | h1 | h1 | h1
    · rw[h1,Xn (by decide),Xn (by decide),Xn (by decide)];exact h
    · have hl:op.fArgs.length=1:=by
                                          rw[h1] at el;have:DV EH=1:=by decide
                                          omega
      rw[h1,Xr rfl];exact ha _ (Wo (by omega))
    · rw[h1,Xn (by decide),Xr rfl]
      rcases Vd s (Af op.fArgs 0) with h2 | ⟨k,h2,h3⟩
      · rw[h2];exact h
      · rw[h3]
        have h4:=h2;unfold ET at h4;simp only[Xf,Xc] at h4;refine⟨TS (X5 _) (Kw (by show _≤k;omega) (by show k≤_;omega)) (by show(0:Int)≤_;omega),?_⟩;rw[PA (by omega) (by omega),Xr h2]
    · have hl:op.fArgs.length=2:=by
                                          rw[h1] at el;have:DV Kc=2:=by decide
                                          omega
      rw[h1,Xn (by decide),Xn (by decide),Xr rfl]
      split
      · exact ha _ (WF (by omega))
      · exact h
  · unfold It
    rw[Xn (λx=>x he),Xn (λx=>x h.2)]
theorem TJ:∀{l:List Al} {s:List Ac},GS s→(∀c∈l,S5 c)→GS (Ej s l)
 | [],s,h,_=>h
 | c::l,s,h,hl=>TJ (l:=l) (Rg h (hl c List.mem_cons_self).op (hl c List.mem_cons_self).er).1 (λx hx=>hl x (List.mem_cons_of_mem _ hx))
theorem Oa {cs:List Al}{e:Aq}{c:Al}(h:c∈CM cs e):c∈cs∧c.fOp.fEntity=e:=by
 obtain⟨h1,h2⟩:=List.mem_filter.1 h;exact⟨h1,XE h2⟩
theorem Rf {cs:List Al}(h:∀c∈cs,S5 c)(e:Aq):GS (PL cs e):=TJ TK λc hc=>h c (Oa (List.mem_filter.1 hc).1).1
theorem HR (A B:List Al)(e:Aq):CM (A++B) e=CM A e++CM B e:=List.filter_append ..
theorem DP (c:Al)(B:List Al)(e:Aq):CM (c::B) e=if c.fOp.fEntity=e then c::CM B e else CM B e:=by
 unfold CM;rw[List.filter_cons]
 by_cases h:c.fOp.fEntity=e<;>simp[h]
theorem ME {α:Type}(l:List α)(p q:α→Bool):(l.filter p).filter q=l.filter λa=>p a&&q a:=by
 rw[List.filter_filter];congr 1;funext a;exact Bool.and_comm _ _
theorem P6 {α β:Type}(p:α→Bool)(f:β→α→β):∀(l:List α) (a:β),l.foldl (λa x=>bif p x then f a x else a) a=(l.filter p).foldl f a
 | [],a=>rfl
 | x::l,a=>by
  rw[List.foldl_cons,P6 p f l,List.filter_cons]
  cases p x<;>rfl
def WH (cs:List Al)(i:Nat)(r:List Aq):Prop:=r.Pairwise (· < ·)∧(∀x,x∈r↔x∈(cs.take i).map λc=>c.fOp.fEntity)∧r.length≤i
section
variable {F : Nat} {t : Int} {cs : List Al} (hF : 30000 ≤ F) (hn : cs.length ≤ 1000) (hok : ∀ c ∈ cs, S5 c)
include hF hn hok
theorem J6 (e:Aq):G1 F ⟨t,cs⟩ e=some (PL cs e):=by
 unfold G1 Nk;rw[AW rfl];have h:=(G3 (O:=Out (List Ac) (List Ac)) (l:=cs) (mk:=λi (acc:List Ac)=>(acc,(i:Int))) (body:=λσ=>Dx F ⟨t,cs⟩ e σ.1 σ.2) (fin:=λacc=>.go acc) (λacc c=>bif decide (c.fOp.fEntity=e)&&decide (0≤c.fTo) then(It acc c.fOp).1 else acc) (λi acc=>GS acc) (λi h acc hP=>by
  have hc:=hok _ (List.getElem_mem h);unfold Dx EY;simp only;rw[AI (Xb (by omega)),AZ (by omega) (by omega),BS h]
  cases hq:decide ((cs[i]).fOp.fEntity=e)&&decide (0≤(cs[i]).fTo) with
  | false=>exact⟨by rw[A3 rfl,AP (by omega) (by omega)];rfl,hP⟩
  | true=>
   refine⟨?_,(Rg hP hc.op hc.er).1⟩;rw[AI rfl,OV hP.1 hc.op (by decide) (by omega) (by have:=hc.ne;omega),AW rfl,AP (by omega) (by omega)];rfl) (λacc hP=>by unfold Dx;simp only;rw[A3 (Xa (by omega))]) (F:=F) (by omega) (a:=C8) TK).1
 have h':BW (λσ=>Dx F ⟨t,cs⟩ e σ.1 σ.2) F (C8,0)=_:=h;have h2:Bt (BW (λσ=>Dx F ⟨t,cs⟩ e σ.1 σ.2) F (C8,0)) (Cf λν=>EX ν)=some (PL cs e):=by
  rw[h',AW rfl,Dc,P6 (λc:Al=>decide (c.fOp.fEntity=e)&&decide (0≤c.fTo)) (λacc c=>(It acc c.fOp).1)];unfold EX PL Ej CM Sq;rw[ME]
 exact h2
omit hok in
theorem NX (e:Aq):Ey F ⟨t,cs⟩ e=some (Vx cs e):=by
 unfold Ey;have h:=(G3 (O:=Out (List Aq) (List Aq)) (l:=cs) (mk:=λi (acc:List Aq)=>(acc,(i:Int))) (body:=λσ=>Db ⟨t,cs⟩ e σ.1 σ.2) (fin:=λacc=>.go acc) (λacc c=>bif decide (c.fOp.fEntity=e)&&decide (c.fTo<0) then acc++[c.fOp.fID] else acc) (λi acc=>acc.length≤i) (λi h acc hP=>by
  unfold Db Eb;simp only;rw[AI (Xb (by omega)),AZ (by omega) (by omega),BS h]
  cases hq:decide ((cs[i]).fOp.fEntity=e)&&decide ((cs[i]).fTo<0) with
  | false=>exact⟨by rw[A3 rfl,AP (by omega) (by omega)];rfl,by simp only[Xl];omega⟩
  | true=>exact⟨by rw[AI rfl,Dz (by simp;omega),AP (by omega) (by omega)];rfl,by simp only[Xp];simp;omega⟩) (λacc hP=>by unfold Db;simp only;rw[A3 (Xa (by omega))]) (F:=F) (by omega) (a:=[]) (Xq _)).1
 have h':BW (λσ=>Db ⟨t,cs⟩ e σ.1 σ.2) F (([]:List Aq),0)=_:=h;rw[h',AW rfl,Dc,ID (λc:Al=>decide (c.fOp.fEntity=e)&&decide (c.fTo<0)) (λc=>c.fOp.fID)];unfold EI Vx CM;rw[ME,XI]
omit hok in
theorem Qi (e:Aq):GY F ⟨t,cs⟩ e=some (CM cs e):=by
 unfold GY;have h:=(G3 (O:=Out (List Al) (List Al)) (l:=cs) (mk:=λi (acc:List Al)=>(acc,(i:Int))) (body:=λσ=>DN ⟨t,cs⟩ e σ.1 σ.2) (fin:=λacc=>.go acc) (λacc c=>bif decide (c.fOp.fEntity=e) then acc++[c] else acc) (λi acc=>acc.length≤i) (λi h acc hP=>by
  unfold DN Ga;simp only;rw[AI (Xb (by omega)),AZ (by omega) (by omega),BS h]
  cases hq:decide ((cs[i]).fOp.fEntity=e) with
  | false=>exact⟨by rw[A3 rfl,AP (by omega) (by omega)];rfl,by simp only[Xl];omega⟩
  | true=>exact⟨by rw[AI rfl,Hi (by simp;omega),AP (by omega) (by omega)];rfl,by simp only[Xp];simp;omega⟩) (λacc hP=>by unfold DN;simp only;rw[A3 (Xa (by omega))]) (F:=F) (by omega) (a:=[]) (Xq _)).1
 have h':BW (λσ=>DN ⟨t,cs⟩ e σ.1 σ.2) F (([]:List Al),0)=_:=h;rw[h',AW rfl,Dc,ID (λc:Al=>decide (c.fOp.fEntity=e)) (λc=>c)];unfold GP CM;rw[List.map_id',XI]
omit hok in
theorem I0 (id:Aq):GQ F ⟨t,cs⟩ id=some (Vc cs id):=by
 unfold GQ;rw[Nw (l:=cs) (p:=λc=>decide (c.fOp.fID=id)&&decide (0≤c.fTo)) (ret:=λc=>(c.fAnswer,true)) (u:=()) (by omega) (λi h=>by
  unfold Ez;simp only;rw[AI (Xb (by omega)),AZ (by omega) (by omega),BS h,AP (by omega) (by omega)]) (by unfold Ez;simp only;rw[A3 (Xa (by omega))])]
 unfold Vc
 cases cs.find? (λc=>decide (c.fOp.fID=id)&&decide (0≤c.fTo))<;>rfl
omit hok in
theorem Me:∃r,G2 F ⟨t,cs⟩=some r∧WH cs cs.length r:=by
 unfold G2;have h:=G3 (O:=Out (List Aq) (List Aq)) (l:=cs) (mk:=λi (acc:List Aq)=>(acc,(i:Int))) (body:=λσ=>DM F ⟨t,cs⟩ σ.1 σ.2) (fin:=λacc=>.go acc) (λacc c=>bif decide (c.fOp.fEntity∈acc) then acc else Iw (acc++[c.fOp.fEntity]) (acc++[c.fOp.fEntity]).length) (WH cs) (λi h acc hP=>by
  obtain⟨p1,p2,p3⟩:=hP;have htk:(cs.take (i+1)).map (λc=>c.fOp.fEntity)=(cs.take i).map (λc=>c.fOp.fEntity)++[(cs[i]).fOp.fEntity]:=by
   rw[List.take_add_one,Xg h,XM];rfl
  unfold DM EZ;simp only;rw[AI (Xb (by omega)),AZ (by omega) (by omega),BS h,TI (by omega) (by omega),AW rfl]
  cases hq:decide ((cs[i]).fOp.fEntity∈acc) with
  | true=>
   refine⟨by rw[A3 (by rfl),AP (by omega) (by omega)];rfl,p1,λx=>?_,by simp only[Xp];omega⟩;simp only[Xp];rw[htk,List.mem_append,Xu,p2];refine⟨.inl,?_⟩;rintro(hx | rfl)
   ·exact hx
   ·exact(p2 _).1 (XE hq)
  | false=>
   obtain⟨q1,q2,q3⟩:=J3 (acc++[(cs[i]).fOp.fEntity]) (acc++[(cs[i]).fOp.fEntity]).length (Xq _);refine⟨?_,q1,λx=>?_,by simp only[Xl];simp at q3 ⊢;omega⟩
   ·rw[AI (by rfl),Dz (by simp;omega),P2 (by simp;omega) (by omega),AW rfl,AP (by omega) (by omega)];rfl
   ·simp only[Xl];rw[q2,htk,XU,List.mem_append,List.mem_append,p2]) (λacc hP=>by unfold DM;simp only;rw[A3 (Xa (by omega))]) (F:=F) (by omega) (a:=[]) ⟨List.Pairwise.nil,λx=>by simp,Xq _⟩
 have h':BW (λσ=>DM F ⟨t,cs⟩ σ.1 σ.2) F (([]:List Aq),0)=_:=h.1;rw[h',AW rfl,Dc];exact⟨_,rfl,h.2⟩
end
def Hv (e:Aq):Nat→List Al→List Int
 | _,[]=>[]
 | k,c::r=>if c.fOp.fEntity=e then(k:Int)::Hv e (k+1) r else Hv e (k+1) r
theorem G4 (e:Aq):∀(A B:List Al) (k:Nat),Hv e k (A++B)=Hv e k A++Hv e (k+A.length) B
 | [],B,k=>rfl
 | c::A,B,k=>by
  show Hv e k (c::(A++B))=_;rw[Hv,Hv,G4 e A B (k+1),show k+1+A.length=k+(c::A).length from by simp;omega]
  split<;>rfl
theorem Ib (e:Aq):∀(A:List Al) (k:Nat),(Hv e k A).length=(CM A e).length
 | [],k=>rfl
 | c::A,k=>by
  rw[Hv,DP]
  split
  ·rw[Xj,Xj,Ib e A]
  ·exact Ib e A _
theorem Ee {α:Type}[Inhabited α](A:List α)(c:α)(B:List α):Af (A++c::B) (A.length:Int)=c:=by simp[Af]
theorem H0 {α:Type}(A:List α)(c c':α)(B:List α):List.set (A++c::B) A.length c'=A++c'::B:=by simp
theorem PG {α:Type}[Inhabited α]{cs:List α}{p:Nat}(hp:p<cs.length):∃A c B,cs=A++c::B∧A.length=p∧Af cs (p:Int)=c:=
 ⟨cs.take p,cs[p],cs.drop (p+1),by rw[← List.drop_eq_getElem_cons hp,List.take_append_drop],by simp;omega,BS hp⟩
theorem QD {α:Type}[Inhabited α]{cs:List α}{p q:Nat}(y:α)(hp:p<cs.length):Af (cs.set p y) (q:Int)=if p=q then y else Af cs (q:Int):=by
 unfold Af;rw[XK,XQ]
 by_cases h:p=q
 ·subst h;rw[Xr rfl,Xr hp,Xr rfl];rfl
 ·rw[Xn h,Xn h]
theorem Ot {α:Type}[Inhabited α]{A B:List α}{q:Nat}(hq:q<A.length):Af (A++B) (q:Int)=Af A (q:Int):=by
 unfold Af;rw[XK,X6 hq]
theorem Rc (e:Aq):∀(B A:List Al),(Hv e A.length B).map (Af (A++B))=CM B e
 | [],A=>rfl
 | c::B,A=>by
  have h:=Rc e B (A++[c]);rw[Xw,Xm] at h;have h':List.map (Af (A++c::B)) (Hv e (A.length+1) B)=CM B e:=h;rw[Hv,DP]
  split
  ·rw[XC,Ee,h']
  ·exact h'
theorem Rb (e:Aq):∀(B:List Al) (k:Nat),∀i∈Hv e k B,(k:Int)≤i∧i<(k:Int)+(B.length:Int)
 | [],k,i,h=>by cases h
 | c::B,k,i,h=>by
  rw[Hv] at h;rw[Xj];have key:∀i∈Hv e (k+1) B,(k:Int)≤i∧i<(k:Int)+((B.length+1:Nat):Int):=λi hi=>by
   have:=Rb e B (k+1) i hi;omega
  split at h
  ·rcases List.mem_cons.1 h with rfl | h
   ·omega
   ·exact key i h
  ·exact key i h
theorem KO {e:Aq}:∀{cs D O:List Al} {c:Al},CM cs e=D++c::O→∃A B,cs=A++c::B∧CM A e=D∧CM B e=O∧c.fOp.fEntity=e
 | [],D,O,c,h=>by cases D<;>cases h
 | x::r,D,O,c,h=>by
  rw[DP] at h
  by_cases hx:x.fOp.fEntity=e
  ·rw[Xr hx] at h
   cases D with
   | nil=>cases h;exact⟨[],r,rfl,rfl,rfl,hx⟩
   | cons d D'=>
    rw[XN] at h;injection h with h1 h2
    obtain⟨A,B,e1,e2,e3,e4⟩:=KO h2;exact⟨x::A,B,by rw[e1];rfl,by rw[DP,Xr hx,e2,h1],e3,e4⟩
  ·rw[Xn hx] at h;obtain⟨A,B,e1,e2,e3,e4⟩:=KO h;exact⟨x::A,B,by rw[e1];rfl,by rw[DP,Xn hx,e2],e3,e4⟩
theorem LH {cs:List Al}{e:Aq}(h:∀c∈cs,¬ c.fOp.fEntity=e):CM cs e=[]:=List.filter_eq_nil_iff.2 λc hc=>by simp[h c hc]
def Dn:List Ac→List Al→Prop
 | _,[]=>True
 | s,c::r=>c.fAnswer=(It s c.fOp).2.1∧c.fFrom≤c.fTo∧Dn (It s c.fOp).1 r
theorem Rv:∀{D:List Al} {s:List Ac} {c:Al},Dn s D→c.fAnswer=(It (Ej s D) c.fOp).2.1→c.fFrom≤c.fTo→Dn s (D++[c])
 | [],s,c,_,h1,h2=>⟨h1,h2,trivial⟩
 | x::D,s,c,h,h1,h2=>⟨h.1,h.2.1,Rv h.2.2 h1 h2⟩
theorem SU (s:List Ac)(D:List Al)(c:Al):Ej s (D++[c])=(It (Ej s D) c.fOp).1:=by
 unfold Ej;rw[List.foldl_append];rfl
structure Sw (en:As) (cs:List Al) (e:Aq):Prop where
 ex:∃D O,CM cs e=D++O∧(∀c∈D,0≤c.fTo)∧(∀c∈O,c.fTo = -1)∧en.fDone=(D.length:Int)∧en.fState=Ej C8 D∧Dn C8 D
 ix:en.fCalls=Hv e 0 cs
structure O2 (d:A5) (es:List As) (cs:List Al):Prop where
 now:0≤d.fNow∧d.fNow≤1073741824
 ems:Ms d.fEntities
 ent:∀e k,BA d.fEntities e=some k→∃p:Nat,k=(p:Int)∧p<es.length∧Sw (Af es (p:Int)) cs e
 inj:∀e e' k,BA d.fEntities e=some k→BA d.fEntities e'=some k→e=e'
 enm:∀e,BB d.fEntities e=true↔∃c∈cs,c.fOp.fEntity=e
 eln:d.fEntities.length≤cs.length
 cln:d.fCalls.length≤cs.length
 cal:∀id k,BA d.fCalls id=some k→∃p:Nat,k=(p:Int)∧p<cs.length∧(Af cs (p:Int)).fOp.fID=id
 cnm:∀c∈cs,BB d.fCalls c.fOp.fID=true
 nod:(cs.map λc=>c.fOp.fID).Nodup
 ok:∀c∈cs,S5 c
 frm:∀c∈cs,c.fFrom≤d.fNow∧c.fTo≤d.fNow
 len:cs.length≤200
theorem UL:O2 ⟨0,[],[]⟩ [] [] where
 now:=by decide
 ems:=Ms.nil
 ent _ _ h:=by cases h
 inj _ _ _ h:=by cases h
 enm e:=⟨λh=>(by cases h),λ⟨c,h,_⟩=>(by cases h)⟩
 eln:=Xq _
 cln:=Xq _
 cal _ _ h:=by cases h
 cnm _ h:=by cases h
 nod:=List.nodup_nil
 ok _ h:=by cases h
 frm _ h:=by cases h
 len:=by decide
theorem E8 {T:Type}{m:List (Aq×T)}{k:Aq}{z r:T}(h:BA m k=some r):AE m k z=r:=by unfold AE;rw[h];rfl
theorem Dg {T:Type}{m:List (Aq×T)}{k:Aq}{r:T}(h:BA m k=some r):BB m k=true:=by unfold BB;rw[h];rfl
theorem CO {T:Type}{m:List (Aq×T)}{k:Aq}(h:BA m k=none):BB m k=false:=by unfold BB;rw[h];rfl
theorem K2 {cs D O:List Al}{e:Aq}(h:CM cs e=D++O)(hD:∀c∈D,0≤c.fTo)(hO:∀c∈O,c.fTo = -1):(CM cs e).filter Sq=D:=by
 have h1:D.filter Sq=D:=List.filter_eq_self.2 λc hc=>Xb (hD c hc);have h2:O.filter Sq=[]:=List.filter_eq_nil_iff.2 λc hc=>by unfold Sq;rw[hO c hc];decide
 rw[h,List.filter_append,h1,h2,XB]
theorem Sw.st {en:As}{cs:List Al}{e:Aq}(h:Sw en cs e):en.fState=PL cs e:=by
 obtain⟨D,O,h1,h2,h3,_,h5,_⟩:=h.ex;unfold PL;rw[K2 h1 h2 h3,h5]
theorem O2.st {d:A5}{es:List As}{cs:List Al}(h:O2 d es cs)(e:Aq):HX d es cs e=some (PL cs e):=by
 unfold HX
 cases hg:BA d.fEntities e with
 | none=>
  have hh:=CO hg;rw[hh,A3 rfl];have:CM cs e=[]:=LH λc hc he=>by
   have:=(h.enm e).2 ⟨c,hc,he⟩;rw[hh] at this;cases this
  unfold PL;rw[this];rfl
 | some k=>
  obtain⟨p,rfl,hp,hr⟩:=h.ent e k hg;rw[Dg hg,AI rfl,E8 hg,AZ (by omega) (by omega),hr.st,Ew (by have:=(Rf h.ok e).1.hv;omega)];rfl
section
variable {F : Nat} {d : A5} {es : List As} {cs : List Al} (hF : 30000 ≤ F) (h : O2 d es cs)
include hF h
omit h in
theorem Q8 {c:Al}(hc:S5 c):EK F c=some c:=Qx hc.op (by decide) (by have:=hc.ne;omega) (by have:=hc.an;omega)
theorem Nt (e:Aq):HZ F d es cs e=some (CM cs e):=by
 unfold HZ
 cases hg:BA d.fEntities e with
 | none=>
  have hh:=CO hg;rw[hh,AI (by rfl)];have:CM cs e=[]:=LH λc hc he=>by
   have:=(h.enm e).2 ⟨c,hc,he⟩;rw[hh] at this;cases this
  rw[this]
 | some k=>
  obtain⟨p,rfl,hp,hr⟩:=h.ent e k hg;have hmv:AE d.fEntities e (-1)=(p:Int):=E8 hg;have hl:=h.len;have hle:(Hv e 0 cs).length≤200:=by rw[Ib];unfold CM;exact Nat.le_trans (List.length_filter_le ..) hl
  have hok:=h.ok;rw[Dg hg,A3 (by rfl),hmv,AZ (by omega) (by omega)];have h0:=(G3 (O:=Out (List Al) (List Al)) (l:=Hv e 0 cs) (mk:=λi (acc:List Al)=>(acc,(i:Int))) (body:=λσ=>E7 F d es cs e σ.1 σ.2) (fin:=λacc=>.go acc) (λacc i=>acc++[Af cs i]) (λi acc=>acc.length≤i) (λi hi acc hP=>by
   refine⟨?_,by simp;omega⟩;obtain⟨r1,r2⟩:=Rb e cs 0 _ (List.getElem_mem hi);have hc:S5 (Af cs (Hv e 0 cs)[i]):=hok _ (by
    obtain⟨q,hq⟩:∃q:Nat,(Hv e 0 cs)[i]=(q:Int):=⟨(Hv e 0 cs)[i].toNat,by omega⟩
    rw[hq,BS (by omega)];exact List.getElem_mem _)
   unfold E7;simp only;rw[hmv,hr.ix,AI (Xb (by omega)),AZ (by omega) (by omega),BS hi,BP (Xb (by omega)),AZ (by omega) (by omega)];rw[show EK F (Al.mk ((Af cs (Hv e 0 cs)[i]).fOp) ((Af cs (Hv e 0 cs)[i]).fAnswer) ((Af cs (Hv e 0 cs)[i]).fFrom) ((Af cs (Hv e 0 cs)[i]).fTo))=some (Af cs (Hv e 0 cs)[i]) from Q8 hF hc,AW rfl,Hi (by simp;omega),AP (by omega) (by omega)];rfl) (λacc hP=>by
   unfold E7;simp only;rw[hmv,hr.ix,A3 (Xa (by omega))]) (F:=F) (by omega) (a:=[]) (Xq _)).1
  have h':BW (λσ=>E7 F d es cs e σ.1 σ.2) F (([]:List Al),0)=_:=h0;rw[h',AW rfl,Dc];have hfm:=ID (λ_:Int=>true) (λi=>Af cs i) (Hv e 0 cs) [];simp only[Xp,List.filter_eq_self.2 (λ_ _=>rfl:∀a∈Hv e 0 cs,(λ_:Int=>true) a=true)] at hfm;rw[hfm,XI];have hm:=Rc e cs [];exact congrArg some hm
theorem Pk (e:Aq):EJ F d es cs e=some (Vx cs e):=by
 unfold EJ;rw[Nt hF h e,AW rfl];have hl:(CM cs e).length≤200:=Nat.le_trans (List.length_filter_le ..) h.len;have h0:=(G3 (O:=Out (List Aq) (List Aq)) (l:=CM cs e) (mk:=λi (acc:List Aq)=>(acc,(i:Int))) (body:=λσ=>Dt (CM cs e) σ.1 σ.2) (fin:=λacc=>.go acc) (λacc c=>bif decide (c.fTo<0) then acc++[c.fOp.fID] else acc) (λi acc=>acc.length≤i) (λi hi acc hP=>by
  have hc:=(h.ok _ (Oa (List.getElem_mem hi)).1).to;have hd:decide (((CM cs e)[i]).fTo = -1)=decide (((CM cs e)[i]).fTo<0):=by rw[Xt];simp only[Xc];omega
  unfold Dt E4;simp only;rw[AI (Xb (by omega)),AZ (by omega) (by omega),BS hi,hd]
  cases hq:decide (((CM cs e)[i]).fTo<0) with
  | false=>exact⟨by rw[A3 rfl,AP (by omega) (by omega)];rfl,by simp only[Xl];omega⟩
  | true=>exact⟨by rw[AI rfl,Dz (by simp;omega),AP (by omega) (by omega)];rfl,by simp only[Xp];simp;omega⟩) (λacc hP=>by unfold Dt;simp only;rw[A3 (Xa (by omega))]) (F:=F) (by omega) (a:=[]) (Xq _)).1
 have h':BW (λσ=>Dt (CM cs e) σ.1 σ.2) F (([]:List Aq),0)=_:=h0;rw[h',AW rfl,Dc,ID (λc:Al=>decide (c.fTo<0)) (λc=>c.fOp.fID)];rfl
omit hF in
theorem P1 {A B:List Al}{c:Al}(hs:cs=A++c::B):(∀x∈A,¬ x.fOp.fID=c.fOp.fID)∧∀x∈B,¬ x.fOp.fID=c.fOp.fID:=by
 have hn:=h.nod;rw[hs,XM,XC] at hn;obtain⟨_,n2,n3⟩:=List.nodup_append.1 hn;have n4:=List.nodup_cons.1 n2;refine⟨λx hx he=>?_,λx hx he=>n4.1 (List.mem_map.2 ⟨x,hx,he⟩)⟩;exact n3 _ (List.mem_map.2 ⟨x,hx,rfl⟩) _ List.mem_cons_self he
theorem JB (id:Aq):He F d es cs id=some (Vc cs id):=by
 unfold He Vc
 cases hg:BA d.fCalls id with
 | none=>
  have hh:=CO hg;rw[hh,List.find?_eq_none.2 (λc hc hx=>by
   simp only[Xf,Xc] at hx;have:=h.cnm c hc;rw[hx.1,hh] at this;cases this)]
  rfl
 | some k=>
  obtain⟨p,rfl,hp,hid⟩:=h.cal id k hg;obtain⟨A,c,B,hs,hA,hc0⟩:=PG hp;rw[hc0] at hid;subst hid hA;obtain⟨i1,i2⟩:=P1 h hs;have hl:A.length<cs.length:=by rw[hs];simp
  have hc:=h.ok c (by rw[hs];simp);have hat:Af cs (A.length:Int)=c:=by rw[hs];exact Ee A c B
  rw[E8 hg,Dg hg,BP (by rw[Xb (by omega)];rfl),BP (by rw[MU (by omega) (by omega)];rfl),hat];have hf:cs.find? (λx=>decide (x.fOp.fID=c.fOp.fID)&&decide (0≤x.fTo))=if 0≤c.fTo then some c else none:=by
   rw[hs,List.find?_append,List.find?_eq_none.2 (λx hx hx'=>by
    simp only[Xf,Xc] at hx';exact i1 x hx hx'.1),List.find?_cons]
   by_cases h0:0≤c.fTo
   ·rw[Xb rfl,Xb h0,Xr h0];rfl
   ·rw[Xb rfl,Xa h0,Xn h0];show(List.find? _ B)=none;exact List.find?_eq_none.2 (λx hx hx'=>by
     simp only[Xf,Xc] at hx';exact i2 x hx hx'.1)
  rw[hf]
  by_cases h0:0≤c.fTo
  ·rw[Xr h0,Xa (show ¬ c.fTo = -1 from by omega),A3 (by rfl),BP (Xb (by omega)),AZ (by omega) (by omega)];rw[show EK F (Al.mk c.fOp c.fAnswer c.fFrom c.fTo)=some c from Q8 hF hc,AW rfl]
  ·have h1:c.fTo = -1:=by have:=hc.to;omega
   rw[Xn h0,Xb h1,AI (by rfl)]
omit hF in
theorem RO {r:List Aq}(hr:WH cs cs.length r):HY d es cs=some r:=by
 unfold HY;have hk:∀x,x∈d.fEntities.map (·.1)↔∃c∈cs,c.fOp.fEntity=x:=λx=>by
  rw[← h.enm x]
  cases hg:BA d.fEntities x with
  | none=>
   rw[CO hg];exact⟨λhm=>by obtain⟨p,hp,e⟩:=List.mem_map.1 hm;exact absurd e (Ia.1 hg p hp),λhx=>by cases hx⟩
  | some k=>
   rw[Dg hg];exact⟨λ_=>rfl,λ_=>List.mem_map.2 ⟨_,Hn hg,rfl⟩⟩
 have hok:M1 d.fEntities=true:=by
  unfold M1;simp only[Xf,Xc,X1];refine⟨by have:=h.eln;have:=h.len;omega,λp hp=>?_⟩;obtain⟨c,hc,e⟩:=(hk p.1).1 (List.mem_map.2 ⟨p,hp,rfl⟩);have:=(h.ok c hc).op.e;rw[e] at this;unfold Ub;simp only[Xc];omega
 rw[BP hok];have hst:(d.fEntities.map (·.1)).Pairwise (· < ·):=List.pairwise_map.2 (h.ems.imp fun {p q} hpq=>by
  rw[Qb] at hpq;exact XE hpq)
 have hmk:Ls d.fEntities=d.fEntities.map (·.1):=by
  unfold Ls;exact List.mergeSort_of_pairwise (hst.imp fun {a b} hab=>Xb (List.le_of_lt hab))
 rw[hmk]
 congr 1
 refine Lk _ _ hst hr.1 λx=>?_;rw[hk,hr.2.1,XU,List.mem_map]
end
def QB (op:A6)(now:Int):Al:=⟨op,⟨0,[]⟩,now,-1⟩
section
variable {d : A5} {es : List As} {cs : List Al}
theorem Qn {x:Al}{e:Aq}(hx : ¬ x.fOp.fEntity=e):CM [x] e=[]:=by rw[DP,Xn hx];rfl
theorem QU {x:Al}{e:Aq}(hx:x.fOp.fEntity=e):CM [x] e=[x]:=by rw[DP,Xr hx];rfl
theorem Sw.other {en:As}{e:Aq}{x:Al}(hr:Sw en cs e)(hx : ¬ x.fOp.fEntity=e):Sw en (cs++[x]) e where
 ex:=by
  obtain⟨D,O,h1,h2⟩:=hr.ex;exact⟨D,O,by rw[HR,Qn hx,XB,h1],h2⟩
 ix:=by rw[G4,Hv,Xn hx,Hv,XB,hr.ix]
theorem Sw.add {en:As}{e:Aq}{x:Al}(hr:Sw en cs e)(hx:x.fOp.fEntity=e)(ht:x.fTo = -1):Sw ⟨en.fState,en.fCalls++[(cs.length:Int)],en.fDone⟩ (cs++[x]) e where
 ex:=by
  obtain⟨D,O,h1,h2,h3,h4⟩:=hr.ex;refine⟨D,O++[x],by rw[HR,QU hx,h1,Xw],h2,λc hc=>?_,h4⟩;rcases List.mem_append.1 hc with hc | hc
  ·exact h3 c hc
  ·rw[List.mem_singleton.1 hc];exact ht
 ix:=by rw[G4,Hv,Xr hx,Hv,hr.ix,X0]
theorem Sw.new {e:Aq}{x:Al}(h0:CM cs e=[])(hx:x.fOp.fEntity=e)(ht:x.fTo = -1):Sw ⟨C8,[(cs.length:Int)],0⟩ (cs++[x]) e where
 ex:=⟨[],[x],by rw[HR,QU hx,h0],λc hc=>(by cases hc),λc hc=>(by rw[List.mem_singleton.1 hc];exact ht),rfl,rfl,trivial⟩
 ix:=by
  have:Hv e 0 cs=[]:=List.length_eq_zero_iff.1 (by rw[Ib,h0];rfl);rw[G4,this,Hv,Xr hx,Hv,X0];rfl
theorem Rd (h:O2 d es cs)(hlen:cs.length<200){op:A6}{now:Int}(ho:ML 250 op)(hne:op.fArgs.length≤4)(he:EU op=0)(hnow:d.fNow≤now∧now≤1073741824)(hid:BA d.fCalls op.fID=none)
  {fE:List (Aq×Int)} {es':List As} (ems:Ms fE) (ent:∀e k,BA fE e=some k→∃p:Nat,k=(p:Int)∧p<es'.length∧Sw (Af es' (p:Int)) (cs++[QB op now]) e)
  (inj:∀e e' k,BA fE e=some k→BA fE e'=some k→e=e') (enm:∀e,BB fE e=true↔(∃c∈cs,c.fOp.fEntity=e)∨op.fEntity=e) (eln:fE.length≤cs.length+1) :
  O2 ⟨now,fE,mset d.fCalls op.fID (cs.length:Int)⟩ es' (cs++[QB op now]) where
 now:=by have:=h.now;exact⟨by show 0≤now;omega,hnow.2⟩
 ems:=ems
 ent:=ent
 inj:=inj
 enm e:=by
  rw[enm e];constructor
  ·rintro(⟨c,hc,he⟩ | he)
   ·exact⟨c,List.mem_append_left _ hc,he⟩
   ·exact⟨QB op now,by simp,he⟩
  ·rintro⟨c,hc,he⟩;rcases List.mem_append.1 hc with hc | hc
   ·exact .inl ⟨c,hc,he⟩
   ·rw[List.mem_singleton.1 hc] at he;exact .inr he
 eln:=by rw[Xm];exact eln
 cln:=by
  rw[Xm,Lr,CO hid];have:=h.cln;simp only[Xl,Xj,XA];omega
 cal id k hk:=by
  have hk:BA (mset d.fCalls op.fID (cs.length:Int)) id=some k:=hk;rw[HD] at hk
  by_cases e:id=op.fID
  ·rw[Xb e,Xp] at hk
   cases hk
   exact⟨cs.length,rfl,by simp,by rw[Ee];exact e.symm⟩
  ·rw[Xa e,Xl] at hk;obtain⟨p,h1,h2,h3⟩:=h.cal id k hk;exact⟨p,h1,by simp;omega,by rw[Ot h2];exact h3⟩
 cnm c hc:=by
  show BB (mset d.fCalls op.fID (cs.length:Int)) c.fOp.fID=true;unfold BB;rw[HD]
  by_cases e:c.fOp.fID=op.fID
  ·rw[Xb e];rfl
  ·rw[Xa e];rcases List.mem_append.1 hc with hc | hc
   ·exact h.cnm c hc
   ·rw[List.mem_singleton.1 hc] at e;exact absurd rfl e
 nod:=by
  rw[XM];refine List.nodup_append.2 ⟨h.nod,by simp,λa ha b hb e=>?_⟩;obtain⟨c,hc,rfl⟩:=List.mem_map.1 ha;have hb:b=op.fID:=by simpa[QB] using hb
  have:=h.cnm c hc;rw[e,hb,CO hid] at this;cases this
 ok c hc:=by
  rcases List.mem_append.1 hc with hc | hc
  ·exact h.ok c hc
  ·rw[List.mem_singleton.1 hc];exact⟨ho,hne,he,X5 _,.inl rfl⟩
 frm c hc:=by
  show c.fFrom≤now∧c.fTo≤now;rcases List.mem_append.1 hc with hc | hc
  ·have:=h.frm c hc;omega
  ·rw[List.mem_singleton.1 hc];have:=h.now;exact⟨Xx _,by show -1≤now;omega⟩
 len:=by simp;omega
theorem TB (h:O2 d es cs){now:Int}(hnow:d.fNow≤now∧now≤1073741824):O2 ⟨now,d.fEntities,d.fCalls⟩ es cs:=
 { h with now:=(by have:=h.now;exact⟨by show 0≤now;omega,hnow.2⟩),frm:=λc hc=>(by have:=h.frm c hc;show c.fFrom≤now∧c.fTo≤now;omega) }
theorem TC (h:O2 d es cs){e:Aq}{p:Nat}{now:Int}(hnow:d.fNow≤now∧now≤1073741824)(hg:BA d.fEntities e=some (p:Int))(hp:p<es.length){A B D O:List Al}{c:Al}(hs:cs=A++c::B)(hA:CM A e=D)(hB:CM B e=O)(hce:c.fOp.fEntity=e)
  (hD:∀x∈D,0≤x.fTo) (hO:∀x∈O,x.fTo = -1) (hDn:Dn C8 D) (hix:(Af es (p:Int)).fCalls=Hv e 0 cs) (hc0:GS (Ej C8 D)) :
  O2 ⟨now,d.fEntities,d.fCalls⟩ (es.set p ⟨(It (Ej C8 D) c.fOp).1,(Af es (p:Int)).fCalls,(D.length:Int)+1⟩) (A++⟨c.fOp,(It (Ej C8 D) c.fOp).2.1,c.fFrom,now⟩::B):=by
 have hc:S5 c:=h.ok c (by rw[hs];simp);have hfr:=h.frm c (by rw[hs];simp);have hn0:=h.now;have hdo:=Rg hc0 hc.op hc.er;have hmem:∀x,x∈A++(⟨c.fOp,(It (Ej C8 D) c.fOp).2.1,c.fFrom,now⟩:Al)::B→x∈cs∨x=⟨c.fOp,(It (Ej C8 D) c.fOp).2.1,c.fFrom,now⟩:=λx hx=>by
  rw[hs];simp only[List.mem_append,XG] at hx ⊢;rcases hx with hx | hx | hx
  ·exact .inl (.inl hx)
  ·exact .inr hx
  ·exact .inl (.inr (.inr hx))
 have hset:A++(⟨c.fOp,(It (Ej C8 D) c.fOp).2.1,c.fFrom,now⟩:Al)::B=cs.set A.length ⟨c.fOp,(It (Ej C8 D) c.fOp).2.1,c.fFrom,now⟩:=by rw[hs,H0]
 have hAl:A.length<cs.length:=by rw[hs];simp
 have hat:Af cs (A.length:Int)=c:=by rw[hs];exact Ee A c B
 refine { now:=⟨by show 0≤now;omega,hnow.2⟩,ems:=h.ems,inj:=h.inj,eln:=by rw[hset,XJ];exact h.eln,cln:=by rw[hset,XJ];exact h.cln,len:=by rw[hset,XJ];exact h.len,ent:=?_,enm:=?_,cal:=?_,cnm:=?_,nod:=?_,ok:=?_,frm:=?_ }
 ·intro e' k hk;have hk:BA d.fEntities e'=some k:=hk;obtain⟨q,rfl,hq,hr⟩:=h.ent e' k hk;refine⟨q,rfl,by rw[XJ];exact hq,?_⟩;rw[QD _ hp]
  by_cases hpq:p=q
  ·subst hpq;obtain rfl:e'=e:=h.inj _ _ _ hk hg;rw[Xr rfl];refine⟨⟨D++[⟨c.fOp,(It (Ej C8 D) c.fOp).2.1,c.fFrom,now⟩],O,?_,λx hx=>?_,hO,by simp,by rw[SU],Rv hDn rfl (by show c.fFrom≤now;omega)⟩,?_⟩
   ·rw[HR,DP,Xr hce,hA,hB,Xw];rfl
   ·rcases List.mem_append.1 hx with hx | hx
    ·exact hD x hx
    ·rw[List.mem_singleton.1 hx];show 0≤now;omega
   ·show(Af es (p:Int)).fCalls=_;rw[hix,hs,G4,G4,Hv,Hv]
  ·rw[Xn hpq];have hne : ¬ c.fOp.fEntity=e':=λhe=>by
    have h1:e'=e:=he.symm.trans hce;subst h1;rw[hg] at hk;exact hpq (by have:=Option.some.inj hk;omega)
   obtain⟨D',O',x1,x2⟩:=hr.ex;refine⟨⟨D',O',?_,x2⟩,?_⟩
   ·rw[← x1,hs,HR,HR,DP,DP,Xn hne,Xn hne]
   ·rw[hr.ix,hs,G4,G4,Hv,Hv,Xn hne]
 ·intro e';show BB d.fEntities e'=true↔_;rw[h.enm e'];constructor
  ·rintro⟨x,hx,he⟩;rw[hs] at hx;simp only[List.mem_append,XG] at hx;rcases hx with hx | rfl | hx
   ·exact⟨x,by simp[hx],he⟩
   ·exact⟨⟨x.fOp,(It (Ej C8 D) x.fOp).2.1,x.fFrom,now⟩,by simp,he⟩
   ·exact⟨x,by simp[hx],he⟩
  ·rintro⟨x,hx,he⟩;rcases hmem x hx with hx | rfl
   ·exact⟨x,hx,he⟩
   ·exact⟨c,by rw[hs];simp,he⟩
 ·intro id k hk;obtain⟨q,h1,h2,h3⟩:=h.cal id k hk;refine⟨q,h1,by rw[hset,XJ];exact h2,?_⟩;rw[hset,QD _ hAl]
  by_cases hq:A.length=q
  ·subst hq;rw[Xr rfl];rw[hat] at h3;exact h3
  ·rw[Xn hq];exact h3
 ·intro x hx;show BB d.fCalls x.fOp.fID=true;rcases hmem x hx with hx | rfl
  ·exact h.cnm x hx
  ·exact h.cnm c (by rw[hs];simp)
 ·have hn:=h.nod;rw[hs,XM,XC] at hn;rw[XM,XC];exact hn
 ·intro x hx;rcases hmem x hx with hx | rfl
  ·exact h.ok x hx
  ·exact⟨hc.op,hc.ne,hc.er,hdo.2.2,.inr (by show 0≤now;omega)⟩
 ·intro x hx;show x.fFrom≤now∧x.fTo≤now;rcases hmem x hx with hx | rfl
  ·have:=h.frm x hx;omega
  ·exact⟨by show c.fFrom≤now;omega,Xx _⟩
end
theorem PH {α:Type}[Inhabited α]{A B:List α}{i:Nat}(hi:i<A.length):Af (A++B) (i:Int)=A[i]:=by rw[Ot hi,BS hi]
section
variable {F : Nat} {d : A5} {es : List As} {cs : List Al} (hF : 30000 ≤ F) (h : O2 d es cs)
include hF h
theorem Ta {op:A6}(hA:ML 250 op)(hne:op.fArgs.length≤4)(he:EU op=0){now:Int}(hnow:d.fNow≤now∧now≤1073741824){p:Nat}(hp:p<cs.length)(hid:(Af cs (p:Int)).fOp.fID=op.fID) :
  DL F ⟨d.fNow,cs⟩ op now=some (if (Af cs (p:Int)).fOp=op then(0,⟨now,cs⟩) else(19,⟨d.fNow,cs⟩)):=by
 have hn0:=h.now;have hl:=h.len;obtain⟨A,c,B,hs,hAl,hc0⟩:=PG hp;rw[hc0] at hid ⊢;obtain⟨i1,i2⟩:=P1 h hs;have hc:S5 c:=h.ok c (by rw[hs];simp);unfold DL;rw[E0 hA (by decide) (by omega) (by omega),AW rfl,he,A3 (by rfl),A3 (by rw[Xa (by omega),Xa (by omega)];rfl),A3 (Xa (by show ¬ now<d.fNow;omega))];obtain⟨⟨n,hlop⟩,_⟩:=Mr (O:=Out (Int×Aw) Bool) (l:=A) (mk:=λi (acc:Bool)=>(acc,(i:Int))) (body:=λσ=>Cq F ⟨d.fNow,cs⟩ op now σ.1 σ.2) (λacc x=>bif acc then true else decide (x.fOp.fEntity=op.fEntity)) (λ_ _=>True) (λi hi acc _=>by
  refine⟨?_,trivial⟩;have hnid : ¬ (A[i]).fOp.fID=op.fID:=λe=>i1 _ (List.getElem_mem hi) (by rw[e,hid]);have hat:Af cs (i:Int)=A[i]:=by rw[hs];exact PH hi
  have hlt:(i:Int)<(cs.length:Int):=by rw[hs];simp;omega
  unfold Cq DK;simp only;rw[AI (Xb hlt),AZ (by omega) hlt,hat,A3 (Xa hnid)]
  cases acc with
  | true=>rw[AI rfl,AP (by omega) (by omega)];rfl
  | false=>rw[A3 rfl,AP (by omega) (by omega)];rfl) (F:=F) (by rw[hs] at hl;simp at hl;omega) (a:=false) trivial
 have hlop':BW (λσ=>Cq F ⟨d.fNow,cs⟩ op now σ.1 σ.2) F (false,0)=_:=hlop;rw[hlop',BW];have hat:Af cs (A.length:Int)=c:=by rw[hAl];exact hc0
 have hlt:(A.length:Int)<(cs.length:Int):=by omega
 generalize A.foldl _ false=acc;have hb:Cq F ⟨d.fNow,cs⟩ op now acc (A.length:Int)=some (.out (.ret (if c.fOp=op then(0,⟨now,cs⟩) else(19,⟨d.fNow,cs⟩)))):=by
  unfold Cq;simp only;rw[AI (Xb hlt),AZ (by omega) hlt,hat,AI (Xb hid),Mc hc.op (by decide) (by omega) (by have:=hc.ne;omega),AW rfl]
  by_cases e:c.fOp=op
  ·rw[Xb e,A3 (by rfl),Xr e]
  ·rw[Xa e,AI (by rfl),Xn e]
 rw[hb];rfl
theorem SZ {op:A6}(hA:ML 250 op)(hne:op.fArgs.length≤4)(he:EU op=0){now:Int}(hnow:d.fNow≤now∧now≤1073741824)(hid:∀c∈cs,¬ c.fOp.fID=op.fID) :
  DL F ⟨d.fNow,cs⟩ op now=some (0,⟨now,cs++[QB op now]⟩):=by
 have hn0:=h.now;have hl:=h.len;unfold DL;rw[E0 hA (by decide) (by omega) (by omega),AW rfl,he,A3 (by rfl),A3 (by rw[Xa (by omega),Xa (by omega)];rfl),A3 (Xa (by show ¬ now<d.fNow;omega))];have hlop:=(G3 (O:=Out (Int×Aw) Bool) (l:=cs) (mk:=λi (acc:Bool)=>(acc,(i:Int))) (body:=λσ=>Cq F ⟨d.fNow,cs⟩ op now σ.1 σ.2) (fin:=λacc=>.go acc) (λacc x=>bif acc then true else decide (x.fOp.fEntity=op.fEntity)) (λ_ _=>True) (λi hi acc _=>by
  refine⟨?_,trivial⟩;unfold Cq DK;simp only;rw[AI (Xb (by omega)),AZ (by omega) (by omega),BS hi,A3 (Xa (hid _ (List.getElem_mem hi)))]
  cases acc with
  | true=>rw[AI rfl,AP (by omega) (by omega)];rfl
  | false=>rw[A3 rfl,AP (by omega) (by omega)];rfl) (λacc _=>by unfold Cq;simp only;rw[A3 (Xa (by omega))]) (F:=F) (by omega) (a:=false) trivial).1
 have hlop':BW (λσ=>Cq F ⟨d.fNow,cs⟩ op now σ.1 σ.2) F (false,0)=_:=hlop;rw[hlop',AW rfl,Dc];generalize cs.foldl _ false=acc;unfold Gk DJ;simp only;rw[A3 (Xa (by omega))];obtain⟨r,hr,hr2⟩:=Me (t:=d.fNow) hF (show cs.length≤1000 by omega);have h3:=hr2.2.2
 cases acc with
 | true=>rw[A3 (by rfl),A3 rfl,Hi (by simp;omega)];rfl
 | false=>rw[AI (by rfl),hr,AW rfl,A3 (Xa (by omega)),Hi (by simp;omega)];rfl
theorem V1 (hlen:cs.length<200){op:A6}(hA:ML 250 op)(hne:op.fArgs.length≤4)(now:Int) :
  ∃r d' es' cs',Dy F d es cs op now=some (r,d',es',cs')∧DL F ⟨d.fNow,cs⟩ op now=some (r,⟨d'.fNow,cs'⟩)∧O2 d' es' cs'∧cs'.length≤cs.length+1∧(¬ r=0→d'=d∧es'=es∧cs'=cs):=by
 have hn0:=h.now;have hl:=h.len
 by_cases he:EU op=0
 ·by_cases ht:now<0∨1073741824<now
  ·have hb:(decide (now<0)||decide (1073741824<now))=true:=by simpa using ht
   refine⟨2,d,es,cs,?_,?_,h,by omega,λ_=>⟨rfl,rfl,rfl⟩⟩
   ·unfold Dy;rw[E6 hA (by decide) (by omega) (by omega),AW rfl,he,A3 (by rfl),AI hb]
   ·unfold DL;rw[E0 hA (by decide) (by omega) (by omega),AW rfl,he,A3 (by rfl),AI hb]
  ·have hb:(decide (now<0)||decide (1073741824<now))=false:=by simp only[X8,Xe];omega
   by_cases ht2:now<d.fNow
   ·refine⟨11,d,es,cs,?_,?_,h,by omega,λ_=>⟨rfl,rfl,rfl⟩⟩
    ·unfold Dy;rw[E6 hA (by decide) (by omega) (by omega),AW rfl,he,A3 (by rfl),A3 hb,AI (Xb ht2)]
    ·unfold DL;rw[E0 hA (by decide) (by omega) (by omega),AW rfl,he,A3 (by rfl),A3 hb,AI (Xb ht2)]
   ·have hnow:d.fNow≤now∧now≤1073741824:=by omega
    cases hg:BA d.fCalls op.fID with
    | some k=>
     obtain⟨p,rfl,hp,hid⟩:=h.cal _ _ hg;have hc:S5 (Af cs (p:Int)):=h.ok _ (by rw[BS hp];exact List.getElem_mem hp);have hr:=Ta hF h hA hne he hnow hp hid
     by_cases e:(Af cs (p:Int)).fOp=op
     ·refine⟨0,⟨now,d.fEntities,d.fCalls⟩,es,cs,?_,by rw[hr,Xr e],TB h hnow,by omega,λx=>absurd rfl x⟩;unfold Dy;rw[E6 hA (by decide) (by omega) (by omega),AW rfl,he,A3 (by rfl),A3 hb,A3 (Xa ht2),Dg hg,AI rfl,E8 hg,BP (Xb (by omega)),AZ (by omega) (by omega),Pn hc.op (by decide) (by omega) (by have:=hc.ne;omega),AW rfl,Xb e,A3 (by rfl)]
     ·refine⟨19,d,es,cs,?_,by rw[hr,Xn e],h,by omega,λ_=>⟨rfl,rfl,rfl⟩⟩;unfold Dy;rw[E6 hA (by decide) (by omega) (by omega),AW rfl,he,A3 (by rfl),A3 hb,A3 (Xa ht2),Dg hg,AI rfl,E8 hg,BP (Xb (by omega)),AZ (by omega) (by omega),Pn hc.op (by decide) (by omega) (by have:=hc.ne;omega),AW rfl,Xa e,AI (by rfl)]
    | none=>
     have hnid:∀c∈cs,¬ c.fOp.fID=op.fID:=λc hc e=>by
      have:=h.cnm c hc;rw[e,CO hg] at this;cases this
     have hr:=SZ hF h hA hne he hnow hnid;have hx1:=h.cln;have hx2:=h.eln;have hfull:∀b:Bool,((decide ((d.fCalls.length:Int)=256))||(b&&(decide ((d.fEntities.length:Int)=256))))=false:=λb=>by
      rw[Xa (by omega),Xa (by omega),XF];rfl
     cases hge:BA d.fEntities op.fEntity with
     | none=>
      have hh:=CO hge;have hown:CM cs op.fEntity=[]:=LH λc hc e=>by
       have:=(h.enm op.fEntity).2 ⟨c,hc,e⟩;rw[hh] at this;cases this
      refine⟨0,⟨now,mset d.fEntities op.fEntity (es.length:Int),mset d.fCalls op.fID (cs.length:Int)⟩,es++[⟨C8,[(cs.length:Int)],0⟩],cs++[QB op now],?_,hr,?_,by simp,λx=>absurd rfl x⟩
      ·unfold Dy Nb;rw[E6 hA (by decide) (by omega) (by omega),AW rfl,he,A3 (by rfl),A3 hb,A3 (Xa ht2),CO hg,A3 rfl,A3 (hfull _),hh,AI (by rfl),AW rfl,KS hA (by decide) (by omega),AW rfl,Ee,AZ (by omega) (by simp;omega),N9 (by simp),XK,H0];rfl
      ·refine Rd h hlen hA hne he hnow hg (h.ems.mset _ _) ?_ ?_ ?_ (by rw[Lr,hh];simp only[Xl];omega)
       ·intro e k hk;rw[HD] at hk
        by_cases ee:e=op.fEntity
        ·subst ee;rw[Xb rfl,Xp] at hk
         cases hk
         exact⟨es.length,rfl,by simp,by rw[Ee];exact Sw.new hown rfl rfl⟩
        ·rw[Xa ee,Xl] at hk;obtain⟨p,h1,h2,h3⟩:=h.ent e k hk;exact⟨p,h1,by simp;omega,by rw[Ot h2];exact h3.other (λx=>ee x.symm)⟩
       ·intro e e' k hk hk';rw[HD] at hk hk';have key:∀x,BA d.fEntities x=some (es.length:Int)→False:=λx hx=>by
         obtain⟨p,h1,h2,_⟩:=h.ent x _ hx;omega
        by_cases ee:e=op.fEntity
        ·rw[Xb ee,Xp] at hk
         cases hk
         by_cases ee':e'=op.fEntity
         ·rw[ee,ee']
         ·rw[Xa ee',Xl] at hk';exact(key _ hk').elim
        ·rw[Xa ee,Xl] at hk
         by_cases ee':e'=op.fEntity
         ·rw[Xb ee',Xp] at hk'
          cases hk'
          exact(key _ hk).elim
         ·rw[Xa ee',Xl] at hk';exact h.inj _ _ _ hk hk'
       ·intro e;rw[← h.enm e];unfold BB;rw[HD]
        by_cases ee:e=op.fEntity
        ·rw[Xb ee];exact⟨λ_=>.inr ee.symm,λ_=>rfl⟩
        ·rw[Xa ee];exact⟨.inl,λx=>x.resolve_right λy=>ee y.symm⟩
     | some k=>
      obtain⟨p,rfl,hp,hrec⟩:=h.ent _ _ hge;have hixl:(Af es (p:Int)).fCalls.length≤200:=by rw[hrec.ix,Ib];exact Nat.le_trans (List.length_filter_le ..) hl
      refine⟨0,⟨now,d.fEntities,mset d.fCalls op.fID (cs.length:Int)⟩,es.set p ⟨(Af es (p:Int)).fState,(Af es (p:Int)).fCalls++[(cs.length:Int)],(Af es (p:Int)).fDone⟩,cs++[QB op now],?_,hr,?_,by simp,λx=>absurd rfl x⟩
      ·unfold Dy;rw[E6 hA (by decide) (by omega) (by omega),AW rfl,he,A3 (by rfl),A3 hb,A3 (Xa ht2),CO hg,A3 rfl,A3 (hfull _),Dg hge,A3 (by rfl),KS hA (by decide) (by omega),AW rfl,E8 hge,AZ (by omega) (by omega),N9 (by simp;omega),XK];rfl
      ·refine Rd h hlen hA hne he hnow hg h.ems ?_ h.inj ?_ (by omega)
       ·intro e k hk;obtain⟨q,h1,h2,h3⟩:=h.ent e k hk;refine⟨q,h1,by rw[XJ];exact h2,?_⟩;rw[QD _ hp]
        by_cases hpq:p=q
        ·subst hpq;rw[Xr rfl];obtain rfl:e=op.fEntity:=h.inj _ _ _ (by rw[hk,h1]) hge;exact h3.add rfl rfl
        ·rw[Xn hpq];refine h3.other λx=>hpq ?_;have x:op.fEntity=e:=x;rw[← x,hge] at hk;have:=Option.some.inj hk;omega
       ·intro e;rw[h.enm e];refine⟨.inl,?_⟩;rintro(x | rfl)
        ·exact x
        ·exact(h.enm _).1 (Dg hge)
 ·refine⟨EU op,d,es,cs,?_,?_,h,by omega,λ_=>⟨rfl,rfl,rfl⟩⟩
  ·unfold Dy;rw[E6 hA (by decide) (by omega) (by omega),AW rfl,AI (by rw[Xa he];rfl)]
  ·unfold DL;rw[E0 hA (by decide) (by omega) (by omega),AW rfl,AI (by rw[Xa he];rfl)]
end
def Lh:Al:=⟨⟨[],[],[],[]⟩,⟨0,[]⟩,0,0⟩
section
variable {F : Nat} {d : A5} {es : List As} {cs : List Al} (hF : 30000 ≤ F) (h : O2 d es cs)
include hF h
theorem Mb {e:Aq}{now:Int}(hnow:d.fNow≤now∧now≤1073741824)(hno:∀c∈CM cs e,0≤c.fTo):Hl F ⟨d.fNow,cs⟩ e now=some (Lh,false,⟨d.fNow,cs⟩):=by
 have hn0:=h.now;have hl:=h.len;unfold Hl;rw[A3 (by rw[Xa (by omega),Xa (by omega),Xa (show ¬ now<d.fNow by omega)];rfl),J6 hF (by omega) h.ok,AW rfl];have hlop:=(G3 (O:=Out (Al×Bool×Aw) Unit) (l:=cs) (mk:=λi (_:Unit)=>(i:Int)) (body:=λσ=>CB F ⟨d.fNow,cs⟩ e now (PL cs e) σ) (fin:=λacc=>.go acc) (λacc _=>acc) (λ_ _=>True) (λi hi acc _=>by
  refine⟨?_,trivial⟩;have hb:(decide ((cs[i]).fOp.fEntity=e)&&decide ((cs[i]).fTo<0))=false:=by
   by_cases he:(cs[i]).fOp.fEntity=e
   ·have:=hno _ (List.mem_filter.2 ⟨List.getElem_mem hi,Xb he⟩);rw[Xa (show ¬ (cs[i]).fTo<0 by omega),XF]
   ·rw[Xa he,XH]
  unfold CB;simp only;rw[AI (Xb (by omega)),AZ (by omega) (by omega),BS hi,hb,A3 rfl,AP (by omega) (by omega)];rfl) (λacc _=>by unfold CB;simp only;rw[A3 (Xa (by omega))]) (F:=F) (by omega) (a:=()) trivial).1
 have hlop':BW (λσ=>CB F ⟨d.fNow,cs⟩ e now (PL cs e) σ) F 0=_:=hlop;rw[hlop',AW rfl,Dc];rfl
theorem Qd {e:Aq}{now:Int}(hnow:d.fNow≤now∧now≤1073741824){A B D O:List Al}{c:Al}(hs:cs=A++c::B)(hA:CM A e=D)(hB:CM B e=O)(hce:c.fOp.fEntity=e)(hD:∀x∈D,0≤x.fTo)(hO:∀x∈O,x.fTo = -1)(hc1:c.fTo = -1) :
  Hl F ⟨d.fNow,cs⟩ e now=some (⟨c.fOp,(It (Ej C8 D) c.fOp).2.1,c.fFrom,now⟩,true,⟨now,A++⟨c.fOp,(It (Ej C8 D) c.fOp).2.1,c.fFrom,now⟩::B⟩):=by
 have hn0:=h.now;have hl:=h.len;have hc:S5 c:=h.ok c (by rw[hs];simp);have hst:PL cs e=Ej C8 D:=by
  unfold PL;rw[K2 (D:=D) (O:=c::O) (by rw[hs,HR,DP,Xr hce,hA,hB]) hD (λx hx=>by
   rcases List.mem_cons.1 hx with rfl | hx
   ·exact hc1
   ·exact hO x hx)]
 have hgs:GS (Ej C8 D):=by rw[← hst];exact Rf h.ok e
 unfold Hl;rw[A3 (by rw[Xa (by omega),Xa (by omega),Xa (show ¬ now<d.fNow by omega)];rfl),J6 hF (by omega) h.ok,AW rfl,hst];obtain⟨⟨n,hlop⟩,_⟩:=Mr (O:=Out (Al×Bool×Aw) Unit) (l:=A) (mk:=λi (_:Unit)=>(i:Int)) (body:=λσ=>CB F ⟨d.fNow,cs⟩ e now (Ej C8 D) σ) (λacc _=>acc) (λ_ _=>True) (λi hi acc _=>by
  refine⟨?_,trivial⟩;have hat:Af cs (i:Int)=A[i]:=by rw[hs];exact PH hi
  have hlt:(i:Int)<(cs.length:Int):=by rw[hs];simp;omega
  have hb:(decide ((A[i]).fOp.fEntity=e)&&decide ((A[i]).fTo<0))=false:=by
   by_cases he:(A[i]).fOp.fEntity=e
   ·have:=hD (A[i]) (by rw[← hA];exact List.mem_filter.2 ⟨List.getElem_mem hi,Xb he⟩);rw[Xa (show ¬ (A[i]).fTo<0 by omega),XF]
   ·rw[Xa he,XH]
  unfold CB;simp only;rw[AI (Xb hlt),AZ (by omega) hlt,hat,hb,A3 rfl,AP (by omega) (by omega)];rfl) (F:=F) (by rw[hs] at hl;simp at hl;omega) (a:=()) trivial
 have hlop':BW (λσ=>CB F ⟨d.fNow,cs⟩ e now (Ej C8 D) σ) F 0=BW (λσ=>CB F ⟨d.fNow,cs⟩ e now (Ej C8 D) σ) (n+1) (A.length:Int):=hlop;rw[hlop',BW];have hcl:cs.length=A.length+(B.length+1):=by rw[hs];simp
 have hlt:(A.length:Int)<(cs.length:Int):=by omega
 have hat:Af cs (A.length:Int)=c:=by rw[hs];exact Ee A c B
 have hset:∀y:Al,List.set cs A.length y=A++y::B:=λy=>by rw[hs,H0]
 have hlen:∀y:Al,(A++y::B).length=cs.length:=λy=>by rw[hs];simp
 have hb:CB F ⟨d.fNow,cs⟩ e now (Ej C8 D) (A.length:Int)=some (.out (.ret (⟨c.fOp,(It (Ej C8 D) c.fOp).2.1,c.fFrom,now⟩,true,⟨now,A++⟨c.fOp,(It (Ej C8 D) c.fOp).2.1,c.fFrom,now⟩::B⟩))):=by
  unfold CB;simp only;rw[AI (Xb hlt),AZ (by omega) hlt,hat,AI (by rw[Xb hce,Xb (show c.fTo<0 by omega)];rfl),OV hgs.1 hc.op (by decide) (by omega) (by have:=hc.ne;omega),AW rfl,XK,hset];unfold NC;simp only;rw[hlen,AZ (by omega) hlt,Ee,H0,hlen,AZ (by omega) hlt,Ee]
 rw[hb];rfl
theorem Uy (e:Aq)(now:Int):∃c b d' es' cs',I5 F d es cs e now=some (c,b,d',es',cs')∧Hl F ⟨d.fNow,cs⟩ e now=some (c,b,⟨d'.fNow,cs'⟩)∧O2 d' es' cs'∧cs'.length=cs.length∧(b=false→d'=d∧es'=es∧cs'=cs)∧(ML 250 c.fOp∧c.fOp.fArgs.length≤4∧c.fAnswer.fValue.length≤250):=by
 have hn0:=h.now;have hl:=h.len;have hz:ML 250 Lh.fOp∧Lh.fOp.fArgs.length≤4∧Lh.fAnswer.fValue.length≤250:=⟨⟨by decide,by decide,by decide,by decide,λv hv=>by cases hv⟩,by decide,by decide⟩
 by_cases ht:now<d.fNow
 ·refine⟨Lh,false,d,es,cs,?_,?_,h,rfl,λ_=>⟨rfl,rfl,rfl⟩,hz⟩
  ·unfold I5 DS;rw[AI (Xb ht),AI rfl];rfl
  ·unfold Hl;rw[AI (by rw[Xb (show now<d.fNow from ht)];simp)];rfl
 ·by_cases ht2:1073741824<now
  ·refine⟨Lh,false,d,es,cs,?_,?_,h,rfl,λ_=>⟨rfl,rfl,rfl⟩,hz⟩
   ·unfold I5 DS;rw[A3 (Xa ht),Xb ht2,AI rfl];rfl
   ·unfold Hl;rw[AI (by rw[Xb ht2];simp)];rfl
  ·have hnow:d.fNow≤now∧now≤1073741824:=by omega
   have hj:I5 F d es cs e now=DS F d es cs e now false:=by
    unfold I5;rw[A3 (Xa ht),Xa ht2]
   rw[hj]
   cases hg:BA d.fEntities e with
   | none=>
    have hh:=CO hg;have hown:CM cs e=[]:=LH λc hc he=>by
     have:=(h.enm e).2 ⟨c,hc,he⟩;rw[hh] at this;cases this
    refine⟨Lh,false,d,es,cs,?_,Mb hF h hnow (by rw[hown];exact λc hc=>by cases hc),h,rfl,λ_=>⟨rfl,rfl,rfl⟩,hz⟩;unfold DS;rw[A3 rfl,hh,A3 rfl];rfl
   | some k=>
    obtain⟨p,rfl,hp,hrec⟩:=h.ent _ _ hg;obtain⟨D,O,x1,x2,x3,x4,x5,x6⟩:=hrec.ex;have hfl:(Af es (p:Int)).fCalls.length=D.length+O.length:=by rw[hrec.ix,Ib,x1,Xm]
    have hDl:D.length+O.length≤200:=by rw[← Xm,← x1];exact Nat.le_trans (List.length_filter_le ..) hl
    cases O with
    | nil=>
     refine⟨Lh,false,d,es,cs,?_,Mb hF h hnow (by rw[x1,XB];exact x2),h,rfl,λ_=>⟨rfl,rfl,rfl⟩,hz⟩;unfold DS;rw[A3 rfl,Dg hg,AI rfl,E8 hg,AZ (by omega) (by omega),AI (Xb (by rw[x4,hfl,XA];rfl))];rfl
    | cons c O=>
     obtain⟨A,B,hs,hA,hB,hce⟩:=KO x1;have hc1:c.fTo = -1:=x3 c List.mem_cons_self;have hO:∀x∈O,x.fTo = -1:=λx hx=>x3 x (List.mem_cons_of_mem _ hx);have hc:S5 c:=h.ok c (by rw[hs];simp);have hgs:GS (Ej C8 D):=by
      have:=Rf h.ok e;rw[← hrec.st,x5] at this;exact this
     have hdo:=Rg hgs hc.op hc.er;have hi:Af (Af es (p:Int)).fCalls (D.length:Int)=(A.length:Int):=by
      rw[hrec.ix,hs,G4,Hv,Xr hce,← hA,← Ib e A 0,Ee,X0]
     have hcl:cs.length=A.length+(B.length+1):=by rw[hs];simp
     have hlt:(A.length:Int)<(cs.length:Int):=by omega
     have hat:Af cs (A.length:Int)=c:=by rw[hs];exact Ee A c B
     have hset:∀y:Al,List.set cs A.length y=A++y::B:=λy=>by rw[hs,H0]
     have hlen:∀y:Al,(A++y::B).length=cs.length:=λy=>by rw[hs];simp
     rw[Xj] at hfl hDl;have hcop:EK F ⟨c.fOp,(It (Ej C8 D) c.fOp).2.1,c.fFrom,now⟩=some ⟨c.fOp,(It (Ej C8 D) c.fOp).2.1,c.fFrom,now⟩:=Q8 hF ⟨hc.op,hc.ne,hc.er,hdo.2.2,.inr (by show 0≤now;omega)⟩;refine⟨⟨c.fOp,(It (Ej C8 D) c.fOp).2.1,c.fFrom,now⟩,true,⟨now,d.fEntities,d.fCalls⟩,es.set p ⟨(It (Ej C8 D) c.fOp).1,(Af es (p:Int)).fCalls,(D.length:Int)+1⟩,A++⟨c.fOp,(It (Ej C8 D) c.fOp).2.1,c.fFrom,now⟩::B,?_,Qd hF h hnow hs hA hB hce x2 hO hc1,TC h hnow hg hp hs hA hB hce x2 hO x6 hrec.ix hgs,hlen _,λx=>(by cases x),hc.op,hc.ne,hdo.2.2⟩;unfold DS;rw[A3 rfl,Dg hg,AI rfl,E8 hg,AZ (by omega) (by omega),x4,A3 (Xa (by omega)),AZ (by omega) (by omega),hi,BP (Xb (by omega)),AZ (by omega) hlt,hat,x5,V6 hgs.1 hc.op (by decide) (by omega) (by have:=hc.ne;omega),AW rfl,A3 (by rw[Xb hdo.2.1];rfl),AP (by omega) (by omega),XK,XK,hset];unfold NC;simp only;rw[hlen,AZ (by omega) hlt,Ee,H0,hlen,AZ (by omega) hlt,Ee,hcop,AW rfl]
end
def W6 (l:List Bu):Prop:=l.length≤50∧∀o∈l,ML 250 o.fOp∧o.fOp.fArgs.length≤4
def TV (l:List Bu):Bool:=decide (50<l.length)||l.any λo=>IG o.fOp
theorem Px {F:Nat}(hF:100<F)(l:List Bu):IA F l=some (!TV l):=by
 unfold IA TV;rw[show decide ((50:Int)<(l.length:Int))=decide (50<l.length) from GV 50 l]
 cases hl:decide (50<l.length) with
 | true=>rfl
 | false=>
  have hl' : ¬ 50<l.length:=of_decide_eq_false hl;rw[A3 rfl,EL (l:=l) (bad:=λo=>IG o.fOp) (u:=()) (by omega) (λi h=>by
   unfold E9;rw[AI (Xb (by omega)),AZ (by omega) (by omega),BS h,Sf hF,AW rfl,Bool.not_not,AP (by omega) (by omega)]) (by unfold E9;rw[A3 (Xa (by omega))])]
  cases l.any _<;>rfl
theorem V5 {l:List Bu}(hb:TV l=false)(hc:∀o∈l,o.fOp.fArgs.all (λv=>v.all HS)=true):W6 l:=by
 unfold TV at hb;simp only[X8,Xe,List.any_eq_false] at hb;refine⟨by omega,λo ho=>?_⟩;have h1:IG o.fOp=false:=by have:=hb.2 o ho;simpa using this
 refine⟨ML.of h1 (hc o ho),?_⟩;unfold IG at h1;simp only[X8,Xe] at h1;omega
theorem Ou {cs:List Al}(h:∀c∈cs,S5 c)(id:Aq):(Vc cs id).1.fValue.length≤250:=by
 unfold Vc
 split
 ·rename_i c hc;exact(h c (List.mem_of_find?_eq_some hc)).an
 ·exact X5 _
section
variable {F : Nat} {d : A5} {es : List As} {cs : List Al} (hF : 30000 ≤ F) (h : O2 d es cs)
include hF h
theorem Tj (e:Aq):EM F (CM cs e) (CM cs e)=some true:=by
 have hl:(CM cs e).length≤200:=Nat.le_trans (List.length_filter_le ..) h.len;exact Lu (M:=250) (by omega) (by omega) (by decide) (by omega) λc hc=>by
  have:=h.ok c (Oa hc).1;exact⟨this.op,by have:=this.ne;omega,this.an⟩
theorem Uo (e:Aq):Ev F (Vx cs e) (Vx cs e)=some true:=by
 have hl:(Vx cs e).length≤200:=by
  unfold Vx;rw[Xo];exact Nat.le_trans (List.length_filter_le ..) (Nat.le_trans (List.length_filter_le ..) h.len)
 exact Lt (by omega) (by omega)
omit hF in
theorem Uz (e:Aq):Gj F (PL cs e) (PL cs e)=some true∨F≤250:=by
 have:=(Rf h.ok e).1.hv;rcases Nat.lt_or_ge 250 F with hf | hf
 ·exact .inl (by rw[IK (by omega) (by omega),Xb rfl])
 ·exact .inr hf
theorem Q9 {X:Type}(K:Bool→Option X)(a:A8×Bool)(ha:a.1.fValue.length≤250)(e:Aq) :
  (Bt (HX d es cs e) λhb=>Bt (G1 F ⟨d.fNow,cs⟩ e) λhd=>Bt (Gj F hb hd) λhe=>Bq (!he) (K true) (Bt (EJ F d es cs e) λhf=>Bt (Ey F ⟨d.fNow,cs⟩ e) λhg=>Bt (Ev F hf hg) λhh=>Bq (!hh) (K true) (Bt (HZ F d es cs e) λhi=>Bt (GY F ⟨d.fNow,cs⟩ e) λhj=>Bt (EM F hi hj) λhk=>Bq (!hk) (K true) (Bt (HY d es cs) λhm=>Bt (G2 F ⟨d.fNow,cs⟩) λhn=>Bt (Ev F hm hn) λho=>Bq (!ho) (K true) (Bq (!(a.2 ==a.2)) (K true) (Bt (BD F a.1 a.1) λhp=>K (!hp)))))))=K false:=by
 have hl:=h.len;have hst:Gj F (PL cs e) (PL cs e)=some true:=(Uz h e).resolve_right (by omega);obtain⟨r,hr,hr2⟩:=Me (t:=d.fNow) hF (show cs.length≤1000 by omega);have h3:=hr2.2.2;rw[h.st,AW rfl,J6 hF (by omega) h.ok,AW rfl,hst,AW rfl,A3 (by rfl)];rw[Pk hF h,AW rfl,NX hF (by omega),AW rfl,Uo hF h,AW rfl,A3 (by rfl)];rw[Nt hF h,AW rfl,Qi hF (by omega),AW rfl,Tj hF h,AW rfl,A3 (by rfl)];rw[RO h hr2,AW rfl,hr,AW rfl,Lt (by omega) (by omega),AW rfl,A3 (by rfl)];rw[A3 (by rw[beq_self_eq_true];rfl),Jw (by omega) (by omega),AW rfl];rfl
end
theorem Pa {F:Nat}(hF:30000≤F){l:List Bu}(hl:W6 l){d:A5}{es:List As}{cs:List Al}(h:O2 d es cs){i:Nat}(hi:i<l.length)(hc:cs.length≤i) :
  ∃d' es' cs',C6 F l (i:Int) d.fNow cs d.fNow d.fEntities d.fCalls es cs=some (.next ((i:Int)+1,d'.fNow,cs',d'.fNow,d'.fEntities,d'.fCalls,es',cs'))∧O2 d' es' cs'∧cs'.length≤i+1:=by
 obtain⟨hl1,hl2⟩:=hl;obtain⟨hA,hne⟩:=hl2 _ (List.getElem_mem hi);have hb0:C6 F l (i:Int) d.fNow cs d.fNow d.fEntities d.fCalls es cs=C6 F l (i:Int) d.fNow cs d.fNow d.fEntities d.fCalls es cs:=rfl
 by_cases hk:(l[i]).fKind=0
 ·obtain⟨r,d',es',cs',h1,h2,h3,h4,h5⟩:=V1 hF h (by omega) hA hne (l[i]).fNow;refine⟨d',es',cs',?_,h3,by omega⟩;have hl2:=h3.len;unfold C6;rw[AI (Xb (by omega)),AZ (by omega) (by omega),BS hi,AI (Xb hk)];have h1':Dy F ⟨d.fNow,d.fEntities,d.fCalls⟩ es cs (l[i]).fOp (l[i]).fNow=_:=h1;rw[h1',AW rfl,h2,AW rfl];simp only;rw[A3 (by simp),JB hF h3,AW rfl,I0 hF (by omega),AW rfl];refine(Q9 hF h3 (λb=>CR (i:Int) (r,d',es',cs') (r,⟨d'.fNow,cs'⟩) b) (Vc cs' (l[i]).fOp.fID) (Ou h3.ok _) _).trans ?_;unfold CR;rw[A3 rfl,AP (by omega) (by omega)]
 ·by_cases hk1:(l[i]).fKind=1
  ·obtain⟨c,b,d',es',cs',h1,h2,h3,h4,h5,h6,h7,h8⟩:=Uy hF h (l[i]).fOp.fEntity (l[i]).fNow;refine⟨d',es',cs',?_,h3,by omega⟩;have hl2:=h3.len;unfold C6;rw[AI (Xb (by omega)),AZ (by omega) (by omega),BS hi,A3 (Xa hk),AI (Xb hk1)];have h1':I5 F ⟨d.fNow,d.fEntities,d.fCalls⟩ es cs (l[i]).fOp.fEntity (l[i]).fNow=_:=h1;rw[h1',AW rfl,h2,AW rfl];simp only;have hcc:EM F [c] [c]=some true:=Lu (M:=250) (by simp;omega) (by simp) (by decide) (by omega) λx hx=>by rw[List.mem_singleton.1 hx];exact⟨h6,by omega,h8⟩
   rw[hcc,Option.isSome_some,Kx,BP rfl,IR,A3 (by simp),JB hF h3,AW rfl,I0 hF (by omega),AW rfl];refine(Q9 hF h3 (λb'=>CQ (i:Int) (c,b,d',es',cs') (c,b,⟨d'.fNow,cs'⟩) b') (Vc cs' (l[i]).fOp.fID) (Ou h3.ok _) _).trans ?_;unfold CQ;rw[A3 rfl,AP (by omega) (by omega)]
  ·refine⟨d,es,cs,?_,h,by omega⟩;have hl2:=h.len;unfold C6;rw[AI (Xb (by omega)),AZ (by omega) (by omega),BS hi,A3 (Xa hk),A3 (Xa hk1)];have ha:He F ⟨d.fNow,d.fEntities,d.fCalls⟩ es cs (l[i]).fOp.fID=_:=JB hF h _;rw[ha,AW rfl,I0 hF (by omega),AW rfl];refine(Q9 hF h (λb'=>CP (i:Int) d.fNow cs d.fNow d.fEntities d.fCalls es cs b') (Vc cs (l[i]).fOp.fID) (Ou h.ok _) _).trans ?_;unfold CP;rw[A3 rfl,AP (by omega) (by omega)]
theorem Ql {F:Nat}(hF:30000≤F){l:List Bu}(hl:W6 l):∃x,BW (λσ:Int×Int×(List Al)×Int×(List (Aq×Int))×(List (Aq×Int))×(List As)×(List Al)=>C6 F l σ.1 σ.2.1 σ.2.2.1 σ.2.2.2.1 σ.2.2.2.2.1 σ.2.2.2.2.2.1 σ.2.2.2.2.2.2.1 σ.2.2.2.2.2.2.2) F (0,0,[],0,[],[],[],[])=some (.go x):=by
 obtain⟨o,h1,x,h2⟩:=Gi (body:=λσ:Int×Int×(List Al)×Int×(List (Aq×Int))×(List (Aq×Int))×(List As)×(List Al)=>C6 F l σ.1 σ.2.1 σ.2.2.1 σ.2.2.2.1 σ.2.2.2.2.1 σ.2.2.2.2.2.1 σ.2.2.2.2.2.2.1 σ.2.2.2.2.2.2.2)
  (λσ=>∃ (i:Nat) (d:A5) (es:List As) (cs:List Al),σ=((i:Int),d.fNow,cs,d.fNow,d.fEntities,d.fCalls,es,cs)∧O2 d es cs∧i≤l.length∧cs.length≤i) (λσ=>l.length-σ.1.toNat) (λo=>∃x,o = .go x) (λσ ⟨i,d,es,cs,hs,h,hi,hc⟩=>by
  subst hs;simp only
  by_cases hlt:i<l.length
  ·obtain⟨d',es',cs',r1,r2,r3⟩:=Pa hF hl h hlt hc;exact .inl ⟨_,r1,⟨i+1,d',es',cs',rfl,r2,by omega,r3⟩,by simp only;omega⟩
  ·refine .inr ⟨_,?_,⟨(es,cs),rfl⟩⟩;unfold C6;rw[A3 (Xa (by omega))]) F _ ⟨0,⟨0,[],[]⟩,[],[],rfl,UL,X5 _,Xq _⟩ (by have:=hl.1;show l.length-0<F;omega)
 exact⟨x,by rw[← h2];exact h1⟩
theorem Py (l:List Bu)(hc:∀o∈l,o.fOp.fArgs.all (λv=>v.all HS)=true):Ku 30000 l=some true:=by
 unfold Ku Tv NV GT;rw[Px (by decide),AW rfl,Pz]
 cases hb:TV l with
 | true=>rfl
 | false=>
  obtain⟨x,hx⟩:=Ql (Xq 30000) (V5 hb hc);rw[A3 (by rfl),AW rfl,AW rfl,hx,AW rfl];rfl
end Go.Proofs.YtfbmdidnlhifjaaGreatDoor
namespace Go.Proofs.YtfbmdidnlhifjaaGreatDoor.lawEntityPlays
open Go
set_option linter.unusedVariables false
theorem U9 {o:Bu}(h:Qq o=true):o.fOp.fArgs.all (λv=>v.all HS)=true:=by
 unfold Qq at h;simp only[Xf] at h;have h2:=h.1.2;unfold UA at h2;simp only[Xf] at h2;exact List.all_eq_true.2 λv hv=>(Bool.and_eq_true_iff.1 (List.all_eq_true.1 h2.2.1 v hv)).1
theorem U8 {l:List Bu}(h:(l.all Qq&&decide (l.length≤9223372036854775807))=true):∀o∈l,o.fOp.fArgs.all (λv=>v.all HS)=true:=λo ho=>
 U9 (List.all_eq_true.1 (Bool.and_eq_true_iff.1 h).1 o ho)
theorem WR:WX:=λl h=>⟨30000,Py l (U8 h)⟩
end Go.Proofs.YtfbmdidnlhifjaaGreatDoor.lawEntityPlays
