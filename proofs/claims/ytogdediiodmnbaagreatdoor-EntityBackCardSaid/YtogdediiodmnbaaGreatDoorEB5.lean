/-
  Texts of the proof, put together: LvB, LvC, LvD, LvE, LvF, LvG, LvH, LvI, LvJ, LvK, LvL, LvM, LvN, LdA, LdB, LdC, LdD, LdE, LdF, LdG, LdH, LdI, LdJ, LvO, LvP, LdK, LtA, LtB, LtD, LnA, LnB, LnC, LrA, LrB, LnD, LnE, LwEBack.
-/
import Derived.Test.YtogdediiodmnbaaGreatDoorEB4
namespace Go.Proofs.YtogdediiodmnbaaGreatDoor
open Go
set_option linter.unusedVariables false
set_option linter.unusedSimpArgs false
def K3 (s:Ah):Int:=s.length+2+s.count 34+s.count 92
theorem LL {s:Ah}(hs:s.length≤1152921504606846976):I2 s=some (K3 s):=by
 have h1:s.count 34≤s.length:=List.count_le_length;have h2:s.count 92≤s.length:=List.count_le_length;unfold I2 Lib.countByte;rw[Bp (by omega) (by omega),Bp (by omega) (by omega),Bp (by omega) (by omega)];rfl
def W6 (c:Ab):Int:=
 bif decide (c.fKind=1) then 4 else bif decide (c.fKind=2) then IntKind.wrap .i64 (5-c.fInt) else bif decide (c.fKind=3) then((Lib.itoa c.fInt).length:Int) else
 bif decide (c.fKind=4) then K3 c.fStr else IntKind.wrap .i64 (2+max 0 (IntKind.wrap .i64 (c.fN-1)))
theorem OF {c:Ab}(hs:c.fStr.length≤1152921504606846976)(hi:Ci .i64 c.fInt=true):OG c=some (W6 c):=by
 unfold OG W6;rw[LL hs];refine DP rfl (DP rfl (DP ?_ (DP rfl rfl)));rw[Cl hi]
def HV (d:Nat)(sh:AF)(c:Ab):AF:=
 ⟨max sh.fDepth ((d:Int)+1),IntKind.wrap .i64 (sh.fBytes+W6 c),sh.fOutside||(decide (c.fKind=3)&&!(decide ((-1000000000000)≤c.fInt)&&decide (c.fInt≤1000000000000))),sh.fLong||decide (200<(c.fStr.length:Int))⟩
def Xk (sh:AF)(c:Ab):AF:=⟨sh.fDepth,IntKind.wrap .i64 (sh.fBytes+(K3 c.fStr+1)),sh.fOutside,sh.fLong||decide (200<(c.fStr.length:Int))⟩
def KH:List A6→Bool
 | []=>false
 | e::_=>e.fKey
abbrev O0:=List A6×Int×AF
abbrev Wx:=Out (Int×AF×Bool) AF
def PK (n:Int)(S:List A6)(i:Int)(sh:AF)(c:Ab):Stp O0 Wx:=
 bif !pl c then .out (.ret (0,sh,false)) else
 match S with
 | e::S'=>
  bif e.fKey then
   bif !decide (c.fKind=4)||(e.fStarted&&(Cu c.fStr e.fLast||decide (c.fStr=e.fLast))) then .out (.ret (0,sh,false))
   else .next ((⟨e.fPairs,e.fLeft,false,c.fStr,true⟩::S').reverse,i+1,Xk sh c)
  else bif decide (0<c.fN) then
   bif decide (n<c.fN) then .out (.ret (0,HV S.length sh c,false))
   else .next ((⟨decide (c.fKind=6),c.fN,decide (c.fKind=6),[],false⟩::S).reverse,i+1,HV S.length sh c)
  else bif decide (Li S=[]) then .out (.ret (i+1,HV S.length sh c,true)) else .next ((Li S).reverse,i+1,HV S.length sh c)
 | []=>
  bif decide (0<c.fN) then
   bif decide (n<c.fN) then .out (.ret (0,HV 0 sh c,false))
   else .next ([⟨decide (c.fKind=6),c.fN,decide (c.fKind=6),[],false⟩],i+1,HV 0 sh c)
  else .out (.ret (i+1,HV 0 sh c,true))
theorem M1 {S:List A6}:decide (((Li S).reverse.length:Int)=0)=decide (Li S=[]):=by
 rw[Yx];simp
theorem Xx {α:Type}{xs:List α}{e x:α}{M:Nat}(h:xs.length+1≤M)(hM2:(M+2)*48≤140737488355328):DI 48 ((xs++[e]).length+([x]:List α).length)=true:=by
 refine Yr (Nat.le_trans (Nat.mul_le_mul_right 48 ?_) hM2);rw[Yn,Y8,Y8];omega
set_option maxHeartbeats 600000 in
theorem OM {F:Nat}{v:List Ab}{S:List A6}{i:Int}{sh:AF}{c:Ab}(h0:0≤i)(hc:v[i.toNat]? =some c){M:Nat}(hM:M≤1152921504606846976)(hM2:(M+2)*48≤140737488355328)(hv:v.length≤M)(hS:S.length≤M)(hF:M<F)
  (hs:c.fStr.length≤M) (hi:Ci .i64 c.fInt=true) (hb:∀e∈S,1≤e.fLeft∧e.fLeft≤9223372036854775807):Dw F v S.reverse i sh=some (PK v.length S i sh c):=by
 have hil:i.toNat<v.length:=(List.getElem?_eq_some_iff.1 hc).1;have hat:Aj v i=c:=by simp[Aj,hc]
 unfold Dw PK;rw[AZ (by simp;omega),B9 h0 (by omega),hat,R9 (by omega) (by omega),Bf rfl]
 cases hp:pl c with
 | false=>rw[AZ (by simp)];rfl
 | true=>
  rw[AH (by simp)]
  cases S with
  | nil=>
   rw[Cl (by simp[imp]),Cl (by simp[imp]),AH (by simp),Bp (by simp) (by simp),OF (by omega) hi,Bf rfl,Cl (by simp[imp,B6])];simp only[B6,ov,YC,Ys,Yj]
   cases hn:decide (0<c.fN) with
   | true=>
    rw[AZ rfl]
    cases hm:decide ((v.length:Int)<c.fN) with
    | true=>rw[AZ rfl];simp[HV]
    | false=>rw[AH rfl,Cl (by simp[DI])];unfold DM;rw[Bp (by omega) (by omega)];simp[HV]
   | false=>
    rw[AH rfl,Bf (LP (S:=[]) (by simp;omega) (by simp) (by simp)),AZ (by simp[Li]),Bp (by omega) (by omega)];simp[HV]
  | cons e S'=>
   have hx:S'.reverse.length=S'.length:=by simp
   generalize hxs:S'.reverse=xs at hx;have hr:(e::S').reverse=xs++[e]:=by simp[hxs]
   simp only[Yk] at hS;have hlen:((xs++[e]).length:Int)=(xs.length:Int)+1:=by simp
   rw[hr,Cl (by simp only[imp,Kc];rw[Kd (by omega) (by omega)];simp),Cl (by simp only[imp,Kc];rw[Q1 (by omega) (by omega)];simp)];rw[Kc,LC]
   cases hk:e.fKey with
   | true=>
    rw[AZ (by simp),Bp (by omega) (by omega),B9 (by omega) (by omega)];simp only[hk,Ys,Yj,Ym]
    cases ht : !decide (c.fKind=4)||(e.fStarted&&(Cu c.fStr e.fLast||decide (c.fStr=e.fLast))) with
    | true=>rw[AZ rfl];rfl
    | false=>
     rw[AH rfl,JF,Jz,LC,JF,Jz,LC,JF,Jz,LL (by omega),Bf rfl,Bp (by unfold K3;omega) (by unfold K3;have:=@List.count_le_length UInt8 _ 34 c.fStr;have:=@List.count_le_length UInt8 _ 92 c.fStr;omega)];unfold DM;rw[Bp (by omega) (by omega)];simp[Xk,hxs]
   | false=>
    rw[AH (by simp),hlen,Bp (by omega) (by omega),OF (by omega) hi,Bf rfl,Cl (by simp[imp,B6])];simp only[hk,B6,ov,YC,Ys,Yj,Ym]
    cases hn:decide (0<c.fN) with
    | true=>
     rw[AZ rfl]
     cases hm:decide ((v.length:Int)<c.fN) with
     | true=>rw[AZ rfl];simp[HV,hx]
     | false=>rw[AH rfl,Cl (Xx (by omega) hM2)];unfold DM;rw[Bp (by omega) (by omega)];simp[HV,hx,hxs]
    | false=>
     have hcl:=LP (S:=e::S') (F:=F) (by simp;omega) hb (by simp;omega);rw[hr] at hcl;rw[AH rfl,hcl,Bf rfl,M1]
     cases hq:decide (Li (e::S')=[]) with
     | true=>rw[AZ rfl,Bp (by omega) (by omega)];simp[HV,hx]
     | false=>rw[AH rfl];unfold DM;rw[Bp (by omega) (by omega)];simp[HV,hx]
section
variable {S O : Type} {body : S → Option (Stp S O)} {s t u : S} {o : O}
def DQ (body:S→Option (Stp S O))(s t:S):Prop:=∃k,∀n,Ch body (n+k) s=Ch body n t
def Fin (body:S→Option (Stp S O))(s:S)(o:O):Prop:=∃k,∀n,Ch body (n+k) s=some o
theorem DQ.refl (s:S):DQ body s s:=⟨0,λ_=>rfl⟩
theorem DQ.trans (h:DQ body s t)(h':DQ body t u):DQ body s u:=by
 obtain⟨k,hk⟩:=h;obtain⟨j,hj⟩:=h';exact⟨j+k,λn=>by rw[← Nat.add_assoc,hk,hj]⟩
theorem DQ.step (h:body s=some (.next t)):DQ body s t:=⟨1,λn=>by rw[Ch,h]⟩
theorem Fin.step (h:body s=some (.out o)):Fin body s o:=⟨1,λn=>by rw[Ch,h]⟩
theorem DQ.fin (h:DQ body s t)(h':Fin body t o):Fin body s o:=by
 obtain⟨k,hk⟩:=h;obtain⟨j,hj⟩:=h';exact⟨j+k,λn=>by rw[← Nat.add_assoc,hk,hj]⟩
end
inductive Fo where
 | nil
 | cell (k:Option Ah) (c:Ab) (r:Fo)
 | node (k:Option Ah) (c:Ab) (kids r:Fo)
def BB:Option Ah→List Ab
 | none=>[]
 | some s=>[⟨4,0,s,0⟩]
def Fo.flat:Fo→List Ab
 | .nil=>[]
 | .cell k c r=>BB k++c::r.flat
 | .node k c kids r=>BB k++c::(kids.flat++r.flat)
def Fo.cnt:Fo→Nat
 | .nil=>0
 | .cell _ _ r=>r.cnt+1
 | .node _ _ _ r=>r.cnt+1
def B0 (m:Bool)(last:Option Ah):Option Ah→Bool
 | none=>!m
 | some s=>m&&s.all IQ&&(match last with
  | none=>true
  | some p=>!(Cu s p||decide (s=p)))
def Fo.wf:Bool→Option Ah→Fo→Bool
 | _,_,.nil=>true
 | m,last,.cell k c r=>B0 m last k&&pl c&&!decide (0<c.fN)&&r.wf m k
 | m,last,.node k c kids r=>B0 m last k&&pl c&&decide (0<c.fN)&&decide (c.fN=kids.cnt)&&kids.wf (decide (c.fKind=6)) none&&r.wf m k
def Lc (k:Option Ah)(sh:AF):AF:=match k with
 | none=>sh
 | some s=>Xk sh ⟨4,0,s,0⟩
def Fo.sh (d:Nat):AF→Fo→AF
 | s,.nil=>s
 | s,.cell k c r=>r.sh d (HV d (Lc k s) c)
 | s,.node k c kids r=>r.sh d (kids.sh (d+1) (HV d (Lc k s) c))
def GX (body:O0→Option (Stp O0 Wx))(s:O0)(S:List A6)(i:Int)(sh:AF):Prop:=
 if Li S=[] then Fin body s (.ret (i,sh,true)) else DQ body s ((Li S).reverse,i,sh)
theorem GX.of {body:O0→Option (Stp O0 Wx)}{s t:O0}{S:List A6}{i:Int}{sh:AF}(h:DQ body s t)(h':GX body t S i sh):GX body s S i sh:=by
 unfold GX at *
 split
 ·rename_i e;rw[Y6 e] at h';exact h.fin h'
 ·rename_i e;rw[Yw e] at h';exact h.trans h'
theorem GX.pop {body:O0→Option (Stp O0 Wx)}{s:O0}{e:A6}{S:List A6}{i:Int}{sh:AF}(h:GX body s (e::S) i sh)(h1:e.fLeft=1):GX body s S i sh:=by
 have:Li (e::S)=Li S:=by simp[Li,h1]
 unfold GX at *;rw[this] at h;exact h
theorem GX.more {body:O0→Option (Stp O0 Wx)}{s:O0}{e:A6}{S:List A6}{i:Int}{sh:AF}(h:GX body s (e::S) i sh)(h1:1<e.fLeft):DQ body s ((⟨e.fPairs,e.fLeft-1,e.fPairs,e.fLast,e.fStarted⟩::S).reverse,i,sh):=by
 have:Li (e::S)=⟨e.fPairs,e.fLeft-1,e.fPairs,e.fLast,e.fStarted⟩::S:=by simp[Li,h1]
 unfold GX at *;rw[this,Yw (by simp)] at h;exact h
structure Ry (F M:Nat) (v:List Ab):Prop where
 hM:M≤1152921504606846976
 hM2:(M+2)*48≤140737488355328
 hv:v.length≤M
 hF:M<F
 hc:∀c∈v,c.fStr.length≤M∧Ci .i64 c.fInt=true∧c.fN≤9223372036854775807
abbrev Pu (F:Nat)(v:List Ab):O0→Option (Stp O0 Wx):=λσ=>Dw F v σ.1 σ.2.1 σ.2.2
def D3 (S:List A6):Prop:=∀e∈S,1≤e.fLeft∧e.fLeft≤9223372036854775807
section
variable {F M : Nat} {v : List Ab} {S : List A6} {i : Int} {sh : AF} {c : Ab} {r : List Ab} {e : A6}
theorem Ev (h0:0≤i)(h:v.drop i.toNat=c::r):v[i.toNat]? =some c∧v.drop (i+1).toNat=r∧i<v.length:=by
 have h1:(v.drop i.toNat)[0]? =some c:=by rw[h];rfl
 have h2:v[i.toNat]? =some c:=by simpa using h1
 have h3:=(List.getElem?_eq_some_iff.1 h2).1;refine⟨h2,?_,by omega⟩;rw[show(i+1).toNat=i.toNat+1 from by omega,← List.drop_drop,h];rfl
theorem round (hA:Ry F M v)(h0:0≤i)(h:v.drop i.toNat=c::r)(hS:(S.length:Int)≤i)(hb:D3 S):Pu F v (S.reverse,i,sh)=some (PK v.length S i sh c):=by
 obtain⟨h1,_,h3⟩:=Ev h0 h;obtain⟨a,b,_⟩:=hA.hc c (Yu h1);have:=hA.hv;exact OM h0 h1 hA.hM hA.hM2 hA.hv (by omega) hA.hF a b hb
def EQ (e:A6):Option Ah→A6
 | none=>e
 | some s=>⟨e.fPairs,e.fLeft,false,s,true⟩
def Im (e:A6):Option Ah→Prop
 | none=>e.fStarted=false
 | some p=>e.fStarted=true∧e.fLast=p
theorem Ms (hA:Ry F M v)(h0:0≤i){k last:Option Ah}(h:v.drop i.toNat=BB k++r)(hS:(S.length:Int)+1≤i)(hb:D3 (e::S))(hk:B0 e.fKey last k=true)(hl:Im e last) :
  DQ (Pu F v) ((e::S).reverse,i,sh) ((EQ e k::S).reverse,i+(BB k).length,Lc k sh):=by
 cases k with
 | none=>simpa[EQ,BB,Lc] using DQ.refl _
 | some s=>
  simp only[B0,Yl] at hk;obtain⟨⟨hm,hok⟩,hcmp⟩:=hk;refine DQ.step ?_;rw[round hA h0 (by simpa[BB] using h) (by simpa using hS) hb];have hp:pl ⟨4,0,s,0⟩=true:=by simp[pl,hok]
  have ht:(e.fStarted&&(Cu s e.fLast||decide (s=e.fLast)))=false:=by
   cases last with
   | none=>simp only[Im] at hl;rw[hl];rfl
   | some p=>obtain⟨h1,h2⟩:=hl;rw[h1,h2];simpa using hcmp
  simp only[PK,hp,hm,ht,Ys,Yj,Ym,decide_true,YB,Bool.or_self];rfl
theorem KG {k last:Option Ah}(hk:B0 e.fKey last k=true):(EQ e k).fKey=false:=by
 cases k with
 | none=>simpa[EQ,B0] using hk
 | some s=>rfl
theorem Jq (k:Option Ah):(EQ e k).fLeft=e.fLeft∧(EQ e k).fPairs=e.fPairs:=by cases k<;>exact⟨rfl,rfl⟩
theorem KE (hA:Ry F M v)(h0:0≤i)(h:v.drop i.toNat=c::r)(hS:(S.length:Int)≤i)(hb:D3 S)(hk:KH S=false)(hp:pl c=true)(hn:decide (0<c.fN)=false) :
  GX (Pu F v) (S.reverse,i,sh) S (i+1) (HV S.length sh c):=by
 have hr:=round (sh:=sh) hA h0 h hS hb;unfold GX
 cases S with
 | nil=>
  rw[Y6 (by simp[Li])];refine Fin.step ?_;rw[hr];simp[PK,hp,hn]
 | cons e S=>
  simp only[KH] at hk
  split
  ·rename_i hc
   refine Fin.step ?_;rw[hr];simp[PK,hp,hn,hk,hc]
  ·rename_i hc
   refine DQ.step ?_;rw[hr];simp[PK,hp,hn,hk,hc]
theorem I9 (hA:Ry F M v)(h0:0≤i)(h:v.drop i.toNat=c::r)(hS:(S.length:Int)≤i)(hb:D3 S)(hk:KH S=false)(hp:pl c=true)(hn:decide (0<c.fN)=true)(hv:c.fN≤v.length) :
  DQ (Pu F v) (S.reverse,i,sh) ((⟨decide (c.fKind=6),c.fN,decide (c.fKind=6),[],false⟩::S).reverse,i+1,HV S.length sh c):=by
 have hr:=round (sh:=sh) hA h0 h hS hb;have hv':decide ((v.length:Int)<c.fN)=false:=by simpa using hv
 refine DQ.step ?_;rw[hr]
 cases S with
 | nil=>simp only[PK,hp,hn,hv',Ys,Yj,Ym];rfl
 | cons e S=>
  simp only[KH] at hk;simp only[PK,hp,hn,hv',hk,Ys,Yj,Ym]
theorem CB:∀f:Fo,f.cnt≤f.flat.length
 | .nil=>Y2 _
 | .cell k c r=>by have:=CB r;simp[Fo.cnt,Fo.flat];omega
 | .node k c kids r=>by have:=CB r;simp[Fo.cnt,Fo.flat];omega
theorem Di {α:Type}{v xs r:List α}{i:Int}(h0:0≤i)(h:v.drop i.toNat=xs++r):v.drop (i+xs.length).toNat=r:=by
 rw[show(i+(xs.length:Int)).toNat=i.toNat+xs.length from by omega,← List.drop_drop,h,List.drop_left]
theorem OV (hA:Ry F M v){e':A6}{s:O0}{k:Option Ah}{r':Fo}
  (ih:∀(e:A6) (S:List A6) (i:Int) (sh:AF) (last:Option Ah) (r:List Ab),1≤r'.cnt→r'.wf e.fPairs last=true→e.fKey=e.fPairs→e.fLeft=r'.cnt→Im e last→(e.fPairs=false→last=none)→v.drop i.toNat=r'.flat++r→0≤i→(S.length:Int)+1≤i→D3 S→
   GX (Pu F v) ((e::S).reverse,i,sh) S (i+r'.flat.length) (r'.sh (S.length+1) sh))
  (hd:GX (Pu F v) s (e'::S) i sh) (hl:e'.fLeft=r'.cnt+1) (hw:r'.wf e'.fPairs k=true) (hk:Im e' k) (hm:e'.fPairs=false→k=none) (hv:v.drop i.toNat=r'.flat++r) (h0:0≤i) (hS:(S.length:Int)+1≤i) (hb:D3 S) :
  GX (Pu F v) s S (i+r'.flat.length) (r'.sh (S.length+1) sh):=by
 by_cases h1:r'.cnt=0
 ·cases r' with
  | nil=>simpa[Fo.flat,Fo.sh] using hd.pop (by rw[hl];rfl)
  | cell _ _ _=>simp[Fo.cnt] at h1
  | node _ _ _ _=>simp[Fo.cnt] at h1
 ·have:=hd.more (by omega);refine GX.of this (ih _ S i sh k r (by omega) hw rfl (by simp only;omega) ?_ hm hv h0 hS hb)
  cases k with
  | none=>exact hk
  | some p=>exact hk
theorem Jr {k last:Option Ah}(hl:Im e last)(hm:e.fPairs=false→last=none)(hk:B0 e.fPairs last k=true):Im (EQ e k) k∧((EQ e k).fPairs=false→k=none):=by
 cases k with
 | none=>
  have:e.fPairs=false:=by simpa[B0] using hk
  rw[hm this] at hl;exact⟨hl,λ_=>rfl⟩
 | some s=>
  refine⟨⟨rfl,rfl⟩,λh=>?_⟩;have h:e.fPairs=false:=h;simp[B0,h] at hk
theorem Lh (hA:Ry F M v):∀(f:Fo) (e:A6) (S:List A6) (i:Int) (sh:AF) (last:Option Ah) (r:List Ab),1≤f.cnt→f.wf e.fPairs last=true→e.fKey=e.fPairs→e.fLeft=f.cnt→Im e last→(e.fPairs=false→last=none)→v.drop i.toNat=f.flat++r→0≤i→(S.length:Int)+1≤i→D3 S→
   GX (Pu F v) ((e::S).reverse,i,sh) S (i+f.flat.length) (f.sh (S.length+1) sh):=by
 have hmax:∀(i:Int) (xs:List Ab),0≤i→v.drop i.toNat=xs→xs.length≤v.length:=λi xs _ h=>by rw[← h,YY];omega
 intro f
 induction f with
 | nil=>intro e S i sh last r h1;simp[Fo.cnt] at h1
 | cell k c r' ih=>
  intro e S i sh last r h1 hw hk hl hlo hm hv h0 hS hb;simp only[Fo.wf,Yl,Yy] at hw;obtain⟨⟨⟨w1,w2⟩,w3⟩,w4⟩:=hw;simp only[Fo.flat,YL,YS] at hv;have hcnt:=hmax i _ h0 hv;have hcf:=CB r';simp only[Yn,Yk] at hcnt;have hvM:=hA.hv;have hMM:=hA.hM;simp only[Fo.cnt] at hl;have hb':D3 (e::S):=λx hx=>by
   rcases List.mem_cons.1 hx with rfl | hx
   ·constructor<;>omega
   ·exact hb x hx
  have hkr:=Ms (sh:=sh) hA h0 hv hS hb' (by rw[hk];exact w1) hlo;have hv1:=Di h0 hv;obtain⟨kl,kp⟩:=Jq (e:=e) k;have hbk:D3 (EQ e k::S):=λx hx=>by
   rcases List.mem_cons.1 hx with rfl | hx
   ·rw[kl];exact hb' e (by simp)
   ·exact hb x hx
  have hd:=KE (sh:=Lc k sh) hA (by omega) hv1 (by simp only[Yk];omega) hbk (KG (by rw[hk];exact w1)) w2 w3;obtain⟨q1,q2⟩:=Jr hlo hm w1;have hv2:=(Ev (by omega) hv1).2.1;have:=OV hA ih (hd.of hkr) (by rw[kl,hl];rfl) (by rw[kp];exact w4) q1 q2 hv2 (by omega) (by omega) hb;simp only[Fo.flat,Fo.sh,Yn,Yk];rw[show i+((((BB k).length+(r'.flat.length+1):Nat)):Int)=i+(BB k).length+1+r'.flat.length from by omega];exact this
 | node k c kids r' ihk ih=>
  intro e S i sh last r h1 hw hk hl hlo hm hv h0 hS hb;simp only[Fo.wf,Yl,Yg] at hw;obtain⟨⟨⟨⟨⟨w1,w2⟩,w3⟩,w5⟩,w6⟩,w4⟩:=hw;simp only[Fo.flat,YL,YS] at hv;have hcnt:=hmax i _ h0 hv;have hcf:=CB r';have hck:=CB kids;simp only[Yn,Yk] at hcnt;have hvM:=hA.hv;have hMM:=hA.hM;simp only[Fo.cnt] at hl;have hb':D3 (e::S):=λx hx=>by
   rcases List.mem_cons.1 hx with rfl | hx
   ·constructor<;>omega
   ·exact hb x hx
  have hkr:=Ms (sh:=sh) hA h0 hv hS hb' (by rw[hk];exact w1) hlo;have hv1:=Di h0 hv;obtain⟨kl,kp⟩:=Jq (e:=e) k;have hbk:D3 (EQ e k::S):=λx hx=>by
   rcases List.mem_cons.1 hx with rfl | hx
   ·rw[kl];exact hb' e (by simp)
   ·exact hb x hx
  have hn:=I9 (sh:=Lc k sh) hA (by omega) hv1 (by simp only[Yk];omega) hbk (KG (by rw[hk];exact w1)) w2 (by simpa using w3) (by omega);have hv2:=(Ev (by omega) hv1).2.1;have hd:=ihk ⟨decide (c.fKind=6),c.fN,decide (c.fKind=6),[],false⟩ (EQ e k::S) (i+(BB k).length+1) (HV (S.length+1) (Lc k sh) c) none _ (by omega) w6 rfl w5 rfl (λ_=>rfl) hv2 (by omega) (by simp only[Yk];omega) hbk;obtain⟨q1,q2⟩:=Jr hlo hm w1;have hv3:=Di (by omega) hv2;have:=OV hA ih ((hd.of hn).of hkr) (by rw[kl,hl];rfl) (by rw[kp];exact w4) q1 q2 hv3 (by omega) (by omega) hb;simp only[Fo.flat,Fo.sh,Yn,Yk];rw[show i+((((BB k).length+(kids.flat.length+r'.flat.length+1):Nat)):Int)=i+(BB k).length+1+kids.flat.length+r'.flat.length from by omega];exact this
end
theorem Ps {S O:Type}{body:S→Option (Stp S O)}{o:O}:∀{n:Nat} {s:S} (k:Nat),Ch body n s=some o→Ch body (n+k) s=some o
 | 0,s,k,h=>by cases h
 | n+1,s,k,h=>by
  rw[show n+1+k=n+k+1 from by omega,Ch];rw[Ch] at h
  cases hb:body s with
  | none=>rw[hb] at h;cases h
  | some t=>
   rw[hb] at h
   cases t with
   | next s'=>exact Ps k h
   | out o'=>exact h
theorem Fin.eq {S O:Type}{body:S→Option (Stp S O)}{s:S}{o o':O}{n:Nat}(h:Fin body s o)(h':Ch body n s=some o'):o'=o:=by
 obtain⟨k,hk⟩:=h;have:=Ps k h';rw[hk n] at this;exact(A2 this).symm
theorem NB:∀{S:List A6},D3 S→D3 (Li S)∧(Li S).length≤S.length
 | [],h=>⟨h,Y2 _⟩
 | e::S,h=>by
  have hS:D3 S:=λx hx=>h x (by simp[hx]);have he:=h e (by simp);unfold Li
  cases hd:decide (1<e.fLeft) with
  | true=>
   simp only[Yg] at hd;refine⟨λx hx=>?_,by simp⟩;rcases List.mem_cons.1 hx with rfl | hx
   ·simp only;omega
   ·exact hS x hx
  | false=>
   obtain⟨h1,h2⟩:=NB hS;exact⟨h1,by simp only[Yj,Yk];omega⟩
theorem TU {n:Int}{S:List A6}{i:Int}{sh:AF}{c:Ab}{σ:O0}(hb:D3 S)(hS:(S.length:Int)≤i)(hN:c.fN≤9223372036854775807)(h:PK n S i sh c = .next σ):∃S' sh',σ=(S'.reverse,i+1,sh')∧D3 S'∧(S'.length:Int)≤i+1:=by
 unfold PK at h
 cases hp:pl c with
 | false=>simp[hp] at h
 | true=>
  simp only[hp,Ys,Yj] at h
  cases S with
  | nil=>
   simp only at h
   cases hn:decide (0<c.fN) with
   | false=>simp[hn] at h
   | true=>
    simp only[hn,Ym] at h
    cases hm:decide (n<c.fN) with
    | true=>simp[hm] at h
    | false=>
     simp only[hm,Yj,Stp.next.injEq] at h;refine⟨[_],_,h.symm,λx hx=>?_,by simp at hS ⊢;omega⟩;simp only[Y3] at hx;subst hx;simp only[Yg] at hn;exact⟨by simp only;omega,hN⟩
  | cons e S=>
   have he:=hb e (by simp);have hbS:D3 S:=λx hx=>hb x (by simp[hx]);simp only[Yk] at hS
   cases hk:e.fKey with
   | true=>
    simp only[hk,Ym] at h
    cases hq:(!decide (c.fKind=4)||(e.fStarted&&(Cu c.fStr e.fLast||decide (c.fStr=e.fLast)))) with
    | true=>rw[hq] at h;simp at h
    | false=>
     rw[hq] at h;simp only[Yj,Stp.next.injEq] at h;refine⟨_::S,_,h.symm,λx hx=>?_,by simp only[Yk];omega⟩;rcases List.mem_cons.1 hx with rfl | hx
     ·exact he
     ·exact hbS x hx
   | false=>
    simp only[hk,Yj] at h
    cases hn:decide (0<c.fN) with
    | true=>
     simp only[hn,Ym] at h
     cases hm:decide (n<c.fN) with
     | true=>simp[hm] at h
     | false=>
      simp only[hm,Yj,Stp.next.injEq] at h;refine⟨_::e::S,_,h.symm,λx hx=>?_,by simp only[Yk];omega⟩;rcases List.mem_cons.1 hx with rfl | hx
      ·simp only[Yg] at hn;exact⟨by simp only;omega,hN⟩
      ·exact hb x hx
    | false=>
     simp only[hn,Yj] at h
     cases hq:decide (Li (e::S)=[]) with
     | true=>rw[hq] at h;simp at h
     | false=>
      rw[hq] at h;simp only[Yj,Stp.next.injEq] at h;obtain⟨h1,h2⟩:=NB hb;simp only[Yk] at h2;exact⟨_,_,h.symm,h1,by omega⟩
theorem Mm {F M:Nat}{v:List Ab}(hA:Ry F M v):∃o,Ch (Pu F v) F (([]:List A6),0,(⟨0,0,false,false⟩:AF))=some o∧True:=by
 refine Ka (λσ=>∃S i sh,σ=(S.reverse,i,sh)∧D3 S∧(S.length:Int)≤i∧0≤i∧i≤v.length) (λσ=>v.length-σ.2.1.toNat) (λ_=>True) (λσ hI=>?_) F _ ⟨[],0,_,rfl,(λx hx=>by cases hx),YI _,YI _,by omega⟩ (by have:=hA.hv;have:=hA.hF;simp;omega);obtain⟨S,i,sh,rfl,hb,hS,h0,hi⟩:=hI
 by_cases hx:i<v.length
 ·obtain⟨c,hc⟩:∃c,v[i.toNat]? =some c:=⟨v[i.toNat]'(by omega),Yp (by omega)⟩
  have hdr:v.drop i.toNat=c::v.drop (i.toNat+1):=by rw[List.drop_eq_getElem_cons (by omega)];congr 1;exact(List.getElem?_eq_some_iff.1 hc).2
  have hr:=round (sh:=sh) hA h0 hdr hS hb
  cases hl:PK v.length S i sh c with
  | next τ=>
   obtain⟨S',sh',rfl,h1,h2⟩:=TU hb hS (hA.hc c (Yu hc)).2.2 hl;exact .inl ⟨_,by rw[hr,hl],⟨S',i+1,sh',rfl,h1,h2,by omega,by omega⟩,by simp only;omega⟩
  | out o=>exact .inr ⟨o,by rw[hr,hl],trivial⟩
 ·refine .inr ⟨.go sh,?_,trivial⟩;show Dw F v S.reverse i sh=_;unfold Dw;rw[AH (by simpa using hx)]
def Fo.one:Fo→Bool
 | .cell none _ .nil=>true
 | .node none _ _ .nil=>true
 | _=>false
def LR:AF:=⟨0,0,false,false⟩
theorem TT {F M:Nat}{v:List Ab}(hA:Ry F M v){f:Fo}(h1:f.one=true)(hw:f.wf false none=true){r:List Ab}(hv:v=f.flat++r):Fin (Pu F v) ([],0,LR) (.ret (f.flat.length,f.sh 0 LR,true)):=by
 have h0:v.drop (0:Int).toNat=f.flat++r:=by rw[hv];rfl
 have hlen:f.flat.length≤v.length:=by rw[hv];simp
 cases f with
 | nil=>cases h1
 | cell k c r'=>
  cases k with
  | some s=>cases h1
  | none=>
   cases r' with
   | nil=>
    simp only[Fo.wf,Yl,Yy] at hw;have:=KE (S:=[]) (sh:=LR) hA (YI 0) h0 (by simp) (λx hx=>by cases hx) rfl hw.1.1.2 hw.1.2;unfold GX at this;rw[Y6 (show Li []=[] from rfl)] at this;simpa[Fo.flat,Fo.sh,BB,Lc] using this
   | cell _ _ _=>cases h1
   | node _ _ _ _=>cases h1
 | node k c kids r'=>
  cases k with
  | some s=>cases h1
  | none=>
   cases r' with
   | nil=>
    simp only[Fo.wf,Yl,Yg] at hw;obtain⟨⟨⟨⟨⟨w1,w2⟩,w3⟩,w5⟩,w6⟩,w4⟩:=hw;have hck:=CB kids;simp only[Fo.flat,BB,YU,YV,Yk] at hlen;have hvM:=hA.hv;have hMM:=hA.hM;have hn:=I9 (S:=[]) (sh:=LR) hA (YI 0) h0 (by simp) (λx hx=>by cases hx) rfl w2 (by simpa using w3) (by omega);have hv2:=(Ev (YI 0) h0).2.1;have hd:=Lh hA kids ⟨decide (c.fKind=6),c.fN,decide (c.fKind=6),[],false⟩ [] (0+1) (HV 0 LR c) none r (by omega) w6 rfl w5 rfl (λ_=>rfl) (by rw[hv2];simp[Fo.flat]) (by omega) (by simp) (λx hx=>by cases hx);unfold GX at hd;rw[Y6 (show Li []=[] from rfl)] at hd;have:=hn.fin hd;have e:((0:Int)+1+kids.flat.length)=((Fo.node none c kids .nil).flat.length:Int):=by simp[Fo.flat,BB];omega
    rw[e] at this;exact this
   | cell _ _ _=>cases h1
   | node _ _ _ _=>cases h1
theorem Pt {F M:Nat}{v:List Ab}(hA:Ry F M v){f:Fo}(h1:f.one=true)(hw:f.wf false none=true){r:List Ab}(hv:v=f.flat++r):HM F v=some ((f.flat.length:Int),f.sh 0 LR,true):=by
 obtain⟨o,ho,_⟩:=Mm hA;have e:=(TT hA h1 hw hv).eq ho;subst e;unfold HM;rw[Bf ho];rfl
def H6 (m:Bool)(last:Option Ah)(xs:List Ab):Option (Option Ah×List Ab):=
 bif m then match xs with
  | []=>none
  | c::r=>bif pl c&&decide (c.fKind=4)&&B0 true last (some c.fStr) then some (some c.fStr,r) else none
 else some (none,xs)
def Hv:Nat→Bool→Option Ah→Nat→List Ab→Option (Fo×List Ab)
 | 0,_,_,_,_=>none
 | _+1,_,_,0,xs=>some (.nil,xs)
 | F+1,m,last,k+1,xs=>
  match H6 m last xs with
  | none=>none
  | some (_,[])=>none
  | some (key,c::xs')=>
   bif !pl c then none else
   bif decide (0<c.fN) then
    match Hv F (decide (c.fKind=6)) none c.fN.toNat xs' with
    | none=>none
    | some (kids,ys)=>match Hv F m key k ys with
     | none=>none
     | some (r,zs)=>some (.node key c kids r,zs)
   else match Hv F m key k xs' with
    | none=>none
    | some (r,zs)=>some (.cell key c r,zs)
theorem NX {c:Ab}(hp:pl c=true)(hk:c.fKind=4):c=⟨4,0,c.fStr,0⟩∧c.fStr.all IQ=true:=by
 cases c
 simp only at hk;subst hk;simp[pl] at hp;obtain⟨h1,h2,h3⟩:=hp;subst h1;subst h2;exact⟨rfl,by simpa using h3⟩
theorem L0 {m:Bool}{last key:Option Ah}{xs r:List Ab}(h:H6 m last xs=some (key,r)):xs=BB key++r∧B0 m last key=true:=by
 unfold H6 at h
 cases m with
 | false=>cases h;exact⟨rfl,rfl⟩
 | true=>
  simp only[Ym] at h
  cases xs with
  | nil=>cases h
  | cons c r'=>
   simp only at h
   cases hb:(pl c&&decide (c.fKind=4)&&B0 true last (some c.fStr)) with
   | false=>rw[hb] at h;cases h
   | true=>
    rw[hb] at h;simp only[Yl,Yg] at hb
    cases h
    exact⟨by rw[(NX hb.1.1 hb.1.2).1];rfl,hb.2⟩
theorem GP:∀(F:Nat) (m:Bool) (last:Option Ah) (k:Nat) (xs:List Ab) (f:Fo) (ys:List Ab),Hv F m last k xs=some (f,ys)→xs=f.flat++ys∧f.wf m last=true∧f.cnt=k
 | 0,_,_,_,_,_,_,h=>by cases h
 | F+1,m,last,0,xs,f,ys,h=>by cases h;exact⟨rfl,rfl,rfl⟩
 | F+1,m,last,k+1,xs,f,ys,h=>by
  rw[Hv] at h
  cases hk:H6 m last xs with
  | none=>rw[hk] at h;cases h
  | some p=>
   obtain⟨key,r⟩:=p;obtain⟨h1,h2⟩:=L0 hk;rw[hk] at h
   cases r with
   | nil=>cases h
   | cons c xs'=>
    simp only at h
    cases hp:pl c with
    | false=>rw[hp] at h;cases h
    | true=>
     rw[hp] at h;simp only[Ys,Yj] at h
     cases hn:decide (0<c.fN) with
     | true=>
      rw[hn] at h;simp only[Ym] at h
      cases hq:Hv F (decide (c.fKind=6)) none c.fN.toNat xs' with
      | none=>rw[hq] at h;cases h
      | some q=>
       obtain⟨kids,zs⟩:=q;rw[hq] at h;simp only at h
       cases hr:Hv F m key k zs with
       | none=>rw[hr] at h;cases h
       | some q2=>
        obtain⟨r2,us⟩:=q2;rw[hr] at h;cases h;obtain⟨a1,a2,a3⟩:=GP F _ _ _ _ _ _ hq;obtain⟨b1,b2,b3⟩:=GP F _ _ _ _ _ _ hr;refine⟨by rw[h1,a1,b1];simp[Fo.flat],?_,by simp[Fo.cnt,b3]⟩;simp only[Yg] at hn;simp only[Fo.wf,h2,hp,a2,b2,Y7,Yv,Yl,Yg];omega
     | false=>
      rw[hn] at h;simp only[Yj] at h
      cases hr:Hv F m key k xs' with
      | none=>rw[hr] at h;cases h
      | some q2=>
       obtain⟨r2,us⟩:=q2;rw[hr] at h;cases h;obtain⟨b1,b2,b3⟩:=GP F _ _ _ _ _ _ hr;exact⟨by rw[h1,b1];simp[Fo.flat],by simp[Fo.wf,h2,hp,b2,hn],by simp[Fo.cnt,b3]⟩
theorem Hh:∀(F F':Nat) (m:Bool) (last:Option Ah) (k:Nat) (xs:List Ab),xs.length<F→xs.length<F'→Hv F m last k xs=Hv F' m last k xs
 | 0,_,_,_,_,_,h,_=>by omega
 | _+1,0,_,_,_,_,_,h=>by omega
 | F+1,F'+1,m,last,0,xs,_,_=>rfl
 | F+1,F'+1,m,last,k+1,xs,h,h'=>by
  rw[Hv,Hv]
  cases hk:H6 m last xs with
  | none=>rfl
  | some p=>
   obtain⟨key,r⟩:=p;obtain⟨h1,h2⟩:=L0 hk
   cases r with
   | nil=>rfl
   | cons c xs'=>
    have hl:xs'.length<xs.length:=by rw[h1];simp;omega
    simp only
    cases hp:pl c with
    | false=>rfl
    | true=>
     simp only[Ys,Yj]
     cases hn:decide (0<c.fN) with
     | true=>
      simp only[Ym];rw[Hh F F' _ _ _ xs' (by omega) (by omega)]
      cases hq:Hv F' (decide (c.fKind=6)) none c.fN.toNat xs' with
      | none=>rfl
      | some q=>
       obtain⟨kids,zs⟩:=q;have:=(GP _ _ _ _ _ _ _ hq).1;have hz:zs.length≤xs'.length:=by rw[this];simp
       simp only;rw[Hh F F' m key k zs (by omega) (by omega)]
     | false=>
      simp only[Yj];rw[Hh F F' m key k xs' (by omega) (by omega)]
def QC {S:Type}(body:S→Option (Stp S Wx))(s:S):Prop:=∃sh',Fin body s (.ret (0,sh',false))∨Fin body s (.go sh')
theorem DQ.bad {S:Type}{body:S→Option (Stp S Wx)}{s t:S}(h:DQ body s t)(h':QC body t):QC body s:=by
 obtain⟨sh',h' | h'⟩:=h'
 ·exact⟨sh',.inl (h.fin h')⟩
 ·exact⟨sh',.inr (h.fin h')⟩
section
variable {F M : Nat} {v : List Ab}
theorem QC.end_ {S:List A6}{i:Int}{sh:AF}(h0:0≤i)(h:v.drop i.toNat=[]):QC (Pu F v) (S.reverse,i,sh):=by
 refine⟨sh,.inr (Fin.step ?_)⟩;show Dw F v S.reverse i sh=_;unfold Dw;rw[AH];have:v.length≤i.toNat:=by simpa using h
 simp;omega
theorem QC.pl_ (hA:Ry F M v){S:List A6}{i:Int}{sh:AF}{c:Ab}{r:List Ab}(h0:0≤i)(h:v.drop i.toNat=c::r)(hS:(S.length:Int)≤i)(hb:D3 S)(hp:pl c=false):QC (Pu F v) (S.reverse,i,sh):=by
 refine⟨sh,.inl (Fin.step ?_)⟩;rw[round hA h0 h hS hb];simp[PK,hp]
theorem Q2 (hA:Ry F M v):∀(P:Nat) (k:Nat) (e:A6) (S:List A6) (i:Int) (sh:AF) (last:Option Ah) (xs:List Ab),xs.length<P→Hv P e.fPairs last (k+1) xs=none→e.fKey=e.fPairs→e.fLeft=(k:Int)+1→(k:Int)+1≤9223372036854775807→Im e last→(e.fPairs=false→last=none)→v.drop i.toNat=xs→0≤i→(S.length:Int)+1≤i→D3 S→
  QC (Pu F v) ((e::S).reverse,i,sh):=by
 intro P
 induction P with
 | zero=>intro k e S i sh last xs h;omega
 | succ P ih=>
  intro k e S i sh last xs hP hn hk hl hkm hlo hm hv h0 hS hb;have hb':D3 (e::S):=λx hx=>by
   rcases List.mem_cons.1 hx with rfl | hx
   ·constructor<;>omega
   ·exact hb x hx
  rw[Hv] at hn
  cases hq:H6 e.fPairs last xs with
  | none=>
   unfold H6 at hq
   cases hpr:e.fPairs with
   | false=>rw[hpr] at hq;cases hq
   | true=>
    rw[hpr] at hq hk;simp only[Ym] at hq
    cases xs with
    | nil=>exact QC.end_ h0 hv
    | cons c r=>
     simp only at hq
     cases hp:pl c with
     | false=>exact QC.pl_ hA h0 hv (by simpa using hS) hb' hp
     | true=>
      refine⟨sh,.inl (Fin.step ?_)⟩;rw[round hA h0 hv (by simpa using hS) hb'];have ht:(!decide (c.fKind=4)||(e.fStarted&&(Cu c.fStr e.fLast||decide (c.fStr=e.fLast))))=true:=by
       rw[hp] at hq
       cases h4:decide (c.fKind=4) with
       | false=>rfl
       | true=>
        rw[h4] at hq;simp only[Bool.and_self,Yv] at hq;have hok:=(NX hp (by simpa using h4)).2
        cases last with
        | none=>simp[B0,hok] at hq
        | some p=>
         obtain⟨q1,q2⟩:=hlo;rw[q1,q2]
         cases hc:(Cu c.fStr p||decide (c.fStr=p)) with
         | true=>rfl
         | false=>simp[B0,hok,hc] at hq
      simp only[PK,hp,hk,ht,Ys,Yj,Ym]
  | some q=>
   obtain⟨key,r⟩:=q;obtain⟨h1,h2⟩:=L0 hq;rw[hq] at hn;have hkr:=Ms (sh:=sh) hA h0 (by rw[hv];exact h1) hS hb' (by rw[hk];exact h2) hlo;have hv1:=Di h0 (hv.trans h1);obtain⟨kl,kp⟩:=Jq (e:=e) key;obtain⟨q1,q2⟩:=Jr hlo hm h2;have hbk:D3 (EQ e key::S):=λx hx=>by
    rcases List.mem_cons.1 hx with rfl | hx
    ·rw[kl];exact hb' e (by simp)
    ·exact hb x hx
   refine hkr.bad ?_
   cases r with
   | nil=>exact QC.end_ (by omega) hv1
   | cons c xs'=>
    have hlen:xs'.length+1≤xs.length:=by rw[h1];simp
    have hvl:xs.length≤v.length:=by rw[← hv,YY];omega
    have hvM:=hA.hv;have hMM:=hA.hM;have hkk:=KG (e:=e) (last:=last) (k:=key) (by rw[hk];exact h2);simp only at hn;have hSk:(((EQ e key::S).length:Nat):Int)≤i+(BB key).length:=by simp only[Yk];omega
    cases hp:pl c with
    | false=>exact QC.pl_ hA (by omega) hv1 hSk hbk hp
    | true=>
     rw[hp] at hn;simp only[Ys,Yj] at hn;obtain⟨g1,g2,g3⟩:=Ev (by omega) hv1;have hcN:=(hA.hc c (Yu g1)).2.2;have more:∀(s:O0) (j:Int) (sh':AF) (zs:List Ab),GX (Pu F v) s (EQ e key::S) j sh'→v.drop j.toNat=zs→zs.length<P→0≤j→(S.length:Int)+1≤j→Hv P e.fPairs key k zs=none→QC (Pu F v) s:=λs j sh' zs hd hz hzl hj hSj hnone=>by
      cases k with
      | zero=>
       cases P with
       | zero=>omega
       | succ P=>cases hnone
      | succ k=>
       have:=hd.more (by rw[kl];omega);refine this.bad (ih k _ S j sh' key zs hzl (by rw[kp];exact hnone) rfl (by simp only[kl];omega) (by omega) ?_ (by simpa using q2) hz hj hSj hb)
       cases key with
       | none=>exact q1
       | some p=>exact q1
     cases hN:decide (0<c.fN) with
     | true=>
      rw[hN] at hn;simp only[Ym] at hn;simp only[Yg] at hN
      by_cases hbig:c.fN≤v.length
      ·have hnd:=I9 (sh:=Lc key sh) hA (by omega) hv1 hSk hbk (by simpa[KH] using hkk) hp (by simpa using hN) hbig;refine hnd.bad ?_
       cases hks:Hv P (decide (c.fKind=6)) none c.fN.toNat xs' with
       | none=>
        obtain⟨n',hn'⟩:∃n',c.fN.toNat=n'+1:=⟨c.fN.toNat-1,by omega⟩
        rw[hn'] at hks;exact ih n' _ _ _ _ none xs' (by omega) hks rfl (by simp only;omega) (by omega) rfl (λ_=>rfl) g2 (by omega) (by simp only[Yk];omega) hbk
       | some q=>
        obtain⟨kids,zs⟩:=q;rw[hks] at hn;simp only at hn;have hn2:Hv P e.fPairs key k zs=none:=by
         cases hz:Hv P e.fPairs key k zs with
         | none=>rfl
         | some q=>rw[hz] at hn;cases hn
        obtain⟨a1,a2,a3⟩:=GP _ _ _ _ _ _ _ hks;have hd:=Lh hA kids ⟨decide (c.fKind=6),c.fN,decide (c.fKind=6),[],false⟩ (EQ e key::S) (i+(BB key).length+1) (HV (S.length+1) (Lc key sh) c) none zs (by omega) a2 rfl (by simp only;omega) rfl (λ_=>rfl) (by rw[g2];exact a1) (by omega) (by simp only[Yk];omega) hbk;have hz:v.drop (i+(BB key).length+1+kids.flat.length).toNat=zs:=Di (by omega) (g2.trans a1);have hzl:zs.length≤xs'.length:=by rw[a1];simp
        exact more _ _ _ zs hd hz (by omega) (by omega) (by omega) hn2
      ·refine⟨HV (EQ e key::S).length (Lc key sh) c,.inl (Fin.step ?_)⟩;rw[round hA (by omega) hv1 hSk hbk];have hbig':decide ((v.length:Int)<c.fN)=true:=by simpa using hbig
       simp only[PK,hp,hkk,hbig',hN,Ys,Yj,Ym,decide_true]
     | false=>
      rw[hN] at hn;simp only[Yj] at hn;have hn2:Hv P e.fPairs key k xs'=none:=by
       cases hz:Hv P e.fPairs key k xs' with
       | none=>rfl
       | some q=>rw[hz] at hn;cases hn
      have hd:=KE (sh:=Lc key sh) hA (by omega) hv1 hSk hbk (by simpa[KH] using hkk) hp hN;exact more _ _ _ xs' hd g2 (by omega) (by omega) (by omega) hn2
def H7 (xs:List Ab):Option (Fo×List Ab):=Hv (xs.length+1) false none 1 xs
theorem QU {P:Nat}{xs ys:List Ab}{f:Fo}(h:Hv P false none 1 xs=some (f,ys)):f.one=true:=by
 obtain⟨h1,h2,h3⟩:=GP _ _ _ _ _ _ _ h
 cases f with
 | nil=>cases h3
 | cell k c r=>
  cases r with
  | nil=>
   cases k with
   | none=>rfl
   | some s=>simp[Fo.wf,B0] at h2
  | cell _ _ _=>simp[Fo.cnt] at h3
  | node _ _ _ _=>simp[Fo.cnt] at h3
 | node k c kids r=>
  cases r with
  | nil=>
   cases k with
   | none=>rfl
   | some s=>simp[Fo.wf,B0] at h2
  | cell _ _ _=>simp[Fo.cnt] at h3
  | node _ _ _ _=>simp[Fo.cnt] at h3
theorem Sl (hA:Ry F M v)(h:H7 v=none):QC (Pu F v) ([],0,LR):=by
 have hlf:D3 []:=λx hx=>by cases hx
 unfold H7 at h;rw[Hv] at h;simp only[H6,Yj] at h
 cases v with
 | nil=>exact QC.end_ (S:=[]) (YI 0) rfl
 | cons c xs'=>
  have hv1:(c::xs').drop (0:Int).toNat=c::xs':=rfl;have hvM:=hA.hv;have hMM:=hA.hM;simp only at h
  cases hp:pl c with
  | false=>exact QC.pl_ (S:=[]) hA (YI 0) hv1 (by simp) hlf hp
  | true=>
   rw[hp] at h;simp only[Ys,Yj] at h;have hcN:=(hA.hc c (by simp)).2.2
   cases hN:decide (0<c.fN) with
   | true=>
    rw[hN] at h;simp only[Ym] at h;simp only[Yg] at hN
    by_cases hbig:c.fN≤(c::xs').length
    ·have hnd:=I9 (S:=[]) (sh:=LR) hA (YI 0) hv1 (by simp) hlf rfl hp (by simpa using hN) hbig;refine hnd.bad ?_
     cases hks:Hv (c::xs').length (decide (c.fKind=6)) none c.fN.toNat xs' with
     | none=>
      obtain⟨n',hn'⟩:∃n',c.fN.toNat=n'+1:=⟨c.fN.toNat-1,by omega⟩
      rw[hn'] at hks;exact Q2 hA (c::xs').length n' ⟨decide (c.fKind=6),c.fN,decide (c.fKind=6),[],false⟩ [] (0+1) _ none xs' (by simp) hks rfl (by simp only;omega) (by omega) rfl (λ_=>rfl) rfl (by omega) (by simp) hlf
     | some q=>rw[hks] at h;cases h
    ·refine⟨HV 0 LR c,.inl (Fin.step ?_)⟩;rw[show Pu F (c::xs') (([]:List A6),0,LR)=_ from round (S:=[]) hA (YI 0) hv1 (by simp) hlf];have hbig':decide (((c::xs').length:Int)<c.fN)=true:=by simpa using hbig
     simp only[PK,hp,hbig',hN,Ys,Yj,Ym,decide_true]
   | false=>rw[hN] at h;cases h
theorem VE (hA:Ry F M v):(∃f ys,H7 v=some (f,ys)∧HM F v=some ((f.flat.length:Int),f.sh 0 LR,true))∨(H7 v=none∧∃sh',HM F v=some (0,sh',false)):=by
 cases h:H7 v with
 | some q=>
  obtain⟨f,ys⟩:=q;obtain⟨h1,h2,h3⟩:=GP _ _ _ _ _ _ _ h;exact .inl ⟨f,ys,rfl,Pt hA (QU h) h2 h1⟩
 | none=>
  refine .inr ⟨rfl,?_⟩;obtain⟨o,ho,_⟩:=Mm hA;obtain⟨sh',hb | hb⟩:=Sl hA h
  ·have e:=hb.eq ho;subst e;exact⟨sh',by unfold HM;rw[Bf ho];rfl⟩
  ·have e:=hb.eq ho;subst e;exact⟨sh',by unfold HM;rw[Bf ho];rfl⟩
end
theorem Iv {x:Int}(h : -9223372036854775808≤x)(h':x≤9223372036854775807):IntKind.wrap .i64 x=x:=by
 simp only[IntKind.wrap,IntKind.bits,IntKind.signed];simp;omega
def Fo.dep:Fo→Nat
 | .nil=>0
 | .cell _ _ r=>max 1 r.dep
 | .node _ _ kids r=>max (kids.dep+1) r.dep
theorem EY (k:Option Ah)(s:AF):(Lc k s).fDepth=s.fDepth∧(Lc k s).fOutside=s.fOutside∧(Lc k s).fLong=(s.fLong||(BB k).any λc=>decide (200<(c.fStr.length:Int))):=by
 cases k with
 | none=>simp[Lc,BB]
 | some x=>simp[Lc,Xk,BB]
theorem JD:∀(f:Fo) (d:Nat) (s:AF),(d:Int)≤s.fDepth→(f.sh d s).fDepth=max s.fDepth ((d:Int)+f.dep)
 | .nil,d,s,h=>by simp only[Fo.sh,Fo.dep];omega
 | .cell k c r,d,s,h=>by
  have hk:=(EY k s).1;have e:(HV d (Lc k s) c).fDepth=max s.fDepth ((d:Int)+1):=by rw[HV,hk]
  rw[Fo.sh,JD r d _ (by rw[e];omega),e,Fo.dep];omega
 | .node k c kids r,d,s,h=>by
  have hk:=(EY k s).1;have e:(HV d (Lc k s) c).fDepth=max s.fDepth ((d:Int)+1):=by rw[HV,hk]
  have e2:=JD kids (d+1) (HV d (Lc k s) c) (by rw[e];omega);rw[e] at e2;rw[Fo.sh,JD r d _ (by rw[e2];omega),e2,Fo.dep];omega
def BY (c:Ab):Bool:=decide (c.fKind=3)&&!(decide ((-1000000000000)≤c.fInt)&&decide (c.fInt≤1000000000000))
def Nv (c:Ab):Bool:=decide (200<(c.fStr.length:Int))
theorem Mt (k:Option Ah):(BB k).any BY=false:=by cases k<;>simp[BB,BY]
theorem NP:∀(f:Fo) (d:Nat) (s:AF),(f.sh d s).fOutside=(s.fOutside||f.flat.any BY)
 | .nil,d,s=>by simp[Fo.sh,Fo.flat]
 | .cell k c r,d,s=>by
  rw[Fo.sh,NP r,HV,(EY k s).2.1];simp only[Fo.flat,List.any_append,List.any_cons,Mt,Y0,Bool.or_assoc];rfl
 | .node k c kids r,d,s=>by
  rw[Fo.sh,NP r,NP kids,HV,(EY k s).2.1];simp only[Fo.flat,List.any_append,List.any_cons,Mt,Y0,Bool.or_assoc];rfl
theorem Ly:∀(f:Fo) (d:Nat) (s:AF),(f.sh d s).fLong=(s.fLong||f.flat.any Nv)
 | .nil,d,s=>by simp[Fo.sh,Fo.flat]
 | .cell k c r,d,s=>by
  rw[Fo.sh,Ly r,HV,(EY k s).2.2];simp only[Fo.flat,List.any_append,List.any_cons,Bool.or_assoc];rfl
 | .node k c kids r,d,s=>by
  rw[Fo.sh,Ly r,Ly kids,HV,(EY k s).2.2];simp only[Fo.flat,List.any_append,List.any_cons,Bool.or_assoc];rfl
def SK (c:Ab):Int:=
 bif decide (c.fKind=1) then 4 else bif decide (c.fKind=2) then 5-c.fInt else bif decide (c.fKind=3) then((Lib.itoa c.fInt).length:Int) else
 bif decide (c.fKind=4) then K3 c.fStr else 2
def Oh:Option Ah→Int
 | none=>0
 | some s=>K3 s+1
def Fo.byt:Fo→Int
 | .nil=>0
 | .cell k c r=>Oh k+SK c+r.byt
 | .node k c kids r=>Oh k+(c.fN+1)+kids.byt+r.byt
theorem JK (s:Ah):2≤K3 s:=by unfold K3;omega
theorem L9 (k:Option Ah):0≤Oh k:=by
 cases k with
 | none=>exact YI 0
 | some s=>have:=JK s;simp only[Oh];omega
theorem Rg {c:Ab}(hp:pl c=true):0≤SK c:=by
 unfold SK
 cases h1:decide (c.fKind=1) with
 | true=>simp
 | false=>
  cases h2:decide (c.fKind=2) with
  | true=>
   simp[pl,h1,h2] at hp;simp only[Yj,Ym];omega
  | false=>
   cases h3:decide (c.fKind=3) with
   | true=>simp
   | false=>
    cases h4:decide (c.fKind=4) with
    | true=>have:=JK c.fStr;simp only[Yj,Ym];omega
    | false=>simp
theorem Tz {c:Ab}(hp:pl c=true):0≤c.fN:=by
 simp only[pl,← Bool.decide_or] at hp
 cases h1:decide (c.fKind=1)<;>cases h2:decide (c.fKind=2)<;>cases h3:decide (c.fKind=3)<;>cases h4:decide (c.fKind=4)<;>cases h5:decide (c.fKind=5)<;>cases h6:decide (c.fKind=6)<;>simp[h1,h2,h3,h4,h5,h6] at hp<;>omega
theorem L4 {c:Ab}(hp:pl c=true)(hn:0<c.fN):(c.fKind=5∨c.fKind=6)∧c.fInt=0∧c.fStr=[]:=by
 cases h1:decide (c.fKind=1)<;>cases h2:decide (c.fKind=2)<;>cases h3:decide (c.fKind=3)<;>cases h4:decide (c.fKind=4)<;>cases h5:decide (c.fKind=5)<;>cases h6:decide (c.fKind=6)<;>simp[pl,h1,h2,h3,h4,h5,h6] at hp<;>(simp only[Yg,Yf] at *;first | omega | exact⟨by omega,hp.1,hp.2.1⟩)
theorem Tj {c:Ab}(hp:pl c=true)(hn:decide (0<c.fN)=false):W6 c=SK c:=by
 have hN:=Tz hp;have h0:c.fN=0:=by simp only[Yf] at hn;omega
 unfold W6 SK;rw[h0]
 cases h1:decide (c.fKind=1) with
 | true=>rfl
 | false=>
  cases h2:decide (c.fKind=2) with
  | true=>
   simp[pl,h1,h2] at hp;simp only[Yj,Ym];exact Iv (by omega) (by omega)
  | false=>rfl
theorem Ti {c:Ab}(hp:pl c=true)(hn:0<c.fN)(hm:c.fN≤9223372036854775000):W6 c=c.fN+1:=by
 obtain⟨hk,_,_⟩:=L4 hp hn;unfold W6;rw[Yo (by omega),Yo (by omega),Yo (by omega),Yo (by omega)];simp only[Yj];rw[Iv (x:=c.fN-1) (by omega) (by omega),Iv (by omega) (by omega)];omega
theorem GJ:∀{f:Fo} {m:Bool} {l:Option Ah},f.wf m l=true→0≤f.byt
 | .nil,_,_,_=>YI 0
 | .cell k c r,m,l,h=>by
  simp only[Fo.wf,Yl] at h;have h1:=GJ h.2;have h2:=Rg h.1.1.2;have h3:=L9 k;simp only[Fo.byt];omega
 | .node k c kids r,m,l,h=>by
  simp only[Fo.wf,Yl,Yg] at h;have h1:=GJ h.2;have h2:=GJ h.1.2;have h3:=L9 k;simp only[Fo.byt];omega
theorem Nh (k:Option Ah)(s:AF)(h0:0≤s.fBytes)(h:s.fBytes+Oh k≤9223372036854775807):(Lc k s).fBytes=s.fBytes+Oh k:=by
 cases k with
 | none=>simp[Lc,Oh]
 | some x=>
  have:=JK x;simp only[Oh] at h;simp only[Lc,Xk,Oh];exact Iv (by omega) (by omega)
theorem JE:∀(f:Fo) (m:Bool) (l:Option Ah) (d:Nat) (s:AF),f.wf m l=true→0≤s.fBytes→s.fBytes+f.byt≤9223372036854775000→(f.sh d s).fBytes=s.fBytes+f.byt
 | .nil,_,_,d,s,_,_,_=>by simp[Fo.sh,Fo.byt]
 | .cell k c r,m,l,d,s,hw,h0,h=>by
  simp only[Fo.wf,Yl,Yy] at hw;obtain⟨⟨⟨w1,w2⟩,w3⟩,w4⟩:=hw;have h1:=GJ w4;have h2:=Rg w2;have h3:=L9 k;simp only[Fo.byt] at h;have e1:=Nh k s h0 (by omega);have e:(HV d (Lc k s) c).fBytes=s.fBytes+Oh k+SK c:=by
   rw[HV,e1,Tj w2 w3];exact Iv (by omega) (by omega)
  rw[Fo.sh,JE r _ _ d _ w4 (by rw[e];omega) (by rw[e];omega),e,Fo.byt];omega
 | .node k c kids r,m,l,d,s,hw,h0,h=>by
  simp only[Fo.wf,Yl,Yg] at hw;obtain⟨⟨⟨⟨⟨w1,w2⟩,w3⟩,w5⟩,w6⟩,w4⟩:=hw;have h1:=GJ w4;have h2:=GJ w6;have h3:=L9 k;simp only[Fo.byt] at h;have e1:=Nh k s h0 (by omega);have e:(HV d (Lc k s) c).fBytes=s.fBytes+Oh k+(c.fN+1):=by
   rw[HV,e1,Ti w2 w3 (by omega)];exact Iv (by omega) (by omega)
  have e2:=JE kids _ _ (d+1) (HV d (Lc k s) c) w6 (by rw[e];omega) (by rw[e];omega);rw[Fo.sh,JE r _ _ d _ w4 (by rw[e2,e];omega) (by rw[e2,e];omega),e2,e,Fo.byt];omega
def En (s:Ah):Ah:=s.flatMap λc=>bif (decide (c=34)||decide (c=92)) then[92,c] else[c]
def EV (s:Ah):Ah:=34::(En s++[34])
theorem Mx:∀s:Ah,(En s).length=s.length+s.count 34+s.count 92
 | []=>rfl
 | c::s=>by
  have ih:=Mx s;unfold En at ih ⊢;rw[List.flatMap_cons,Yn,ih]
  by_cases h1:c=34
  ·subst h1;simp;omega
  ·by_cases h2:c=92
   ·subst h2;simp;omega
   ·simp[h1,h2,List.count_cons];omega
theorem OY (s:Ah):((EV s).length:Int)=K3 s:=by
 simp only[EV,Yk,Yn,Mx,YT,K3];omega
def DF (c:Ab):Ah:=
 bif decide (c.fKind=1) then[110,117,108,108] else
 bif decide (c.fKind=2) then(bif decide (c.fInt=1) then[116,114,117,101] else[102,97,108,115,101]) else
 bif decide (c.fKind=3) then Lib.itoa c.fInt else
 bif decide (c.fKind=4) then EV c.fStr else
 bif decide (c.fKind=6) then[123,125] else[91,93]
def Hw:Option Ah→Ah
 | none=>[]
 | some s=>EV s++[58]
def PE (c:Ab)(s:Ah):Ah:=bif decide (c.fKind=6) then 123::(s++[125]) else 91::(s++[93])
def De (first:Bool):Ah:=bif first then[] else[44]
def Fo.txt:Bool→Fo→Ah
 | _,.nil=>[]
 | b,.cell k c r=>De b++Hw k++DF c++r.txt false
 | b,.node k c kids r=>De b++Hw k++PE c (kids.txt true)++r.txt false
theorem Rh (k:Option Ah):((Hw k).length:Int)=Oh k:=by
 cases k with
 | none=>rfl
 | some s=>simp only[Hw,Yn,Oh,Y8];have:=OY s;omega
theorem Nw {c:Ab}(hp:pl c=true):((DF c).length:Int)=SK c:=by
  unfold DF SK
  cases h1:decide (c.fKind=1) with
  | true=>rfl
  | false=>
    cases h2:decide (c.fKind=2) with
    | true=>
      simp[pl,h1,h2] at hp;simp only[Yj,Ym]
      cases h7:decide (c.fInt=1) with
      | true=>simp only[Yg] at h7;simp[h7]
      | false=>
                 simp only[Yf] at h7;have:c.fInt=0:=by omega
                 simp[this]
    | false=>
      cases h3:decide (c.fKind=3) with
      | true=>rfl
      | false=>
        cases h4:decide (c.fKind=4) with
        | true=>simpa using OY c.fStr
        | false=>cases h6:decide (c.fKind=6)<;>rfl
theorem Kl (c:Ab)(s:Ah):(PE c s).length=s.length+2:=by
 unfold PE
 cases decide (c.fKind=6)<;>simp
theorem I3:∀(f:Fo) (m:Bool) (l:Option Ah) (b:Bool),f.wf m l=true→((f.txt b).length:Int)=f.byt+(bif b then((f.cnt-1:Nat):Int) else(f.cnt:Int))
 | .nil,m,l,b,_=>by cases b<;>rfl
 | .cell k c r,m,l,b,hw=>by
  simp only[Fo.wf,Yl,Yy] at hw;obtain⟨⟨⟨w1,w2⟩,w3⟩,w4⟩:=hw;have ih:=I3 r _ _ false w4;have a:=Rh k;have d:=Nw w2;simp only[Yj] at ih
  cases b<;>simp only[Fo.txt,Fo.byt,Fo.cnt,De,Ym,Yj,Yn,YT,Y8]<;>omega
 | .node k c kids r,m,l,b,hw=>by
  simp only[Fo.wf,Yl,Yg] at hw;obtain⟨⟨⟨⟨⟨w1,w2⟩,w3⟩,w5⟩,w6⟩,w4⟩:=hw;have ih:=I3 r _ _ false w4;have ih2:=I3 kids _ _ true w6;have a:=Rh k;have d:=Kl c (kids.txt true);simp only[Yj,Ym] at ih ih2
  cases b<;>simp only[Fo.txt,Fo.byt,Fo.cnt,De,Ym,Yj,Yn,YT,Y8]<;>omega
def Fo.put (k:Option Ah):Fo→Fo→Fo
 | .cell _ c _,r=>.cell k c r
 | .node _ c kids _,r=>.node k c kids r
 | .nil,_=>.nil
theorem Tx (P:Nat)(m:Bool)(last:Option Ah)(k:Nat)(xs:List Ab):Hv (P+2) m last (k+1) xs =
  match H6 m last xs with
  | none=>none
  | some (key,ys)=>match Hv (P+2) false none 1 ys with
   | none=>none
   | some (f,zs)=>match Hv (P+1) m key k zs with
    | none=>none
    | some (r,us)=>some (f.put key r,us):=by
 rw[Hv]
 cases hk:H6 m last xs with
 | none=>rfl
 | some p=>
  obtain⟨key,ys⟩:=p;simp only;rw[Hv];simp only[H6,Yj]
  cases ys with
  | nil=>rfl
  | cons c ys=>
   simp only
   cases hp:pl c with
   | false=>rfl
   | true=>
    simp only[Ys,Yj]
    cases hn:decide (0<c.fN) with
    | true=>
     simp only[Ym]
     cases hq:Hv (P+1) (decide (c.fKind=6)) none c.fN.toNat ys with
     | none=>rfl
     | some q=>
      obtain⟨kids,zs⟩:=q;simp only[Hv]
      cases hr:Hv (P+1) m key k zs with
      | none=>rfl
      | some q=>obtain⟨a,b⟩:=q;rfl
    | false=>
     simp only[Yj,Hv]
     cases hr:Hv (P+1) m key k ys with
     | none=>rfl
     | some q=>obtain⟨a,b⟩:=q;rfl
def LV (m:Bool)(last:Option Ah)(k:Nat)(xs:List Ab):Option (Fo×List Ab):=Hv (xs.length+1) m last k xs
theorem K4 (m:Bool)(last:Option Ah)(xs:List Ab):LV m last 0 xs=some (.nil,xs):=rfl
theorem Ga (m:Bool)(last:Option Ah)(k:Nat)(xs:List Ab):LV m last (k+1) xs =
  match H6 m last xs with
  | none=>none
  | some (key,ys)=>match H7 ys with
   | none=>none
   | some (f,zs)=>match LV m key k zs with
    | none=>none
    | some (r,us)=>some (f.put key r,us):=by
 unfold LV H7;rw[Hh (xs.length+1) (xs.length+2) m last (k+1) xs (by omega) (by omega),Tx]
 cases hk:H6 m last xs with
 | none=>rfl
 | some p=>
  obtain⟨key,ys⟩:=p;have h1:=(L0 hk).1;have hy:ys.length≤xs.length:=by rw[h1];simp
  simp only;rw[Hh (xs.length+2) (ys.length+1) false none 1 ys (by omega) (by omega)]
  cases hf:Hv (ys.length+1) false none 1 ys with
  | none=>rfl
  | some q=>
   obtain⟨f,zs⟩:=q;have h2:=(GP _ _ _ _ _ _ _ hf).1;have hz:zs.length≤ys.length:=by rw[h2];simp
   simp only;rw[Hh (xs.length+1) (zs.length+1) m key k zs (by omega) (by omega)]
   all_goals (cases Hv (zs.length+1) m key k zs<;>rfl)
theorem JZ {S O:Type}{body:S→Option (Stp S O)}{n:Nat}{s s':S}{o:O}(h:body s=some (.next s'))(h':Ch body n s'=some o):Ch body (n+1) s=some o:=by rw[Ch,h];exact h'
theorem Ei {S O:Type}{body:S→Option (Stp S O)}{n:Nat}{s:S}{o:O}(h:body s=some (.out o)):Ch body (n+1) s=some o:=by rw[Ch,h]
theorem Ty:H7 []=none:=rfl
theorem Hi (c:Ab)(r:List Ab):H7 (c::r)=bif !pl c then none else bif decide (0<c.fN) then(match LV (decide (c.fKind=6)) none c.fN.toNat r with
  | none=>none
  | some (kids,zs)=>some (.node none c kids .nil,zs)) else some (.cell none c .nil,r):=by
 unfold H7;rw[Hv];simp only[H6,Yj]
 cases hp:pl c with
 | false=>rfl
 | true=>
  simp only[Ys,Yj]
  cases hn:decide (0<c.fN) with
  | true=>
   simp only[Ym];unfold LV;rw[Yk]
   cases hq:Hv (r.length+1) (decide (c.fKind=6)) none c.fN.toNat r with
   | none=>rfl
   | some q=>obtain⟨kids,zs⟩:=q;rfl
  | false=>rfl
theorem Er {f:Fo}(h:f.one=true)(key:Option Ah)(r:Fo):(f.put key r).flat=BB key++(f.flat++r.flat):=by
 cases f with
 | nil=>cases h
 | cell k c r'=>
  cases k with
  | some s=>cases h
  | none=>cases r' with
   | nil=>simp[Fo.put,Fo.flat,BB]
   | cell _ _ _=>cases h
   | node _ _ _ _=>cases h
 | node k c kids r'=>
  cases k with
  | some s=>cases h
  | none=>cases r' with
   | nil=>simp[Fo.put,Fo.flat,BB]
   | cell _ _ _=>cases h
   | node _ _ _ _=>cases h
theorem JP {f:Fo}(h:f.one=true):1≤f.flat.length:=by
 cases f with
 | nil=>cases h
 | cell k c r'=>simp[Fo.flat];omega
 | node k c kids r'=>simp[Fo.flat];omega
theorem JL {xs ys:List Ab}{f:Fo}(h:H7 xs=some (f,ys)):xs=f.flat++ys∧f.wf false none=true∧f.one=true:=
 ⟨(GP _ _ _ _ _ _ _ h).1,(GP _ _ _ _ _ _ _ h).2.1,QU h⟩
def IX (v:List Ab)(i:Int):Int:=match H7 (v.drop i.toNat) with
 | none=>-1
 | some (f,_)=>i+f.flat.length
def JU (m:Bool)(last:Option Ah)(v:List Ab)(i:Int)(k:Nat):Int:=match LV m last k (v.drop i.toNat) with
 | none=>-1
 | some (f,_)=>i+f.flat.length
theorem Nn {v:List Ab}{i:Int}(h0:0≤i)(h1:i≤v.length):IX v i = -1∨(i<IX v i∧IX v i≤v.length):=by
 unfold IX
 cases h:H7 (v.drop i.toNat) with
 | none=>exact .inl rfl
 | some q=>
  obtain⟨f,ys⟩:=q;obtain⟨h2,_,h3⟩:=JL h;have:=JP h3;have hl:(v.drop i.toNat).length=f.flat.length+ys.length:=by rw[h2];simp
  rw[YY] at hl
  right;simp only;omega
structure X7 (F M:Nat) (v:List Ab):Prop where
 hM:M≤1152921504606846976
 hv:v.length≤M
 hF:M<F
 hc:∀c∈v,c.fStr.length≤M
theorem RP (ok:Bool){i:Int}(h0:0≤i)(h1:i≤1152921504606846976):CF ok i=some (bif ok then i+1 else -1):=by
 unfold CF
 cases ok
 ·rfl
 ·rw[AZ rfl,Bp (by omega) (by omega)];rfl
theorem QP {F:Nat}{c:Ab}(hF:c.fStr.length<F)(hs:c.fStr.length≤1152921504606846976):Tu F c=some (decide (c.fKind=4)&&pl c):=by
 unfold Tu;rw[RM hF (by omega)];simp only[Option.isSome_some,ov,YC,imp,YK,Bj,Ym]
 cases h4:decide (c.fKind=4) with
 | false=>rfl
 | true=>
  simp only[Yg] at h4;simp[pl,h4]
theorem Ov {v:List Ab}{i:Int}{c:Ab}{r:List Ab}(h0:0≤i)(h:v.drop i.toNat=c::r):Aj v i=c:=by
 have:=(Ev h0 h).1;simp[Aj,this]
section
variable {M : Nat} {v : List Ab}
theorem IV {F:Nat}(hA:X7 F M v){g:List Ab→Int→Option Int}{n:Int}(hn:n≤9223372036854775807):∀(L:Nat) (i x:Int),0≤i→i≤v.length→0≤x→x≤n→(∀j,i≤j→j≤v.length→g v j=some (IX v j))→v.length-i.toNat<L→
  ∃o,Ch (λσ=>DB v n g σ.1 σ.2) L (i,x)=some o∧Cg (λν=>H5 ν) o=some (JU false none v i (n-x).toNat)
 | 0,i,x,_,_,_,_,_,h=>by omega
 | L+1,i,x,h0,h1,hx,hxn,hg,hL=>by
  cases hxl:decide (x<n) with
  | false=>
   refine⟨.go i,Ei (by show DB v n g i x=_;unfold DB;rw[AH hxl]),?_⟩;simp only[Yf] at hxl;rw[show(n-x).toNat=0 from by omega];simp[Cg,H5,JU,K4,Fo.flat]
  | true=>
   have hb:DB v n g i x=B3 (decide (IX v i<0)) (some (.out (.ret (-1)))) (Bj (Ci .i64 (x+1))<|some (.next (IX v i,x+1))):=by unfold DB;rw[AZ hxl,hg i (YI i) h1,Bf rfl]
   simp only[Yg] at hxl;obtain⟨k,hk⟩:∃k,(n-x).toNat=k+1:=⟨(n-x).toNat-1,by omega⟩
   rw[hk];have e:JU false none v i (k+1)=bif decide (IX v i<0) then -1 else JU false none v (IX v i) k:=by
    unfold JU;rw[Ga];simp only[H6,Yj]
    cases hp:H7 (v.drop i.toNat) with
    | none=>simp[IX,hp]
    | some q=>
     obtain⟨f,ys⟩:=q;obtain⟨q1,q2,q3⟩:=JL hp;have hi:IX v i=i+f.flat.length:=by simp[IX,hp]
     have hd:v.drop (IX v i).toNat=ys:=by rw[hi];exact Di h0 q1
     rw[hd,Yo (by omega)];simp only[Yj]
     cases hr:LV false none k ys with
     | none=>rfl
     | some q=>
      obtain⟨r,zs⟩:=q;simp only[Er q3,BB,YU,Yn,hi];omega
   rw[e];rcases Nn (v:=v) h0 h1 with hneg | ⟨hlt,hle⟩
   ·exact⟨.ret (-1),Ei (hb.trans (by rw[hneg,AZ (by decide)])),by rw[hneg];rfl⟩
   ·have hM:=hA.hM;have hvM:=hA.hv;obtain⟨o,ho1,ho2⟩:=IV hA hn L (IX v i) (x+1) (by omega) hle (by omega) (by omega) (λj hj=>hg j (by omega)) (by omega);exact⟨o,JZ (hb.trans (by rw[AH (Yo (by omega)),Bp (by omega) (by omega)])) ho1,by rw[ho2,show(n-(x+1)).toNat=k from by omega,Yo (by omega)];rfl⟩
theorem LT {F:Nat}(hA:X7 F M v){g:List Ab→Int→Option Int}{n:Int}(hn:n≤9223372036854775807):∀(L:Nat) (i x:Int) (last:Ah),0≤i→i≤v.length→0≤x→x≤n→(∀j,i≤j→j≤v.length→g v j=some (IX v j))→v.length-i.toNat<L→
  ∃o,Ch (λσ=>Ef F v n g σ.1 σ.2.1 σ.2.2) L (i,last,x)=some o∧Cg (λν=>K2 ν) o=some (JU true (bif decide (0<x) then some last else none) v i (n-x).toNat)
 | 0,i,x,_,_,_,_,_,_,h=>by omega
 | L+1,i,x,last,h0,h1,hx,hxn,hg,hL=>by
  have hM:=hA.hM;have hvM:=hA.hv;have hMF:=hA.hF
  cases hxl:decide (x<n) with
  | false=>
   refine⟨.go i,Ei (by show Ef F v n g i last x=_;unfold Ef;rw[AH hxl]),?_⟩;simp only[Yf] at hxl;rw[show(n-x).toNat=0 from by omega];simp[Cg,K2,JU,K4,Fo.flat]
  | true=>
   have hxl':=hxl;simp only[Yg] at hxl;obtain⟨k,hk⟩:∃k,(n-x).toNat=k+1:=⟨(n-x).toNat-1,by omega⟩
   rw[hk]
   cases hd:v.drop i.toNat with
   | nil=>
    have hl:v.length≤i.toNat:=by simpa using hd
    refine⟨.ret (-1),Ei (by
     show Ef F v n g i last x=_;unfold Ef;rw[AZ hxl',Cl (by simp[imp,show(v.length:Int)≤i from by omega]),Cl (by simp[imp,show(v.length:Int)≤i from by omega]),AZ (by simp[show(v.length:Int)≤i from by omega])]),?_⟩
    simp[Cg,JU,hd,Ga,H6]
   | cons c r=>
    obtain⟨g1,g2,g3⟩:=Ev h0 hd;have hcM:=hA.hc c (Yu g1);have hat:=Ov h0 hd;have hnl:decide ((v.length:Int)≤i)=false:=by simp;omega
    have hb:Ef F v n g i last x=B3 (!(decide (c.fKind=4)&&pl c)||decide (0<x)&&(Cu c.fStr last||decide (c.fStr=last))) (some (.out (.ret (-1)))) (B8 (g v (i+1)) λha=>B3 (decide (ha<0)) (some (.out (.ret (-1)))) (Bj (Ci .i64 (x+1))<|some (.next (ha,c.fStr,x+1)))):=by
     unfold Ef;rw[AZ hxl',Cl (by simp only[imp];rw[Q1 h0 g3];simp),hat,QP (by omega) (by omega),Cl (by simp[imp])];simp only[hnl,ov,YC,Y0];rw[B9 h0 g3,Bp (by omega) (by omega)]
    have hpk:H6 true (bif decide (0<x) then some last else none) (c::r)=bif (!(decide (c.fKind=4)&&pl c)||decide (0<x)&&(Cu c.fStr last||decide (c.fStr=last))) then none else some (some c.fStr,r):=by
     simp only[H6,Ym]
     cases h4:decide (c.fKind=4) with
     | false=>simp
     | true=>
      cases hp:pl c with
      | false=>simp
      | true=>
       have hok:=(NX hp (by simpa using h4)).2
       cases h0x:decide (0<x) with
       | false=>simp[B0,hok]
       | true=>cases hs:(Cu c.fStr last||decide (c.fStr=last))<;>simp[B0,hok,hs]
    cases ht:(!(decide (c.fKind=4)&&pl c)||decide (0<x)&&(Cu c.fStr last||decide (c.fStr=last))) with
    | true=>
     rw[ht] at hpk;refine⟨.ret (-1),Ei (hb.trans (AZ ht)),?_⟩;simp only[JU,hd,Ga,hpk,Ym];rfl
    | false=>
     rw[ht] at hpk;rw[AH ht,hg (i+1) (by omega) (by omega),Bf rfl] at hb;have e:JU true (bif decide (0<x) then some last else none) v i (k+1)=bif decide (IX v (i+1)<0) then -1 else JU true (some c.fStr) v (IX v (i+1)) k:=by
      unfold JU;rw[hd,Ga,hpk];simp only[Yj];have hx:IX v (i+1)=match H7 r with | none=>-1 | some (f,_)=>i+1+f.flat.length:=by unfold IX;rw[g2]
      cases hp:H7 r with
      | none=>rw[hp] at hx;simp[hx]
      | some q=>
       obtain⟨f,ys⟩:=q;obtain⟨q1,q2,q3⟩:=JL hp;rw[hp] at hx;simp only at hx;have hd2:v.drop (IX v (i+1)).toNat=ys:=by rw[hx];exact Di (by omega) (g2.trans q1)
       rw[hd2,Yo (by omega)];simp only[Yj]
       cases hr:LV true (some c.fStr) k ys with
       | none=>rfl
       | some q=>
        obtain⟨r',zs⟩:=q;simp only[Er q3,BB,Yn,Yk,YT,hx];omega
     rw[e];rcases Nn (v:=v) (i:=i+1) (by omega) (by omega) with hneg | ⟨hlt,hle⟩
     ·exact⟨.ret (-1),Ei (hb.trans (by rw[hneg,AZ (by decide)])),by rw[hneg];rfl⟩
     ·obtain⟨o,ho1,ho2⟩:=LT hA hn L (IX v (i+1)) (x+1) c.fStr (by omega) hle (by omega) (by omega) (λj hj=>hg j (by omega)) (by omega);exact⟨o,JZ (hb.trans (by rw[AH (Yo (by omega)),Bp (by omega) (by omega)])) ho1,by rw[ho2,show(n-(x+1)).toNat=k from by omega,Yr (show(0:Int)<x+1 from by omega),Yo (by omega)];rfl⟩
theorem Pj {i:Int}{c:Ab}{r:List Ab}(h0:0≤i)(hd:v.drop i.toNat=c::r)(hp:pl c=true):IX v i=JU (decide (c.fKind=6)) none v (i+1) c.fN.toNat:=by
 have g2:=(Ev h0 hd).2.1;have hN:=Tz hp;unfold IX JU;rw[hd,Hi,g2,hp];simp only[Ys,Yj]
 cases hn:decide (0<c.fN) with
 | true=>
  simp only[Ym]
  cases hq:LV (decide (c.fKind=6)) none c.fN.toNat r with
  | none=>rfl
  | some q=>
   obtain⟨kids,zs⟩:=q;simp only[Fo.flat,BB,YU,Yk,YV];omega
 | false=>
  simp only[Yf] at hn;rw[show c.fN.toNat=0 from by omega,K4];simp[Fo.flat,BB]
theorem Tt (hA:X7 (M+1) M v)(hN:∀c∈v,c.fN≤9223372036854775807):∀(d F:Nat) (i:Int),0≤i→i≤v.length→v.length-i.toNat=d→M+2*d+3<F→Nj F v i=some (IX v i):=by
 have hM:=hA.hM;have hvM:=hA.hv;intro d
 induction d using Nat.strongRecOn with
 | ind d ih=>
  intro F i h0 h1 hd hF;obtain⟨F,rfl⟩:∃G,F=G+1:=⟨F-1,by omega⟩
  obtain⟨F,rfl⟩:∃G,F=G+1:=⟨F-1,by omega⟩
  rw[Nj];unfold Ts
  cases hdr:v.drop i.toNat with
  | nil=>
   have hl:v.length≤i.toNat:=by simpa using hdr
   rw[AZ (by simp;omega)];simp[IX,hdr,Ty]
  | cons c r=>
   obtain⟨g1,g2,g3⟩:=Ev h0 hdr;have hcM:=hA.hc c (Yu g1);have hcN:=hN c (Yu g1);rw[AH (by simp;omega),B9 h0 g3,Ov h0 hdr];simp only[RP _ h0 (show i≤1152921504606846976 by omega),Option.isSome_some,ov,YC,imp,YK,Cl (x:=_) (rfl:true=true)];have hg:∀j,i+1≤j→j≤v.length→Nj F v j=some (IX v j):=λj hj hj2=>ih (v.length-j.toNat) (by omega) F j (by omega) hj2 rfl (by omega);have hpl0:pl c=false→IX v i = -1:=λhp=>by simp[IX,hdr,Hi,hp]
   have hleaf:pl c=true→c.fN=0→IX v i=i+1:=λhp h0'=>by simp[IX,hdr,Hi,hp,h0',Fo.flat,BB]
   have hscal:∀b:Bool,pl c=b→(b=true→c.fN=0)→IX v i=bif b then i+1 else -1:=λb hb hz=>by
    cases b
    ·exact hpl0 hb
    ·exact hleaf hb (hz rfl)
   by_cases k1:c.fKind=1
   ·rw[AZ (by simp[k1])];have hp:pl c=(decide (c.fInt=0)&&(decide (c.fStr=[])&&decide (c.fN=0))):=by simp[pl,k1]
    rw[hscal _ hp (λh=>by simp at h;exact h.2.2)]
    cases decide (c.fInt=0)<;>cases decide (c.fStr=[])<;>cases decide (c.fN=0)<;>rfl
   rw[AH (by simp[k1])]
   by_cases k2:c.fKind=2
   ·rw[AZ (by simp[k2])];have hp:pl c=((decide (c.fInt=0)||decide (c.fInt=1))&&(decide (c.fStr=[])&&decide (c.fN=0))):=by simp[pl,k2]
    rw[hscal _ hp (λh=>by simp at h;exact h.2.2)]
    cases decide (c.fInt=0)<;>cases decide (c.fInt=1)<;>cases decide (c.fStr=[])<;>cases decide (c.fN=0)<;>rfl
   rw[AH (by simp[k2])]
   by_cases k3:c.fKind=3
   ·rw[AZ (by simp[k3])];have hp:pl c=(decide (c.fStr=[])&&decide (c.fN=0)):=by simp[pl,k3]
    rw[hscal _ hp (λh=>by simp at h;exact h.2)]
    cases decide (c.fStr=[])<;>cases decide (c.fN=0)<;>rfl
   rw[AH (by simp[k3])]
   by_cases k4:c.fKind=4
   ·rw[AZ (by simp[k4]),QP (by omega) (by omega),Bf rfl,Bf rfl];rw[Yr k4,Yv,hscal (pl c) rfl (λhp=>by have:=(NX hp k4).1;rw[this])]
   rw[AH (by simp[k4])]
   by_cases k5:c.fKind=5
   ·have hp:pl c=(decide (c.fInt=0)&&(decide (c.fStr=[])&&decide (0≤c.fN))):=by simp[pl,k5]
    rw[show(decide (c.fKind=5)&&(decide (c.fInt=0)&&(decide (c.fStr=[])&&decide (0≤c.fN))))=pl c from by rw[hp,Yr k5,Yv]];have k5' : ¬ c.fKind=6:=by omega
    cases hb:pl c with
    | false=>rw[AH rfl,AH (by simp[k5]),hpl0 hb]
    | true=>
     have hn0:=Tz hb;rw[AZ rfl,Bp (by omega) (by omega),Nk];unfold LU;obtain⟨o,ho1,ho2⟩:=IV (F:=F) ⟨hM,hvM,by omega,hA.hc⟩ hcN F (i+1) 0 (by omega) (by omega) (YI 0) hn0 hg (by omega);rw[Bf ho1,ho2,Bf rfl,Pj h0 hdr hb,Yo k5',Int.sub_zero]
   rw[AH (by simp[k5])]
   by_cases k6:c.fKind=6
   ·have hp:pl c=(decide (c.fInt=0)&&(decide (c.fStr=[])&&decide (0≤c.fN))):=by simp[pl,k6]
    rw[show(decide (c.fKind=6)&&(decide (c.fInt=0)&&(decide (c.fStr=[])&&decide (0≤c.fN))))=pl c from by rw[hp,Yr k6,Yv]]
    cases hb:pl c with
    | false=>rw[AH rfl,hpl0 hb]
    | true=>
     have hn0:=Tz hb;rw[AZ rfl,Bp (by omega) (by omega),Tr];unfold QO;obtain⟨o,ho1,ho2⟩:=LT (F:=F) ⟨hM,hvM,by omega,hA.hc⟩ hcN F (i+1) 0 [] (by omega) (by omega) (YI 0) hn0 hg (by omega);rw[Bf ho1,ho2,Bf rfl,Pj h0 hdr hb,Yr k6,Int.sub_zero];rfl
   ·rw[AH (by simp[k6]),hpl0 (by simp[pl,k1,k2,k3,k4,k5,k6])]
end
theorem QV {m:Bool}{last key:Option Ah}{r:List Ab}(h:B0 m last key=true):H6 m last (BB key++r)=some (key,r):=by
 cases key with
 | none=>
  have:m=false:=by simpa[B0] using h
  subst this;rfl
 | some s=>
  have h':=h;simp only[B0,Yl] at h;obtain⟨⟨h1,h2⟩,h3⟩:=h;subst h1;have hp:pl ⟨4,0,s,0⟩=true:=by simp[pl,h2]
  show(bif pl ⟨4,0,s,0⟩&&decide ((4:Int)=4)&&B0 true last (some s) then _ else _)=_;rw[hp,h'];rfl
theorem L2:∀(f:Fo) (m:Bool) (last:Option Ah) (ys:List Ab),f.wf m last=true→LV m last f.cnt (f.flat++ys)=some (f,ys)
 | .nil,_,_,_,_=>rfl
 | .cell k c r,m,last,ys,hw=>by
  simp only[Fo.wf,Yl,Yy] at hw;obtain⟨⟨⟨w1,w2⟩,w3⟩,w4⟩:=hw;simp only[Fo.cnt,Fo.flat,YL,YS];rw[Ga,QV w1];simp only[Hi,w2,w3,Ys,Yj,L2 r m k ys w4,Fo.put]
 | .node k c kids r,m,last,ys,hw=>by
  simp only[Fo.wf,Yl,Yg] at hw;obtain⟨⟨⟨⟨⟨w1,w2⟩,w3⟩,w5⟩,w6⟩,w4⟩:=hw;simp only[Fo.cnt,Fo.flat,YL,YS];rw[Ga,QV w1];have e:c.fN.toNat=kids.cnt:=by omega
  simp only[Hi,w2,Yr w3,Ys,Yj,Ym,e,L2 kids _ none (r.flat++ys) w6,L2 r m k ys w4,Fo.put]
theorem Vv {f:Fo}{ys:List Ab}(h1:f.one=true)(hw:f.wf false none=true):H7 (f.flat++ys)=some (f,ys):=by
 have:=L2 f false none ys hw;have hc:f.cnt=1:=by
  cases f with
  | nil=>cases h1
  | cell k c r=>cases k with
   | some _=>cases h1
   | none=>cases r with
    | nil=>rfl
    | _=>cases h1
  | node k c kids r=>cases k with
   | some _=>cases h1
   | none=>cases r with
    | nil=>rfl
    | _=>cases h1
 rw[hc] at this;exact this
structure Je (M:Nat) (v:List Ab):Prop where
 hM:M≤1000000000
 hv:v.length≤M
 hc:∀c∈v,c.fStr.length≤M∧Ci .i64 c.fInt=true∧c.fN≤9223372036854775807
theorem Je.lk {M F:Nat}{v:List Ab}(h:Je M v)(hF:M<F):Ry F M v:=⟨by have:=h.hM;omega,by have:=h.hM;omega,h.hv,hF,h.hc⟩
theorem Je.rf {M F:Nat}{v:List Ab}(h:Je M v)(hF:M<F):X7 F M v:=⟨by have:=h.hM;omega,h.hv,hF,λc hc=>(h.hc c hc).1⟩
theorem Je.drop {M:Nat}{v:List Ab}(h:Je M v)(k:Nat):Je M (v.drop k):=⟨h.hM,by have:=h.hv;rw[YY];omega,λc hc=>h.hc c (List.mem_of_mem_drop hc)⟩
theorem Je.take {M:Nat}{v:List Ab}(h:Je M v)(k:Nat):Je M (v.take k):=⟨h.hM,by have:=h.hv;rw[List.length_take];omega,λc hc=>h.hc c (List.mem_of_mem_take hc)⟩
def whole (v:List Ab):Option Fo:=match H7 v with
 | some (f,[])=>some f
 | _=>none
theorem LF {v:List Ab}{f:Fo}(h:whole v=some f):v=f.flat∧f.wf false none=true∧f.one=true:=by
 unfold whole at h
 cases hp:H7 v with
 | none=>rw[hp] at h;cases h
 | some q=>
  obtain⟨g,ys⟩:=q;rw[hp] at h
  cases ys with
  | cons _ _=>cases h
  | nil=>
   cases h
   obtain⟨h1,h2,h3⟩:=JL hp;exact⟨by simpa using h1,h2,h3⟩
theorem LG {f:Fo}(h1:f.one=true)(hw:f.wf false none=true):whole f.flat=some f:=by
 have:=Vv (ys:=[]) h1 hw;rw[YV] at this;simp[whole,this]
def Gw (f:Fo):Int:=
 bif f.flat.any BY then 2 else bif f.flat.any Nv||(decide (200<f.flat.length)||(decide (8<f.dep)||decide (4000<(f.txt true).length))) then 3 else 0
def HW (v:List Ab):Int:=match whole v with
 | none=>1
 | some f=>Gw f
theorem QX {f:Fo}(h1:f.one=true):f.cnt=1:=by
 cases f with
 | nil=>cases h1
 | cell k c r=>cases k with
  | some _=>cases h1
  | none=>cases r with
   | nil=>rfl
   | _=>cases h1
 | node k c kids r=>cases k with
  | some _=>cases h1
  | none=>cases r with
   | nil=>rfl
   | _=>cases h1
theorem NU (s:Ah):K3 s≤2*s.length+2+s.length:=by
 have h1:s.count 34≤s.length:=List.count_le_length;have h2:s.count 92≤s.length:=List.count_le_length;unfold K3;omega
theorem WE {c:Ab}{M:Nat}(hp:pl c=true)(hs:c.fStr.length≤M)(hi:(Lib.itoa c.fInt).length≤21):SK c≤3*M+21:=by
 have:=NU c.fStr;unfold SK
 cases h1:decide (c.fKind=1) with
 | true=>simp only[Ym];omega
 | false=>
  cases h2:decide (c.fKind=2) with
  | true=>
   simp[pl,h1,h2] at hp;simp only[Yj,Ym];omega
  | false=>
   cases h3:decide (c.fKind=3) with
   | true=>simp only[Yj,Ym];omega
   | false=>cases h4:decide (c.fKind=4)<;>simp only[Yj,Ym]<;>omega
theorem Oq {M:Nat}:∀{f:Fo} {m:Bool} {l:Option Ah},f.wf m l=true→(∀c∈f.flat,c.fStr.length≤M∧Ci .i64 c.fInt=true∧c.fN≤9223372036854775807)→f.byt+f.cnt≤(3*M+24)*f.flat.length
 | .nil,_,_,_,_=>by simp[Fo.byt,Fo.flat,Fo.cnt]
 | .cell k c r,m,l,hw,hc=>by
  simp only[Fo.wf,Yl,Yy] at hw;obtain⟨⟨⟨w1,w2⟩,w3⟩,w4⟩:=hw;simp only[Fo.flat] at hc;have ih:=Oq w4 (λx hx=>hc x (by simp[hx]));obtain⟨c1,c2,c3⟩:=hc c (by simp);have i64:=Ke c2;have hl:=WE w2 c1 (Lib.itoa_length_le c.fInt i64.1 i64.2);have hk:Oh k≤(3*M+24)*(BB k).length:=by
   cases k with
   | none=>simp[Oh,BB]
   | some s=>
    have:=(hc ⟨4,0,s,0⟩ (by simp[BB])).1;have h2:=NU s;simp only at this;simp only[Oh,BB,Y8];omega
  simp only[Fo.byt,Fo.flat,Fo.cnt,Yn,Yk];have e:((3*(M:Int)+24)*(((BB k).length+(r.flat.length+1):Nat):Int))=(3*(M:Int)+24)*(BB k).length+((3*(M:Int)+24)*r.flat.length+(3*(M:Int)+24)):=by
   push_cast;rw[Int.mul_add,Int.mul_add,Int.mul_one]
  rw[e]
  push_cast at *
  omega
 | .node k c kids r,m,l,hw,hc=>by
  simp only[Fo.wf,Yl,Yg] at hw;obtain⟨⟨⟨⟨⟨w1,w2⟩,w3⟩,w5⟩,w6⟩,w4⟩:=hw;simp only[Fo.flat] at hc;have ih:=Oq w4 (λx hx=>hc x (by simp[hx]));have ih2:=Oq w6 (λx hx=>hc x (by simp[hx]));have hcf:=CB kids;have hk:Oh k≤(3*M+24)*(BB k).length:=by
   cases k with
   | none=>simp[Oh,BB]
   | some s=>
    have:=(hc ⟨4,0,s,0⟩ (by simp[BB])).1;have h2:=NU s;simp only at this;simp only[Oh,BB,Y8];omega
  simp only[Fo.byt,Fo.flat,Fo.cnt,Yn,Yk];have e:((3*(M:Int)+24)*(((BB k).length+(kids.flat.length+r.flat.length+1):Nat):Int))=(3*(M:Int)+24)*(BB k).length+((3*(M:Int)+24)*kids.flat.length+(3*(M:Int)+24)*r.flat.length+(3*(M:Int)+24)):=by
   push_cast;rw[Int.mul_add,Int.mul_add,Int.mul_add,Int.mul_one]
  rw[e]
  push_cast at *
  omega
theorem NE {M:Nat}(hM:M≤1000000){f:Fo}{m:Bool}{l:Option Ah}(hw:f.wf m l=true)(hl:f.flat.length≤M)(hc:∀c∈f.flat,c.fStr.length≤M∧Ci .i64 c.fInt=true∧c.fN≤9223372036854775807):f.byt≤4000000000000:=by
 have:=Oq (M:=M) hw hc;have h2:(3*M+24)*f.flat.length≤(3*1000000+24)*1000000:=Nat.mul_le_mul (by omega) (by omega);have h3:(((3*M+24)*f.flat.length:Nat):Int)=(3*(M:Int)+24)*f.flat.length:=by push_cast;rfl
 omega
theorem Kw {M F:Nat}{v:List Ab}(hA:Je M v)(hM:M≤1000000)(hF:M<F):Ib F v=some (HW v):=by
 unfold Ib HW whole;have hvM:=hA.hv;rcases VE (hA.lk hF) with⟨f,ys,hp,hl⟩ | ⟨hp,sh',hl⟩
 ·rw[hl,Bf rfl,hp];obtain⟨h1,h2,h3⟩:=JL hp;have hlen:v.length=f.flat.length+ys.length:=by rw[h1];simp
  cases ys with
  | cons c r=>
   rw[AZ];simp only[Yk] at hlen;simp;omega
  | nil=>
   simp only[YT,Nat.add_zero] at hlen;rw[AH (by simp[hlen])];have hc:∀c∈f.flat,c.fStr.length≤M∧Ci .i64 c.fInt=true∧c.fN≤9223372036854775807:=λc hc=>hA.hc c (by rw[h1];simp[hc]);have hb:=NE hM h2 (by omega) hc;have hb0:=GJ h2;have e1:(f.sh 0 LR).fOutside=f.flat.any BY:=by rw[NP];rfl
   have e2:(f.sh 0 LR).fLong=f.flat.any Nv:=by rw[Ly];rfl
   have e3:(f.sh 0 LR).fDepth=f.dep:=by rw[JD f 0 LR (by simp[LR])];simp[LR]
   have e4:(f.sh 0 LR).fBytes=(f.txt true).length:=by
    rw[JE f false none 0 LR h2 (by simp[LR]) (by simp[LR];omega),I3 f false none true h2,QX h3];simp[LR]
   simp only;rw[e1,e2,e3,e4,hlen];unfold Gw
   cases f.flat.any BY with
   | true=>rw[AZ rfl];rfl
   | false=>
    rw[AH rfl];have a1:decide ((200:Int)<(f.flat.length:Int))=decide (200<f.flat.length):=by rw[Yx];simp;omega
    have a2:decide ((8:Int)<(f.dep:Int))=decide (8<f.dep):=by rw[Yx];simp;omega
    have a3:decide ((4000:Int)<((f.txt true).length:Int))=decide (4000<(f.txt true).length):=by rw[Yx];simp;omega
    rw[a1,a2,a3]
    cases(f.flat.any Nv||(decide (200<f.flat.length)||(decide (8<f.dep)||decide (4000<(f.txt true).length))))<;>rfl
 ·rw[hl,Bf rfl,hp];rfl
theorem QG {c:Ab}(hp:pl c=true)(hn:decide (0<c.fN)=false):(Fo.cell none c .nil).wf false none=true:=by simp[Fo.wf,B0,hp,hn]
theorem QF {c:Ab}{kids:Fo}(hp:pl c=true)(hn:0<c.fN)(hk:c.fN=kids.cnt)(hw:kids.wf (decide (c.fKind=6)) none=true):(Fo.node none c kids .nil).wf false none=true:=by simp[Fo.wf,B0,hp,hn,hk,hw];omega
section
variable {M : Nat} {v : List Ab}
theorem Je.next (hA:Je M v){F:Nat}(hF:3*M+3<F){p:Int}(h0:0≤p)(h1:p≤v.length):Nj F v p=some (IX v p):=by
 have hM:=hA.hM;have hvM:=hA.hv;exact Tt (hA.rf (Y1 M)) (λc hc=>(hA.hc c hc).2.2) (v.length-p.toNat) F p h0 h1 rfl (by omega)
theorem VG {m:Bool}{last key:Option Ah}(h:B0 m last key=true):((BB key).length:Int)=bif m then 1 else 0:=by
  cases key with
  | none=>
            have:m=false:=by simpa[B0] using h
            subst this;rfl
  | some s=>simp only[B0,Yl] at h;rw[h.1.1];rfl
end
def P2 (c:UInt8):Ah:=bif (decide (c=34)||decide (c=92)) then[92,c] else[c]
theorem N4 {s:Ah}{k:Nat}{c:UInt8}(h:s[k]? =some c):En (s.take (k+1))=En (s.take k)++P2 c:=by
 rw[List.take_add_one,h];simp[En,List.flatMap_append,P2]
theorem X1 {s:Ah}{x:Int}{c:UInt8}(h:s[x.toNat]? =some c):decide (Br s x=34)=decide (c=34):=by
 rw[EX h,Yx,decide_eq_true_iff,decide_eq_true_iff,← YZ];show _↔c.toNat=34;omega
theorem X0 {s:Ah}{x:Int}{c:UInt8}(h:s[x.toNat]? =some c):decide (Br s x=92)=decide (c=92):=by
 rw[EX h,Yx,decide_eq_true_iff,decide_eq_true_iff,← YZ];show _↔c.toNat=92;omega
theorem H9 {R V:Type}(K:V→Option R)(v:V):Cg K (.go v)=K v:=rfl
theorem Pc {R V:Type}(K:V→Option R)(r:R):Cg K (.ret r)=some r:=rfl
section
variable {M : Nat} {v : List Ab}
theorem XN (a b c d e:Ah):(((a++b)++c)++d)++e=a++(b++(c++d)++e):=by simp
theorem XO (a b c d:Ah):((a++b)++c)++d=a++([]++(b++c)++d):=by simp
theorem XP (a b c:Ah):(a++b)++c=a++(b++[]++c):=by simp
theorem XQ (a b:Ah):a++b=a++([]++[]++b):=by simp
end
section
variable {M : Nat} {v : List Ab}
theorem L5 {α:Type}[Inhabited α](a:α):ov (some a)=a:=rfl
end
theorem CI {α:Type}{n:Nat}{x:Option α}(h:n≤140737488355328):Bj (DI 1 n) x=x:=Cl (Yr (by omega))
theorem E1 {α β:Type}(a:α)(k:α→Option β):Jz a k=k a:=rfl
theorem Gz {α:Type}{n:Int}{x:Option α}(h:0≤n)(h':n≤255):Bj (Ci .u8 n) x=x:=Cl (VK h h')
theorem UG {s:Ah}{x:Int}{c:UInt8}(h:s[x.toNat]? =some c):UInt8.ofNat (Int.toNat (Br s x))=c∧0≤Br s x∧Br s x≤255:=by
 have:=UInt8.toNat_lt c;rw[EX h];refine⟨?_,by omega,by omega⟩;rw[← YZ];simp
theorem OK {s l:Ah}{x:Int}{c:UInt8}(h0:0≤x)(hx:x<(s.length:Int))(hs:s.length≤1152921504606846976)(hl:l.length+2≤140737488355328)(hc:s[x.toNat]? =some c):CS s x l=some (.next (x+1,l++P2 c)):=by
 obtain⟨b1,b2,b3⟩:=UG hc;unfold CS P2;rw[AZ (Yr hx),B9 h0 hx,X1 hc,X0 hc];have l1:(l++[UInt8.ofNat (Int.toNat 92)]).length=l.length+1:=by simp
 cases hq:(decide (c=34)||decide (c=92)) with
 | true=>
  rw[AZ rfl,CI (by omega),Gz (by decide) (by decide),E1,l1,CI (by omega),Gz b2 b3,E1,b1,Bp (by omega) (by omega),YL];rfl
 | false=>
  rw[AH rfl,CI (by omega),Gz b2 b3,E1,b1,Bp (by omega) (by omega)];rfl
theorem Tc {l:Ah}(h:l.length+1≤140737488355328):Ee l=some (l++[34]):=by
 unfold Ee;rw[CI h,E1];rfl
theorem Kv {F:Nat}{l s:Ah}(hF:s.length<F)(hl:(l++EV s).length≤140737488355328):Jh F l s=some (l++EV s):=by
 have hq:(EV s).length=(En s).length+2:=by simp[EV]
 rw[Yn,hq] at hl;have hesc:∀k,(En (s.take k)).length≤(En s).length:=λk=>by
  have:En s=En (s.take k)++En (s.drop k):=by rw[En,En,En,← List.flatMap_append,Za]
  rw[this,Yn];omega
 have hsl:s.length≤(En s).length:=by rw[Mx];omega
 obtain⟨o,h1,h2⟩:=Ka (body:=λσ=>CS s σ.1 σ.2) (λσ=>0≤σ.1∧σ.1≤(s.length:Int)∧σ.2=l++[34]++En (s.take σ.1.toNat)) (λσ=>s.length-σ.1.toNat)
  (λo=>Cg (λν=>Ee ν) o=some (l++EV s)) (λσ ⟨h0,hlx,ha⟩=>by
   obtain⟨x,out⟩:=σ;simp only at h0 hlx ha;show(∃s',CS s x out=_∧_)∨∃o,CS s x out=_∧_;have hol:out.length=l.length+1+(En (s.take x.toNat)).length:=by rw[ha];simp;omega
   have he:=hesc x.toNat
   by_cases hx:x<(s.length:Int)
   ·obtain⟨c,hc⟩:∃c,s[x.toNat]? =some c:=⟨s[x.toNat]'(by omega),Yp (by omega)⟩
    have he2:=hesc (x.toNat+1);rw[N4 hc,Yn] at he2;have hc1:1≤(P2 c).length:=by unfold P2;cases(decide (c=34)||decide (c=92))<;>simp
    have a1:0≤x+1:=by omega
    have a2:x+1≤s.length:=by omega
    have a3:s.length-(x+1).toNat<s.length-x.toNat:=by omega
    have a4:out++P2 c=l++[34]++En (s.take (x+1).toNat):=by rw[show(x+1).toNat=x.toNat+1 from by omega,N4 hc,ha,YL]
    exact .inl ⟨(x+1,out++P2 c),OK h0 hx (by omega) (by omega) hc,⟨a1,a2,a4⟩,a3⟩
   ·have e:x.toNat=s.length:=by omega
    rw[e,List.take_length] at ha;have hf:out++[34]=l++EV s:=by rw[ha];simp[EV]
    have hgo:CS s x out=some (.out (.go out)):=by unfold CS;rw[AH (Yo hx)]
    exact .inr ⟨.go out,hgo,(H9 (λν=>Ee ν) out).trans ((Tc (by omega)).trans (congrArg some hf))⟩) F (0,l++[34]) ⟨YI 0,by show(0:Int)≤s.length;omega,by show l++[34]=l++[34]++En (s.take 0);simp[En]⟩ (by show s.length-0<F;omega)
 unfold Jh;rw[CI (by omega),Gz (by decide) (by decide),E1];have hb:[UInt8.ofNat (Int.toNat 34)]=([34]:Ah):=rfl;rw[hb,Bf h1,h2]
theorem LI {F:Nat}{l key:Ah}{x:List Ab}{first:Bool}{c:Ab}{k last:Option Ah}{tx:Ah}(hk:B0 (decide (c.fKind=6)) last k=true)(hkey:∀s,k=some s→key=s∧s.length<F)
  (hlen:(l++(De first++Hw k++tx)).length≤140737488355328) (hw:∀l':Ah,(l'++tx).length≤140737488355328→E4 F l' x=some (l'++tx)):DS (F+1) key x first l c=some (true,false,l++(De first++Hw k++tx)):=by
 rw[DS];unfold J4;have hb:[UInt8.ofNat (Int.toNat 44)]=([44]:Ah):=rfl;have ha:[UInt8.ofNat (Int.toNat 58)]=([58]:Ah):=rfl;have hlen':=hlen;simp only[Yn] at hlen'
 cases first with
 | true=>
  rw[AH (p:=!true) rfl]
  cases hm:decide (c.fKind=6) with
  | true=>
   rw[hm] at hk
   cases k with
   | none=>simp[B0] at hk
   | some s=>
    obtain⟨e1,e2⟩:=hkey s rfl;subst e1;simp only[Hw,Yn,Y8] at hlen';have h1:(l++EV key).length≤140737488355328:=by rw[Yn];omega
    have e:((l++EV key)++[58])++tx=l++(De true++Hw (some key)++tx):=XO _ _ _ _;rw[← e] at hlen ⊢;rw[AZ rfl,Kv e2 h1,Bf rfl,CI (by rw[Yn];omega),Gz (by decide) (by decide),E1,ha,hw _ hlen,Bf rfl]
  | false=>
   rw[hm] at hk
   cases k with
   | some s=>simp[B0] at hk
   | none=>
    have e:l++tx=l++(De true++Hw none++tx):=XQ _ _;rw[← e] at hlen ⊢;rw[AH rfl,hw _ hlen,Bf rfl]
 | false=>
  simp only[De,Yj,Y8] at hlen';rw[AZ (p:=!false) rfl,CI (by omega),Gz (by decide) (by decide),E1,hb]
  cases hm:decide (c.fKind=6) with
  | true=>
   rw[hm] at hk
   cases k with
   | none=>simp[B0] at hk
   | some s=>
    obtain⟨e1,e2⟩:=hkey s rfl;subst e1;simp only[Hw,Yn,Y8] at hlen';have h1:((l++[44])++EV key).length≤140737488355328:=by simp only[Yn,Y8];omega
    have e:(((l++[44])++EV key)++[58])++tx=l++(De false++Hw (some key)++tx):=XN _ _ _ _ _;rw[← e] at hlen ⊢;rw[AZ rfl,Kv e2 h1,Bf rfl,CI (by simp only[Yn,Y8];omega),Gz (by decide) (by decide),E1,ha,hw _ hlen,Bf rfl]
  | false=>
   rw[hm] at hk
   cases k with
   | some s=>simp[B0] at hk
   | none=>
    have e:(l++[44])++tx=l++(De false++Hw none++tx):=XP _ _ _;rw[← e] at hlen ⊢;rw[AH rfl,hw _ hlen,Bf rfl]
section
variable {M : Nat}
theorem LO {F:Nat}{v:List Ab}{c:Ab}{at_ x:Int}{first:Bool}{l l2:Ah}{k last:Option Ah}{f1:Fo}{ys:List Ab}(hA:Je M v)(hF:M<F)(hpc:Aj v 0=c)(hx:x<c.fN)(hx0:0≤x)(hcN:c.fN≤9223372036854775807)(h0:0≤at_)(hk:B0 (decide (c.fKind=6)) last k=true)
  (hd:v.drop at_.toNat=BB k++(f1.flat++ys)) (h1:f1.one=true) (hw:f1.wf false none=true) (hr:∀key,(∀s,k=some s→key=s)→DS F key f1.flat first l c=some (true,false,l2)) :
  Da F v c (DS F) at_ x first l=some (.next (at_+(BB k).length+f1.flat.length,x+1,false,l2)):=by
 have hM:=hA.hM;have hvM:=hA.hv;have hd1:=Di h0 hd;have hkl:=VG hk;have hfl:=JP h1;have hll:(v.drop (at_+(BB k).length).toNat).length=f1.flat.length+ys.length:=by rw[hd1];simp
 rw[YY] at hll;have hlook:HM F (v.drop (at_+(BB k).length).toNat)=some ((f1.flat.length:Int),f1.sh 0 LR,true):=Pt ((hA.drop _).lk hF) h1 hw hd1;have htake:List.take (Int.toNat (at_+(BB k).length+(f1.flat.length:Int))-Int.toNat (at_+(BB k).length)) (v.drop (at_+(BB k).length).toNat)=f1.flat:=by
  rw[hd1,show Int.toNat (at_+(BB k).length+(f1.flat.length:Int))-Int.toNat (at_+(BB k).length)=f1.flat.length from by omega,List.take_left]
 have hmono:0≤at_+(BB k).length+f1.flat.length:=by omega
 unfold Da;rw[hpc,AZ (Yr hx)]
 cases hm:decide (c.fKind=6) with
 | true=>
  rw[hm] at hk hkl
  cases k with
  | none=>simp[B0] at hk
  | some s=>
   have e1:((BB (some s)).length:Int)=1:=rfl;rw[e1] at hlook htake hll hmono ⊢;have hats:(Aj v at_).fStr=s:=by
    have:v.drop at_.toNat=⟨4,0,s,0⟩::(f1.flat++ys):=by simpa[BB] using hd
    rw[Ov h0 this]
   have hin:at_<v.length:=by omega
   rw[AZ rfl,B9 h0 hin,Bp (by omega) (by omega),CQ (by omega) (by omega),hlook,Bf rfl,Bp (by omega) (by omega),CQ (by omega) (by omega),CQ (by omega) (by omega),htake,hats,hr s (λs' h=>by cases h;rfl),Bf rfl];rw[AH (p:=!true) rfl,Bp (by omega) (by omega)]
 | false=>
  rw[hm] at hk hkl
  cases k with
  | some s=>simp[B0] at hk
  | none=>
   have e1:((BB none).length:Int)=0:=rfl;rw[e1,Int.add_zero] at hlook htake hll hmono ⊢;rw[AH rfl,CQ (by omega) (by omega),hlook,Bf rfl,Bp (by omega) (by omega),CQ (by omega) (by omega),CQ (by omega) (by omega),htake,hr [] (λs' h=>by cases h),Bf rfl];rw[AH (p:=!true) rfl,Bp (by omega) (by omega)]
end
section
variable {M : Nat}
theorem Hu (l:Ah)(c:UInt8):(l++[c]).length=l.length+1:=by rw[Yn,Y8]
theorem Jg {F:Nat}{l p:Ah}{v:List Ab}{c:Ab}{rf:Ah→(List Ab)→Bool→Ah→Ab→Option (Bool×Bool×Ah)}{rp:(List Ab)→Bool→Ah→Ab→Option (Bool×Ah)}(hc:Aj v 0=c)(hv:0<v.length)(hk:c.fKind=5∨c.fKind=6)(hlen:(l++PE c p).length≤140737488355328)
  (hp:∀l':Ah,l'.length=l.length+1→∃b,rp v true l' c=some (b,l'++p)):I1 F rf rp l v=some (l++PE c p):=by
 have hbl:=Kl c p;rw[Yn,hbl] at hlen;have i0:(0:Int)<(v.length:Int):=by omega
 unfold I1;rw[B9 (YI 0) i0,hc,AH (Yo (by omega)),AH (Yo (by omega)),AH (Yo (by omega)),AH (Yo (by omega))];have b1:[UInt8.ofNat (Int.toNat (Br ([123,125]:Ah) 0))]=([123]:Ah):=rfl;have b2:[UInt8.ofNat (Int.toNat (Br ([123,125]:Ah) 1))]=([125]:Ah):=rfl;have b3:[UInt8.ofNat (Int.toNat (Br ([91,93]:Ah) 0))]=([91]:Ah):=rfl;have b4:[UInt8.ofNat (Int.toNat (Br ([91,93]:Ah) 1))]=([93]:Ah):=rfl;have c1:Br ([123,125]:Ah) 0=123:=rfl;have c2:Br ([123,125]:Ah) 1=125:=rfl;have c3:Br ([91,93]:Ah) 0=91:=rfl;have c4:Br ([91,93]:Ah) 1=93:=rfl;have n2:(([123,125]:Ah).length:Int)=2:=rfl;have n3:(([91,93]:Ah).length:Int)=2:=rfl
 cases h6:decide (c.fKind=6) with
 | true=>
  obtain⟨b,hb⟩:=hp _ (Hu l 123);rw[AZ rfl,n2,B9 (by decide) (by decide),CI (by omega),b1,b2,c1,c2,Gz (by decide) (by decide),E1,hb,Bf rfl,B9 (by decide) (by decide)];have e:((l++[123])++p).length=l.length+1+p.length:=by rw[Yn,Hu]
  rw[e,CI (by omega),Gz (by decide) (by decide),E1];simp[PE,h6]
 | false=>
  obtain⟨b,hb⟩:=hp _ (Hu l 91);rw[AH rfl,n3,B9 (by decide) (by decide),CI (by omega),b3,b4,c3,c4,Gz (by decide) (by decide),E1,hb,Bf rfl,B9 (by decide) (by decide)];have e:((l++[91])++p).length=l.length+1+p.length:=by rw[Yn,Hu]
  rw[e,CI (by omega),Gz (by decide) (by decide),E1];simp[PE,h6]
theorem KZ {F:Nat}{v:List Ab}{c:Ab}{at_ x:Int}{first:Bool}{l:Ah}{rf:Ah→(List Ab)→Bool→Ah→Ab→Option (Bool×Bool×Ah)}(hc:Aj v 0=c)(hx : ¬ x<c.fN):Da F v c rf at_ x first l=some (.out (.go (first,l))):=by
 unfold Da;rw[hc,AH (Yo hx)]
theorem KY {F:Nat}{l:Ah}{c:Ab}(hp:pl c=true)(hn:decide (0<c.fN)=false)(hs:c.fStr.length<F+2)(hi:Ci .i64 c.fInt=true)(hlen:(l++DF c).length≤140737488355328):E4 (F+3) l [c]=some (l++DF c):=by
 rw[E4];have hat:Aj [c] 0=c:=rfl;have i0:(0:Int)<(([c]:List Ab).length:Int):=by simp
 have hN : ¬ (0:Int)<c.fN:=by simpa using hn
 by_cases ha:c.fKind=5∨c.fKind=6
 ·have el:DF c=PE c []:=by
   have k1:decide (c.fKind=1)=false:=Yo (by omega);have k2:decide (c.fKind=2)=false:=Yo (by omega);have k3:decide (c.fKind=3)=false:=Yo (by omega);have k4:decide (c.fKind=4)=false:=Yo (by omega);unfold DF PE;rw[k1,k2,k3,k4];rfl
  rw[el] at hlen ⊢;refine Jg hat (by simp) ha hlen (λl' hl'=>⟨true,?_⟩);rw[ES];unfold Ha;rw[B9 (YI 0) i0,Bf (Ei (o:=.go (true,l')) (KZ hat hN)),H9,YV];rfl
 ·unfold I1 DF;unfold DF at hlen;rw[B9 (YI 0) i0,hat]
  cases k1:decide (c.fKind=1) with
  | true=>
   rw[k1] at hlen;simp only[Ym] at hlen;rw[AZ rfl,CI (by rw[Yn] at hlen;exact hlen),E1];rfl
  | false=>
  rw[k1] at hlen;simp only[Yj] at hlen;rw[AH rfl]
  cases k2:decide (c.fKind=2) with
  | true=>
   rw[k2] at hlen;simp only[Ym] at hlen;rw[AZ rfl];simp[pl,k1,k2] at hp;simp only[Yn] at hlen;rcases hp.1 with h0 | h1
   ·rw[h0] at hlen ⊢;have a:Aj ([([102,97,108,115,101]:Ah),([116,114,117,101]:Ah)]:List Ah) 0=[102,97,108,115,101]:=rfl;have hlen2:l.length+([102,97,108,115,101]:Ah).length≤140737488355328:=hlen;rw[B9 (by decide) (by decide),a,CI hlen2,E1];rfl
   ·rw[h1] at hlen ⊢;have a:Aj ([([102,97,108,115,101]:Ah),([116,114,117,101]:Ah)]:List Ah) 1=[116,114,117,101]:=rfl;have hlen2:l.length+([116,114,117,101]:Ah).length≤140737488355328:=hlen;rw[B9 (by decide) (by decide),a,CI hlen2,E1];rfl
  | false=>
  rw[k2] at hlen;simp only[Yj] at hlen;rw[AH rfl]
  cases k3:decide (c.fKind=3) with
  | true=>
   rw[k3] at hlen;simp only[Ym,Yn] at hlen;rw[AZ rfl,Cl hi,CI hlen,E1];rfl
  | false=>
  rw[k3] at hlen;simp only[Yj] at hlen;rw[AH rfl]
  cases k4:decide (c.fKind=4) with
  | true=>
   rw[k4] at hlen;simp only[Ym] at hlen;rw[AZ rfl,Kv hs hlen,Bf rfl];rfl
  | false=>
   exfalso;simp only[Yf] at k1 k2 k3 k4;simp[pl,k1,k2,k3,k4,show ¬ c.fKind=5 by omega,show ¬ c.fKind=6 by omega] at hp
theorem Je.mem {v:List Ab}(hA:Je M v){p:Int}{a b:List Ab}(h:v.drop p.toNat=a++b):Je M a:=by
 have:=(hA.drop p.toNat).take a.length
 rwa [h,List.take_left] at this
theorem MI:∀(g:Fo) (v:List Ab) (c:Ab) (F L:Nat) (at_ x:Int) (first:Bool) (l:Ah) (m:Bool) (last:Option Ah) (ys:List Ab),Je M v→Aj v 0=c→decide (c.fKind=6)=m→c.fN≤9223372036854775807→g.wf m last=true→v.drop at_.toNat=g.flat++ys→0≤at_→c.fN=x+g.cnt→0≤x→(l++g.txt first).length≤140737488355328→g.cnt<L→M+5+3*g.flat.length<F→
  ∃o b,Ch (λσ=>Da F v c (DS F) σ.1 σ.2.1 σ.2.2.1 σ.2.2.2) L (at_,x,first,l)=some o∧Cg (λν=>Gj ν.1 ν.2) o=some (b,l++g.txt first):=by
 intro g
 induction g with
 | nil=>
  intro v c F L at_ x first l m last ys hA hpc hm hcN hw hd h0 hN hx hlen hL hF
  obtain⟨L,rfl⟩:∃K,L=K+1:=⟨L-1,by omega⟩
  simp only[Fo.cnt] at hN;have hx' : ¬ x<c.fN:=by omega
  refine⟨.go (first,l),first,Ei (KZ hpc hx'),?_⟩;rw[H9,Fo.txt,YV];rfl
 | cell k cc r ih=>
  intro v c F L at_ x first l m last ys hA hpc hm hcN hw hd h0 hN hx hlen hL hF
  simp only[Fo.wf,Yl,Yy] at hw;obtain⟨⟨⟨w1,w2⟩,w3⟩,w4⟩:=hw;have hd2:v.drop at_.toNat=BB k++((Fo.cell none cc .nil).flat++(r.flat++ys)):=by rw[hd];simp[Fo.flat,BB]
  have hd1:=Di h0 hd2;simp only[Fo.cnt] at hN hL;simp only[Fo.flat,Yn,Yk] at hF;obtain⟨L,rfl⟩:∃K,L=K+1:=⟨L-1,by omega⟩
  obtain⟨F,rfl⟩:∃K,F=K+4:=⟨F-4,by omega⟩
  have hAe:=hA.mem hd1;have hcM:=hAe.hc cc (by simp[Fo.flat,BB]);have e:l++(Fo.cell k cc r).txt first=(l++(De first++Hw k++DF cc))++r.txt false:=by simp[Fo.txt]
  rw[e] at hlen ⊢;have hl2:(l++(De first++Hw k++DF cc)).length≤140737488355328:=by rw[Yn] at hlen;omega
  have hb:=LO (F:=F+4) (last:=last) hA (by omega) hpc (by omega) hx hcN h0 (by rw[hm];exact w1) hd2 rfl (QG w2 w3) (first:=first) (l:=l) (λkey hkey=>
   LI (last:=last) (by rw[hm];exact w1) (λs hs=>⟨hkey s hs,by
    have hM:=hA.hM;subst hs;have:=(hA.hc ⟨4,0,s,0⟩ (List.mem_of_mem_drop (by rw[hd2];simp[BB]))).1;simp only at this;omega⟩) hl2 (λl' hl'=>KY (F:=F) w2 w3 (by omega) hcM.2.1 hl'))
  obtain⟨o,b,ho1,ho2⟩:=ih v c (F+4) L (at_+(BB k).length+((Fo.cell none cc .nil).flat.length:Int)) (x+1) false (l++(De first++Hw k++DF cc)) m k ys hA hpc hm hcN w4 (Di (by omega) hd1) (by omega) (by omega) (by omega) hlen (by omega) (by omega);exact⟨o,b,JZ hb ho1,ho2⟩
 | node k cc kids r ihk ih=>
  intro v c F L at_ x first l m last ys hA hpc hm hcN hw hd h0 hN hx hlen hL hF
  simp only[Fo.wf,Yl,Yg] at hw;obtain⟨⟨⟨⟨⟨w1,w2⟩,w3⟩,w5⟩,w6⟩,w4⟩:=hw;have hd2:v.drop at_.toNat=BB k++((Fo.node none cc kids .nil).flat++(r.flat++ys)):=by rw[hd];simp[Fo.flat,BB]
  have hd1:=Di h0 hd2;simp only[Fo.cnt] at hN hL;simp only[Fo.flat,Yn,Yk] at hF;obtain⟨L,rfl⟩:∃K,L=K+1:=⟨L-1,by omega⟩
  obtain⟨F,rfl⟩:∃K,F=K+3:=⟨F-3,by omega⟩
  have hAe:=hA.mem hd1;have hfl:(Fo.node none cc kids .nil).flat=cc::kids.flat:=by simp[Fo.flat,BB]
  have hcM:=hAe.hc cc (by rw[hfl];simp);have hcf:=CB kids;have e:l++(Fo.node k cc kids r).txt first=(l++(De first++Hw k++PE cc (kids.txt true)))++r.txt false:=by simp[Fo.txt]
  rw[e] at hlen ⊢;have hl2:(l++(De first++Hw k++PE cc (kids.txt true))).length≤140737488355328:=by rw[Yn] at hlen;omega
  have hb:=LO (F:=F+3) (last:=last) hA (by omega) hpc (by omega) hx hcN h0 (by rw[hm];exact w1) hd2 rfl (QF w2 w3 w5 w6) (first:=first) (l:=l) (λkey hkey=>
   LI (last:=last) (by rw[hm];exact w1) (λs hs=>⟨hkey s hs,by
    have hM:=hA.hM;subst hs;have:=(hA.hc ⟨4,0,s,0⟩ (List.mem_of_mem_drop (by rw[hd2];simp[BB]))).1;simp only at this;omega⟩) hl2 (λl' hl'=>by
     rw[E4];have hat:Aj (Fo.node none cc kids .nil).flat 0=cc:=by rw[hfl];rfl
     have hlen0:0<(Fo.node none cc kids .nil).flat.length:=by rw[hfl];simp
     have hbl:=Kl cc (kids.txt true);rw[Yn,hbl] at hl';have hb:∀l2:Ah,l2.length=l'.length+1→∃b,ES (F+1) (Fo.node none cc kids .nil).flat true l2 cc=some (b,l2++kids.txt true):=λl2 hl2'=>by
       rw[ES];unfold Ha;have i0:(0:Int)<((Fo.node none cc kids .nil).flat.length:Int):=by omega
       obtain⟨o,b,ho1,ho2⟩:=ihk (Fo.node none cc kids .nil).flat cc F F 1 0 true l2 _ none [] hAe hat rfl hcM.2.2 w6 (by rw[hfl];simp) (by decide) (by omega) (YI 0) (by rw[Yn];omega) (by omega) (by omega);exact⟨b,by rw[B9 (YI 0) i0,Bf ho1,ho2]⟩
     exact Jg hat hlen0 (L4 w2 w3).1 (by rw[Yn,hbl];exact hl') hb))
  obtain⟨o,b,ho1,ho2⟩:=ih v c (F+3) L (at_+(BB k).length+((Fo.node none cc kids .nil).flat.length:Int)) (x+1) false (l++(De first++Hw k++PE cc (kids.txt true))) m k ys hA hpc hm hcN w4 (Di (by omega) hd1) (by omega) (by omega) (by omega) hlen (by omega) (by omega);exact⟨o,b,JZ hb ho1,ho2⟩
theorem R6 {f:Fo}{F:Nat}{l:Ah}(hA:Je M f.flat)(h1:f.one=true)(hw:f.wf false none=true)(hF:M+8+3*f.flat.length<F)(hlen:(l++f.txt true).length≤140737488355328):E4 F l f.flat=some (l++f.txt true):=by
 have hM:=hA.hM;have hvM:=hA.hv
 cases f with
 | nil=>cases h1
 | cell k c r=>
  cases k with
  | some s=>cases h1
  | none=>
   cases r with
   | nil=>
    simp only[Fo.wf,Yl,Yy] at hw;have hfl:(Fo.cell none c .nil).flat=[c]:=by simp[Fo.flat,BB]
    have hcM:=hA.hc c (by rw[hfl];simp);have et:(Fo.cell none c .nil).txt true=DF c:=by simp[Fo.txt,De,Hw]
    rw[et] at hlen ⊢;obtain⟨F,rfl⟩:∃K,F=K+3:=⟨F-3,by omega⟩
    rw[hfl];exact KY hw.1.1.2 hw.1.2 (by omega) hcM.2.1 hlen
   | cell _ _ _=>cases h1
   | node _ _ _ _=>cases h1
 | node k c kids r=>
  cases k with
  | some s=>cases h1
  | none=>
   cases r with
   | nil=>
    simp only[Fo.wf,Yl,Yg] at hw;obtain⟨⟨⟨⟨⟨w1,w2⟩,w3⟩,w5⟩,w6⟩,w4⟩:=hw;have hfl:(Fo.node none c kids .nil).flat=c::kids.flat:=by simp[Fo.flat,BB]
    have hcM:=hA.hc c (by rw[hfl];simp);have et:(Fo.node none c kids .nil).txt true=PE c (kids.txt true):=by simp[Fo.txt,De,Hw]
    rw[et] at hlen ⊢;have hcf:=CB kids;have hat:Aj (Fo.node none c kids .nil).flat 0=c:=by rw[hfl];rfl
    have hlen0:0<(Fo.node none c kids .nil).flat.length:=by rw[hfl];simp
    have hl1:(Fo.node none c kids .nil).flat.length=kids.flat.length+1:=by rw[hfl];simp
    have hbl:=Kl c (kids.txt true);obtain⟨F,rfl⟩:∃K,F=K+2:=⟨F-2,by omega⟩
    rw[E4];refine Jg hat hlen0 (L4 w2 w3).1 hlen (λl2 hl2=>?_);rw[Yn,hbl] at hlen;rw[ES];unfold Ha;have i0:(0:Int)<((Fo.node none c kids .nil).flat.length:Int):=by omega
    obtain⟨o,b,ho1,ho2⟩:=MI kids (Fo.node none c kids .nil).flat c F F 1 0 true l2 _ none [] hA hat rfl hcM.2.2 w6 (by rw[hfl];simp) (by decide) (by omega) (YI 0) (by rw[Yn];omega) (by omega) (by omega);exact⟨b,by rw[B9 (YI 0) i0,Bf ho1,ho2]⟩
   | cell _ _ _=>cases h1
   | node _ _ _ _=>cases h1
def IS (v:List Ab):Ah×Int:=match whole v with
 | none=>([],1)
 | some f=>bif decide (Gw f=0) then(f.txt true,0) else([],Gw f)
theorem VI (n:Int):Lib.itoa n≠[]:=by
 unfold Lib.itoa
 split
 ·simp
 ·intro h;have:=congrArg List.length h;rw[Lib.decDigits_length] at this;have:=Lib.nDigits_pos n.toNat;simp at *;omega
theorem Vo {f:Fo}(hw:f.wf false none=true)(h1:f.one=true):0<(f.txt true).length:=by
 have e:=I3 f false none true hw
 cases f with
 | nil=>cases h1
 | cell k c r=>
  have h2:=GJ hw;simp only[Fo.txt,Yn];simp only[Fo.wf,Yl] at hw;have hp:=hw.1.1.2;have:0<(DF c).length:=by
   have hl:=Nw hp;have:0<SK c:=by
    unfold SK
    cases h1:decide (c.fKind=1) with
    | true=>simp
    | false=>
     cases h2:decide (c.fKind=2) with
     | true=>
      simp[pl,h1,h2] at hp;simp only[Yj,Ym];omega
     | false=>
      cases h3:decide (c.fKind=3) with
      | true=>
       simp only[Yj,Ym];have:Lib.itoa c.fInt≠[]:=VI _;have:=List.length_pos_iff.2 this;omega
      | false=>
       cases h4:decide (c.fKind=4) with
       | true=>have:=JK c.fStr;simp only[Yj,Ym];omega
       | false=>simp
   omega
  omega
 | node k c kids r=>
  have:=Kl c (kids.txt true);simp only[Fo.txt,Yn];omega
theorem PV {v:List Ab}(hA:Je M v)(hM:M≤1000000){F:Nat}(hF:4*M+8<F):J8 F v=some (IS v):=by
 have hvM:=hA.hv;unfold J8 IS;rw[Kw hA hM (by omega),Bf rfl];unfold HW
 cases hwh:whole v with
 | none=>rfl
 | some f=>
  change B3 (!decide (Gw f=0)) _ _=some (bif decide (Gw f=0) then(f.txt true,0) else([],Gw f))
  cases he:decide (Gw f=0) with
  | false=>rw[AZ (p:=!false) rfl];rfl
  | true=>
   obtain⟨h1,h2,h3⟩:=LF hwh;have hl:v.length=f.flat.length:=by rw[h1]
   have hc:∀c∈f.flat,c.fStr.length≤M∧Ci .i64 c.fInt=true∧c.fN≤9223372036854775807:=λc hc=>hA.hc c (by rw[h1];exact hc);have hb:=NE hM h2 (by omega) hc;have htl:((f.txt true).length:Int)=f.byt:=by rw[I3 f false none true h2,QX h3];simp
   have hA':Je M f.flat:=by rw[← h1];exact hA
   have hw:=R6 (F:=F) (l:=[]) hA' h3 h2 (by omega) (by rw[YU];omega);rw[AH (p:=!true) rfl,h1,hw,Bf rfl,YU,Cl (Yr (Vo h2 h3))];rfl
end
def pre:Ah→Ah→Option Ah
 | [],s=>some s
 | c::w,d::s=>bif decide (c=d) then pre w s else none
 | _::_,[]=>none
def CA (strict:Bool):Ah→Option (Ah×Ah)
 | []=>none
 | c::r=>
  bif decide (c=34) then some ([],r) else
  bif strict&&!IQ c then none else
  bif decide (c=92) then(match r with
   | []=>none
   | d::r'=>bif decide (d=34)||decide (d=92) then(match CA strict r' with
    | none=>none
    | some (t,u)=>some (d::t,u)) else none)
  else(match CA strict r with
   | none=>none
   | some (t,u)=>some (c::t,u))
def BM (c:UInt8):Bool:=decide (48≤c.toNat)&&decide (c.toNat≤57)
def Ct:Ah→Ah×Ah
 | []=>([],[])
 | c::r=>bif BM c then(c::(Ct r).1,(Ct r).2) else([],c::r)
def MQ (d:Ah):Int:=d.foldl (λn c=>10*n+((c.toNat:Int)-48)) 0
def IR (neg:Bool)(d:Ah):Int:=
 bif decide (18<d.length) then(bif neg then -2000000000000 else 2000000000000) else bif neg then -(MQ d) else MQ d
def El (neg:Bool)(d:Ah):Bool:=!decide (d=[])&&!(decide (d.head? =some 48)&&(decide (1<d.length)||neg))
def Hm (s:Ah):Option (Fo×Ah):=
 let neg:=decide (s.head? =some 45)
 let r:=bif neg then s.tail else s
 bif El neg (Ct r).1 then some (.cell none ⟨3,IR neg (Ct r).1,[],0⟩ .nil,(Ct r).2) else none
def lf (k i:Int)(t:Ah):Fo:=.cell none ⟨k,i,t,0⟩ .nil
def nd (m:Bool)(g:Fo):Fo:=bif decide (g.cnt=0) then .cell none ⟨bif m then 6 else 5,0,[],0⟩ .nil else .node none ⟨bif m then 6 else 5,0,[],(g.cnt:Int)⟩ g .nil
def BL (m:Bool):UInt8:=bif m then 125 else 93
def DZ (strict m:Bool)(last:Option Ah)(s:Ah):Option (Option Ah×Ah):=
 bif m then(match s with
  | []=>none
  | c::r=>bif decide (c=34) then(match CA strict r with
   | none=>none
   | some (k,u)=>bif strict&&!B0 true last (some k) then none else(match u with
    | []=>none
    | d::u'=>bif decide (d=58) then some (some k,u') else none)) else none)
 else some (none,s)
mutual
def E7 (strict:Bool):Nat→Ah→Option (Fo×Ah)
 | 0,_=>none
 | F+1,s=>
  match pre [110,117,108,108] s with
  | some r=>some (lf 1 0 [],r)
  | none=>match pre [116,114,117,101] s with
   | some r=>some (lf 2 1 [],r)
   | none=>match pre [102,97,108,115,101] s with
    | some r=>some (lf 2 0 [],r)
    | none=>match s with
     | []=>none
     | c::r=>
      bif decide (c=34) then(match CA strict r with
       | none=>none
       | some (t,u)=>some (lf 4 0 t,u)) else
      bif decide (c=91)||decide (c=123) then(match r with
       | []=>none
       | d::r'=>bif decide (d=BL (decide (c=123))) then some (nd (decide (c=123)) .nil,r') else(match Dg strict F (decide (c=123)) none (d::r') with
        | none=>none
        | some (g,u)=>some (nd (decide (c=123)) g,u))) else
      Hm (c::r)
def Dg (strict:Bool):Nat→Bool→Option Ah→Ah→Option (Fo×Ah)
 | 0,_,_,_=>none
 | F+1,m,last,s=>
  match DZ strict m last s with
  | none=>none
  | some (key,s1)=>match E7 strict F s1 with
   | none=>none
   | some (f,s2)=>match s2 with
    | []=>none
    | c::s3=>
     bif decide (c=BL m) then some (f.put key .nil,s3) else
     bif decide (c=44) then(match Dg strict F m key s3 with
      | none=>none
      | some (g,u)=>some (f.put key g,u)) else none
end
theorem Df (strict:Bool)(F:Nat)(s:Ah):E7 strict (F+1) s =
  match pre [110,117,108,108] s with
  | some r=>some (lf 1 0 [],r)
  | none=>match pre [116,114,117,101] s with
   | some r=>some (lf 2 1 [],r)
   | none=>match pre [102,97,108,115,101] s with
    | some r=>some (lf 2 0 [],r)
    | none=>match s with
     | []=>none
     | c::r=>
      bif decide (c=34) then(match CA strict r with
       | none=>none
       | some (t,u)=>some (lf 4 0 t,u)) else
      bif decide (c=91)||decide (c=123) then(match r with
       | []=>none
       | d::r'=>bif decide (d=BL (decide (c=123))) then some (nd (decide (c=123)) .nil,r') else(match Dg strict F (decide (c=123)) none (d::r') with
        | none=>none
        | some (g,u)=>some (nd (decide (c=123)) g,u))) else
      Hm (c::r):=by
 rw[E7.eq_def]
theorem CT (strict:Bool)(F:Nat)(m:Bool)(last:Option Ah)(s:Ah):Dg strict (F+1) m last s =
  match DZ strict m last s with
  | none=>none
  | some (key,s1)=>match E7 strict F s1 with
   | none=>none
   | some (f,s2)=>match s2 with
    | []=>none
    | c::s3=>
     bif decide (c=BL m) then some (f.put key .nil,s3) else
     bif decide (c=44) then(match Dg strict F m key s3 with
      | none=>none
      | some (g,u)=>some (f.put key g,u)) else none:=by
 rw[Dg.eq_def]
theorem Dc:∀{w s r:Ah},pre w s=some r→s=w++r
 | [],s,r,h=>by cases h;rfl
 | c::w,[],r,h=>by cases h
 | c::w,d::s,r,h=>by
  rw[pre] at h
  cases hc:decide (c=d) with
  | false=>rw[hc] at h;cases h
  | true=>
   rw[hc] at h;simp only[Yg] at hc;rw[hc,Dc h];rfl
theorem Dl (b:Bool)(c:UInt8)(r:Ah):CA b (c::r) =
  bif decide (c=34) then some ([],r) else
  bif b&&!IQ c then none else
  bif decide (c=92) then(match r with
   | []=>none
   | d::r'=>bif decide (d=34)||decide (d=92) then(match CA b r' with
    | none=>none
    | some (t,u)=>some (d::t,u)) else none)
  else(match CA b r with
   | none=>none
   | some (t,u)=>some (c::t,u)):=by
 rw[CA.eq_def]
 cases r<;>rfl
theorem Id (b:Bool):∀(n:Nat) (s t u:Ah),s.length=n→CA b s=some (t,u)→u.length<s.length:=by
 intro n
 induction n using Nat.strongRecOn with
 | ind n ih=>
  intro s t u hn h
  cases s with
  | nil=>cases h
  | cons c r=>
   simp only[Yk] at hn ⊢;rw[Dl] at h
   cases h1:decide (c=34) with
   | true=>rw[h1] at h;cases h;omega
   | false=>
    rw[h1] at h;simp only[Yj] at h
    cases h2:(b&&!IQ c) with
    | true=>rw[h2] at h;cases h
    | false=>
     rw[h2] at h;simp only[Yj] at h
     cases h3:decide (c=92) with
     | true=>
      rw[h3] at h
      cases r with
      | nil=>cases h
      | cons d r'=>
       simp only[Ym] at h
       cases h4:(decide (d=34)||decide (d=92)) with
       | false=>rw[h4] at h;cases h
       | true=>
        rw[h4] at h;simp only[Ym] at h
        cases h5:CA b r' with
        | none=>rw[h5] at h;cases h
        | some q=>
         obtain⟨t',u'⟩:=q;rw[h5] at h;cases h;simp only[Yk] at hn ⊢;have:=ih r'.length (by omega) r' t' u rfl h5;omega
     | false=>
      rw[h3] at h;simp only[Yj] at h
      cases h5:CA b r with
      | none=>rw[h5] at h;cases h
      | some q=>
       obtain⟨t',u'⟩:=q;rw[h5] at h;cases h;have:=ih r.length (by omega) r t' u rfl h5;omega
theorem LA:∀s:Ah,s=(Ct s).1++(Ct s).2
 | []=>rfl
 | c::r=>by
  have:=LA r;rw[Ct]
  cases BM c with
  | true=>simp only[Ym,YS];rw[← this]
  | false=>rfl
theorem Mu {s u:Ah}{f:Fo}(h:Hm s=some (f,u)):u.length<s.length:=by
 unfold Hm at h;simp only at h
 cases hc:El (decide (s.head? =some 45)) (Ct (bif decide (s.head? =some 45) then s.tail else s)).1 with
 | false=>rw[hc] at h;cases h
 | true=>
  rw[hc] at h;simp only[Ym,Option.some.injEq,Prod.mk.injEq] at h;obtain⟨_,h⟩:=h;have e:=congrArg List.length (LA (bif decide (s.head? =some 45) then s.tail else s));rw[Yn,h] at e;have h1:0<(Ct (bif decide (s.head? =some 45) then s.tail else s)).1.length:=by
   unfold El at hc;simp only[Yl,Yy,Yf] at hc;exact List.length_pos_iff.2 hc.1
  have h2:(bif decide (s.head? =some 45) then s.tail else s).length≤s.length:=by
   cases decide (s.head? =some 45)<;>simp
  omega
theorem Px {b m:Bool}{last key:Option Ah}{s u:Ah}(h:DZ b m last s=some (key,u)):u.length≤s.length:=by
 unfold DZ at h
 cases m with
 | false=>cases h;exact Y2 _
 | true=>
  simp only[Ym] at h
  cases s with
  | nil=>cases h
  | cons c r=>
   simp only at h
   cases h1:decide (c=34) with
   | false=>rw[h1] at h;cases h
   | true=>
    rw[h1] at h;simp only[Ym] at h
    cases h2:CA b r with
    | none=>rw[h2] at h;cases h
    | some q=>
     obtain⟨k,w⟩:=q;have:=Id b _ r k w rfl h2;rw[h2] at h;simp only at h
     cases h3:(b&&!B0 true last (some k)) with
     | true=>rw[h3] at h;cases h
     | false=>
      rw[h3] at h;simp only[Yj] at h
      cases w with
      | nil=>cases h
      | cons d w'=>
       simp only at h
       cases h4:decide (d=58) with
       | false=>rw[h4] at h;cases h
       | true=>rw[h4] at h;cases h;simp only[Yk] at this ⊢;omega
theorem TD (m:Bool)(g:Fo):(nd m g).one=true:=by
 unfold nd
 cases decide (g.cnt=0)<;>rfl
theorem Uf {s u:Ah}{f:Fo}(h:Hm s=some (f,u)):f.one=true:=by
 unfold Hm at h;simp only at h
 cases hc:El (decide (s.head? =some 45)) (Ct (bif decide (s.head? =some 45) then s.tail else s)).1 with
 | false=>rw[hc] at h;cases h
 | true=>rw[hc] at h;cases h;rfl
theorem DT (b:Bool):∀F:Nat,(∀s f u,E7 b F s=some (f,u)→u.length<s.length∧f.one=true)∧(∀m last s g u,Dg b F m last s=some (g,u)→u.length<s.length∧1≤g.cnt)
 | 0=>⟨(λs f u h=>by rw[E7.eq_def] at h;cases h),(λm last s g u h=>by rw[Dg.eq_def] at h;cases h)⟩
 | F+1=>by
  obtain⟨ih1,ih2⟩:=DT b F;constructor
  ·intro s f u h;rw[Df] at h
   cases h1:pre [110,117,108,108] s with
   | some r=>rw[h1] at h;cases h;rw[Dc h1];exact⟨by simp;omega,rfl⟩
   | none=>
   rw[h1] at h;simp only at h
   cases h2:pre [116,114,117,101] s with
   | some r=>rw[h2] at h;cases h;rw[Dc h2];exact⟨by simp;omega,rfl⟩
   | none=>
   rw[h2] at h;simp only at h
   cases h3:pre [102,97,108,115,101] s with
   | some r=>rw[h3] at h;cases h;rw[Dc h3];exact⟨by simp;omega,rfl⟩
   | none=>
   rw[h3] at h;simp only at h
   cases s with
   | nil=>cases h
   | cons c r=>
   simp only at h
   cases h4:decide (c=34) with
   | true=>
    rw[h4] at h;simp only[Ym] at h
    cases h5:CA b r with
    | none=>rw[h5] at h;cases h
    | some q=>
     obtain⟨t,w⟩:=q;rw[h5] at h;cases h;have:=Id b _ r t u rfl h5;exact⟨by simp only[Yk];omega,rfl⟩
   | false=>
   rw[h4] at h;simp only[Yj] at h
   cases h5:(decide (c=91)||decide (c=123)) with
   | false=>rw[h5] at h;simp only[Yj] at h;exact⟨Mu h,Uf h⟩
   | true=>
   rw[h5] at h;simp only[Ym] at h
   cases r with
   | nil=>cases h
   | cons d r'=>
   simp only at h
   cases h6:decide (d=BL (decide (c=123))) with
   | true=>rw[h6] at h;cases h;exact⟨by simp only[Yk];omega,TD _ _⟩
   | false=>
   rw[h6] at h;simp only[Yj] at h
   cases h7:Dg b F (decide (c=123)) none (d::r') with
   | none=>rw[h7] at h;cases h
   | some q=>
    obtain⟨g,w⟩:=q;rw[h7] at h;cases h;have:=(ih2 _ _ _ _ _ h7).1;exact⟨by simp only[Yk] at this ⊢;omega,TD _ _⟩
  ·intro m last s g u h;rw[CT] at h
   cases h1:DZ b m last s with
   | none=>rw[h1] at h;cases h
   | some q=>
   obtain⟨key,s1⟩:=q;have l1:=Px h1;rw[h1] at h;simp only at h
   cases h2:E7 b F s1 with
   | none=>rw[h2] at h;cases h
   | some q=>
   obtain⟨f,s2⟩:=q;obtain⟨l2,o2⟩:=ih1 _ _ _ h2;rw[h2] at h;simp only at h
   cases s2 with
   | nil=>cases h
   | cons c s3=>
   simp only[Yk] at l2;have hput:∀r:Fo,1≤(f.put key r).cnt:=λr=>by
    cases f with
    | nil=>cases o2
    | cell _ _ _=>simp[Fo.put,Fo.cnt]
    | node _ _ _ _=>simp[Fo.put,Fo.cnt]
   simp only at h
   cases h3:decide (c=BL m) with
   | true=>rw[h3] at h;cases h;exact⟨by omega,hput _⟩
   | false=>
   rw[h3] at h;simp only[Yj] at h
   cases h4:decide (c=44) with
   | false=>rw[h4] at h;cases h
   | true=>
   rw[h4] at h;simp only[Ym] at h
   cases h5:Dg b F m key s3 with
   | none=>rw[h5] at h;cases h
   | some q=>
    obtain⟨g',w⟩:=q;rw[h5] at h;cases h;have:=(ih2 _ _ _ _ _ h5).1;exact⟨by omega,hput _⟩
def Cr (acc:Nat)(d:Ah):Nat:=d.foldl (λn c=>10*n+(c.toNat-48)) acc
theorem Hl:∀(d:Ah) (a:Nat),a≤Cr a d
 | [],a=>Y2 _
 | c::d,a=>by
  have:=Hl d (10*a+(c.toNat-48));show a≤Cr (10*a+(c.toNat-48)) d;omega
theorem Pn:∀(d:Ah) (a:Nat),1≤a→10 ^ d.length≤Cr a d
 | [],a,h=>by simpa[Cr] using h
 | c::d,a,h=>by
  have hm:∀(d:Ah) (a b:Nat),a≤b→Cr a d≤Cr b d:=by
   intro d
   induction d with
   | nil=>intro a b h;exact h
   | cons c d ih=>intro a b h;show Cr (10*a+(c.toNat-48)) d≤Cr (10*b+(c.toNat-48)) d;exact ih _ _ (by omega)
  have hs:∀(d:Ah) (a:Nat),10 ^ d.length*a≤Cr a d:=by
   intro d
   induction d with
   | nil=>intro a;simp[Cr]
   | cons c d ih=>
    intro a;have:=ih (10*a+(c.toNat-48));show 10 ^ (d.length+1)*a≤Cr (10*a+(c.toNat-48)) d;refine Nat.le_trans ?_ this;rw[Nat.pow_succ,Nat.mul_assoc];exact Nat.mul_le_mul_left _ (by omega)
  exact Nat.le_trans (Nat.le_mul_of_pos_right _ h) (hs (c::d) a)
theorem Ii:∀(d:Ah) (a:Nat),d.all BM=true→d.foldl (λn c=>10*n+((c.toNat:Int)-48)) (a:Int)=(Cr a d:Int)
 | [],a,_=>rfl
 | c::d,a,h=>by
  simp only[YG,Yl] at h;have hc:48≤c.toNat:=by have:=h.1;simp[BM] at this;omega
  have:=Ii d (10*a+(c.toNat-48)) h.2;show d.foldl _ (10*(a:Int)+((c.toNat:Int)-48))=(Cr (10*a+(c.toNat-48)) d:Int);rw[← this]
  congr 1
  omega
theorem NY:∀(d:Ah) (a:Nat),d.all BM=true→Lib.parseUint10 a d = .ok (Cr a d)∨(Lib.parseUint10 a d = .range∧1000000000000<Cr a d)
 | [],a,_=>.inl rfl
 | c::d,a,h=>by
  simp only[YG,Yl] at h;have hc:48≤c.toNat∧c.toNat≤57:=by have:=h.1;simp[BM] at this;omega
  have hm:=Hl d (10*a+(c.toNat-48));have e:Cr a (c::d)=Cr (10*a+(c.toNat-48)) d:=rfl;rw[e];unfold Lib.parseUint10;rw[Y6 hc]
  split
  ·exact .inr ⟨rfl,by omega⟩
  ·split
   ·exact .inr ⟨rfl,by omega⟩
   ·rw[show a*10+(c.toNat-48)=10*a+(c.toNat-48) from by omega];exact NY d _ h.2
theorem KR:∀(d:Ah) (i:Nat),Bt D5 i d=d.all BM
 | [],_=>rfl
 | c::d,i=>by
  rw[Bt,YG,KR d]
  congr 1
  simp only[D5,BM];rw[Yx];simp only[Yy,Yz,Yf,Yl,Yg];omega
def ET (neg:Bool)(d:Ah):Ah:=bif neg then 45::d else d
theorem Uj {d:Ah}(hd:d.all BM=true) : ¬ d.head? =some 45:=by
 cases d with
 | nil=>simp
 | cons c d=>
  simp only[YG,Yl] at hd;have:=hd.1;intro e;simp only[List.head?_cons,Option.some.injEq] at e;subst e;simp[BM] at this
theorem RF (s:Ah):LS s=decide (s.head? =some 45):=by
 cases s with
 | nil=>rfl
 | cons c r=>
  have:Br (c::r) 0=c.toNat:=EX rfl;unfold LS;rw[this,Yx];simp only[Yl,Yg,List.head?_cons,Option.some.injEq,← YZ,Yk];show _∧(c.toNat:Int)=45↔c.toNat=45;omega
theorem U1 {neg:Bool}{d:Ah}(hd:d.all BM=true):GU (ET neg d)=d:=by
 unfold GU;rw[RF]
 cases neg with
 | true=>rfl
 | false=>
  have:=Uj hd;show(if decide (d.head? =some 45)=true then d.drop 1 else d)=d;rw[Yw (by simpa using this)]
theorem U8 {neg:Bool}{d:Ah}(hd:d.all BM=true):Jt (ET neg d)=El neg d:=by
 unfold Jt El;rw[U1 hd,KR,hd,Y7]
 cases d with
 | nil=>simp
 | cons c r=>
  have hb:Br (c::r) 0=c.toNat:=EX rfl;have h1:decide (c::r=([]:Ah))=false:=by simp
  have h2:decide (Br (c::r) 0=48)=decide ((c::r).head? =some 48):=by
   rw[hb,Yx];simp only[Yg,List.head?_cons,Option.some.injEq,← YZ];show(c.toNat:Int)=48↔c.toNat=48;omega
  rw[h1,h2,Y0,Y9,Yv]
  cases ha:decide ((c::r).head? =some 48) with
  | false=>rfl
  | true=>
   simp only[Yg,List.head?_cons,Option.some.injEq] at ha;subst ha
   cases neg with
   | true=>simp[ET]
   | false=>
    cases r with
    | nil=>simp[ET]
    | cons a r=>simp[ET]
theorem UI {neg:Bool}{d:Ah}(hd:d.all BM=true)(hne:d≠[]):Lib.atoiAll (ET neg d)=(bif neg then Lib.signed (Lib.parseUint10 0 d) else Lib.signless (Lib.parseUint10 0 d)):=by
 cases neg with
 | true=>
  simp only[ET,Ym];rw[Lib.atoiAll_minus,Lib.parseMag,Yw hne]
 | false=>
  cases d with
  | nil=>exact absurd rfl hne
  | cons c r=>
   have hc:=hd;simp only[YG,Yl] at hc;have ha:48≤c.toNat:=by have:=hc.1;simp[BM] at this;omega
   simp only[ET,Yj];rw[Lib.atoiAll_plain c r (by omega) (by omega),Lib.parseMag,Yw hne]
theorem RR {neg:Bool}{d:Ah}(hd:d.all BM=true):(El neg d=false∧BD (ET neg d)=1)∨(El neg d=true∧BY ⟨3,IR neg d,[],0⟩=false∧BD (ET neg d)=0∧Bw (ET neg d)=IR neg d)∨(El neg d=true∧BY ⟨3,IR neg d,[],0⟩=true∧BD (ET neg d)=2∧Bw (ET neg d)=0):=by
 unfold BD Bw;rw[U8 hd]
 cases hc:El neg d with
 | false=>exact .inl ⟨rfl,rfl⟩
 | true=>
  right
  have hc':=hc;unfold El at hc';simp only[Yl,Yy,Yf] at hc';have hne:=hc'.1;rw[Y6 rfl,Y6 rfl,UI hd hne];have hnum:MQ d=(Cr 0 d:Int):=Ii d 0 hd;have hbig:18<d.length→1000000000000<Cr 0 d:=λhl=>by
   cases d with
   | nil=>simp at hl
   | cons c r=>
    have hc1:=hd;simp only[YG,Yl] at hc1;have he:48≤c.toNat:=by have:=hc1.1;simp[BM] at this;omega
    have hne48 : ¬ c=48:=by
     intro e;have:=hc'.2;subst e;simp only[Yk] at hl;have h1r:1<r.length+1:=by omega
     simp[h1r] at this
    have hf:49≤c.toNat:=by
     have : ¬ c.toNat=48:=λe=>hne48 (UInt8.toNat_inj.1 (by rw[e];rfl));omega
    have:=Pn r (10*0+(c.toNat-48)) (by omega);have ha:10 ^ 18≤10 ^ r.length:=Nat.pow_le_pow_right (by decide) (by simp at hl;omega);have e:Cr 0 (c::r)=Cr (10*0+(c.toNat-48)) r:=rfl;rw[e];have:(1000000000000:Nat)<10 ^ 18:=by decide
    omega
  have hout:BY ⟨3,IR neg d,[],0⟩=decide (1000000000000<Cr 0 d):=by
   unfold BY IR;rw[hnum]
   cases ha:decide (18<d.length) with
   | true=>
    simp only[Yg] at ha;rw[Yr (hbig ha)]
    cases neg<;>rfl
   | false=>
    rw[Yx]
    cases neg<;>simp<;>omega
  rw[hout];rcases NY d 0 hd with hu | ⟨hu,hg⟩
  ·rw[hu]
   cases hg:decide (1000000000000<Cr 0 d) with
   | false=>
    simp only[Yf] at hg;have ha:decide (18<d.length)=false:=by
     rw[Yf];intro h;have:=hbig h;omega
    refine .inl ⟨rfl,rfl,?_,?_⟩
    ·cases neg with
     | true=>simp only[Ym,Lib.signed];rw[Yw (by omega)];simp only;rw[Y6 (by unfold Ds;simp;omega)]
     | false=>simp only[Yj,Lib.signless];rw[Yw (by omega)];simp only;rw[Y6 (by unfold Ds;simp;omega)]
    ·unfold IR;rw[ha,hnum]
     cases neg with
     | true=>simp only[Ym,Yj,Lib.signed];rw[Yw (by omega)];simp only;rw[Y6 (by unfold Ds;simp;omega)]
     | false=>simp only[Yj,Lib.signless];rw[Yw (by omega)];simp only;rw[Y6 (by unfold Ds;simp;omega)]
   | true=>
    simp only[Yg] at hg;refine .inr ⟨rfl,rfl,?_,?_⟩
    ·cases neg with
     | true=>
      simp only[Ym,Lib.signed]
      by_cases hb:9223372036854775808<Cr 0 d
      ·rw[Y6 hb]
      ·rw[Yw hb];simp only;rw[Yw (by unfold Ds;simp;omega)]
     | false=>
      simp only[Yj,Lib.signless]
      by_cases hb:9223372036854775808≤Cr 0 d
      ·rw[Y6 hb]
      ·rw[Yw hb];simp only;rw[Yw (by unfold Ds;simp;omega)]
    ·cases neg with
     | true=>
      simp only[Ym,Lib.signed]
      by_cases hb:9223372036854775808<Cr 0 d
      ·rw[Y6 hb]
      ·rw[Yw hb];simp only;rw[Yw (by unfold Ds;simp;omega)]
     | false=>
      simp only[Yj,Lib.signless]
      by_cases hb:9223372036854775808≤Cr 0 d
      ·rw[Y6 hb]
      ·rw[Yw hb];simp only;rw[Yw (by unfold Ds;simp;omega)]
  ·rw[hu,Yr hg];refine .inr ⟨rfl,rfl,?_,?_⟩<;>cases neg<;>rfl
def G5 (u S:Ah):Prop:=∃p,S=p++u
theorem G5.len {u S:Ah}(h:G5 u S):u.length≤S.length:=by obtain⟨p,rfl⟩:=h;simp
theorem G5.tail {c:UInt8}{r S:Ah}(h:G5 (c::r) S):G5 r S:=by obtain⟨p,rfl⟩:=h;exact⟨p++[c],by simp⟩
theorem G5.app {w r S:Ah}(h:G5 (w++r) S):G5 r S:=by obtain⟨p,rfl⟩:=h;exact⟨p++w,by simp⟩
theorem G5.drop {u S:Ah}(h:G5 u S):S.drop (Int.toNat ((S.length:Int)-u.length))=u:=by
 obtain⟨p,rfl⟩:=h;rw[show Int.toNat (((p++u).length:Int)-u.length)=p.length from by rw[Yn];omega,List.drop_left]
theorem G5.get {c:UInt8}{r S:Ah}(h:G5 (c::r) S):S[(Int.toNat ((S.length:Int)-(c::r).length))]? =some c:=by
 have:=h.drop;have h2:(S.drop (Int.toNat ((S.length:Int)-(c::r).length)))[0]? =some c:=by rw[this];rfl
 simpa using h2
def CV (S u:Ah)(cs:List Ab)(g:Bool):Ao:=⟨S,(S.length:Int)-u.length,cs,g⟩
theorem JM:∀(w r:Ah),pre w (w++r)=some r
 | [],r=>rfl
 | c::w,r=>by
  show(bif decide (c=c) then pre w (w++r) else none)=some r;rw[Yr rfl];exact JM w r
theorem Qf (w s:Ah):(decide ((w.length:Int)≤(s.length:Int))&&decide (List.take (Int.toNat (w.length:Int)) s=w))=(pre w s).isSome:=by
 cases h:pre w s with
 | some r=>
  have:=Dc h;subst this;simp;omega
 | none=>
  rw[Yx];simp only[Yl,Yg,Option.isSome_none,YO,iff_false,not_and];intro hl e;have:s=w++s.drop w.length:=by
   conv=>lhs;rw[← Za w.length s]
   rw[show Int.toNat (w.length:Int)=w.length from by omega] at e;rw[e]
  rw[this,JM] at h
  cases h
theorem Kf (s w:Ah):Ge s w=some (pre w s).isSome:=by
 unfold Ge G6;rw[← Qf];have:imp (decide ((w.length:Int)≤(s.length:Int))) (Jb (w.length:Int) (s.length:Int))=true:=by
  cases hd:decide ((w.length:Int)≤(s.length:Int)) with
  | false=>rfl
  | true=>simp only[imp];rw[Xw (by omega) (by simpa using hd)];rfl
 rw[Cl this];rfl
theorem C8 {S u w:Ah}{cs:List Ab}{g:Bool}(hS:S.length≤100000)(h:G5 u S):Dt (CV S u cs g) w=match pre w u with
  | some r=>some (true,CV S r cs g)
  | none=>some (false,CV S u cs g):=by
 have hl:=h.len;unfold Dt CV;simp only;rw[CQ (by omega) (by omega),h.drop,Kf,Bf rfl]
 cases hp:pre w u with
 | none=>rfl
 | some r=>
  have e:=Dc hp;have el:u.length=w.length+r.length:=by rw[e];simp
  rw[AH (p:=!(some r).isSome) rfl,Bp (by omega) (by omega),show(S.length:Int)-u.length+w.length=S.length-r.length from by omega]
theorem JN (c:UInt8)(u:Ah):pre [c] u=match u with
  | []=>none
  | d::r=>bif decide (d=c) then some r else none:=by
 cases u with
 | nil=>rfl
 | cons d r=>
  show(bif decide (c=d) then some r else none)=_;have:decide (c=d)=decide (d=c):=by rw[Yx];simp only[Yg];exact eq_comm
  rw[this]
theorem T8 (A:Ah):PI (CO A)=A:=by
 induction A with
 | nil=>rfl
 | cons c A ih=>
  show UInt8.ofNat (Int.toNat (c.toNat:Int))::PI (CO A)=c::A;rw[ih,← (show UInt8.ofNat c.toNat=c from by simp)];simp
theorem Vr:∀(n:Nat) (s t u:Ah),s.length=n→CA true s=some (t,u)→t.all IQ=true:=by
 intro n
 induction n using Nat.strongRecOn with
 | ind n ih=>
  intro s t u hn h
  cases s with
  | nil=>cases h
  | cons c r=>
   simp only[Yk] at hn;rw[Dl] at h
   cases h1:decide (c=34) with
   | true=>rw[h1] at h;cases h;rfl
   | false=>
    rw[h1] at h;simp only[Yj,Yv] at h
    cases h2:IQ c with
    | false=>rw[h2] at h;cases h
    | true=>
     rw[h2] at h;simp only[Ys,Yj] at h
     cases h3:decide (c=92) with
     | true=>
      rw[h3] at h
      cases r with
      | nil=>cases h
      | cons d r'=>
       simp only[Ym] at h
       cases h4:(decide (d=34)||decide (d=92)) with
       | false=>rw[h4] at h;cases h
       | true=>
        rw[h4] at h;simp only[Ym] at h
        cases h5:CA true r' with
        | none=>rw[h5] at h;cases h
        | some q=>
         obtain⟨t',u'⟩:=q;rw[h5] at h;cases h;simp only[Yk] at hn;have:=ih r'.length (by omega) r' t' u rfl h5;have hd:IQ d=true:=by
          simp only[YN,Yg] at h4;rcases h4 with e | e<;>subst e<;>rfl
         simp[hd,this]
     | false=>
      rw[h3] at h;simp only[Yj] at h
      cases h5:CA true r with
      | none=>rw[h5] at h;cases h
      | some q=>
       obtain⟨t',u'⟩:=q;rw[h5] at h;cases h;have:=ih r.length (by omega) r t' u rfl h5;simp[h2,this]
theorem Vy {c:UInt8}:(decide ((c.toNat:Int)<32)||decide (126<(c.toNat:Int))) = !IQ c:=by
 unfold IQ;rw[Yx];simp only[YN,Yg,Yy,Zb,Yf];omega
theorem Ws (c:UInt8):decide ((c.toNat:Int)=34)=decide (c=34):=by
 rw[Yx,decide_eq_true_iff,decide_eq_true_iff,← YZ];show _↔c.toNat=34;omega
theorem Wr (c:UInt8):decide ((c.toNat:Int)=92)=decide (c=92):=by
 rw[Yx,decide_eq_true_iff,decide_eq_true_iff,← YZ];show _↔c.toNat=92;omega
theorem Th (A:Ah)(c:UInt8):CO A++([(c.toNat:Int)]:List Int)=CO (A++[c]):=by simp[CO]
theorem R8 {S:Ah}{cs:List Ab}{g b:Bool}{p:Int}(hS:S.length≤100000):∀(n L:Nat) (u A:Ah),u.length=n→G5 u S→n<L→A.length≤S.length-n→
  ∃o,Ch (λσ=>DK (b,⟨S,p,cs,g⟩) σ.1 σ.2) L (CO A,(S.length:Int)-u.length)=some o∧((∃t w,CA true u=some (t,w)∧G5 w S∧Cg (λν=>Hd (b,⟨S,p,cs,g⟩) ν) o=some (A++t,true,CV S w cs g))∨(CA true u=none∧∃q',Cg (λν=>Hd (b,⟨S,p,cs,g⟩) ν) o=some ([],false,q'))):=by
 intro n
 induction n using Nat.strongRecOn with
 | ind n ih=>
  intro L u A hn hs hL hA;obtain⟨L,rfl⟩:∃K,L=K+1:=⟨L-1,by omega⟩
  have hsl:=hs.len
  cases u with
  | nil=>
   have hgo:DK (b,⟨S,p,cs,g⟩) (CO A) ((S.length:Int)-([]:Ah).length)=some (.out (.go ((S.length:Int)-([]:Ah).length))):=by
    unfold DK;rw[AH (Yo (by simp))]
   exact⟨_,Ei hgo,.inr ⟨rfl,_,rfl⟩⟩
  | cons c r=>
   have hb:Br S ((S.length:Int)-(c::r).length)=c.toNat:=EX hs.get;have hpos:(S.length:Int)-(c::r).length+1=S.length-r.length:=by rw[Yk];omega
   simp only[Yk] at hn hsl;have hlt:(S.length:Int)-(c::r).length<S.length:=by rw[Yk];omega
   have h0:0≤(S.length:Int)-(c::r).length:=by rw[Yk];omega
   have hb1:DK (b,⟨S,p,cs,g⟩) (CO A) ((S.length:Int)-(c::r).length)=B3 (decide (c=34)) (some (.out (.ret (A,true,CV S r cs g)))) (B3 (!IQ c) (some (.out (.ret ([],false,CV S r cs g)))) (B3 (decide (c=92)) (Bj (imp (!(decide ((S.length:Int)≤S.length-r.length))) (C2 (S.length-r.length) (S.length:Int)))<|B3 (((decide ((S.length:Int)≤S.length-r.length))||((!decide ((Br S (S.length-r.length))=34))&&(!decide ((Br S (S.length-r.length))=92))))) (some (.out (.ret ([],false,CV S r cs g)))) (Bj (C2 (S.length-r.length) (S.length:Int))<|Bj (Ci .i64 (((S.length:Int)-r.length)+1))<|Ep (CO A) (Br S (S.length-r.length)) (((S.length:Int)-r.length)+1))) (Ep (CO A) (c.toNat:Int) ((S.length:Int)-r.length)))):=by
    unfold DK;simp only;rw[AZ (Yr hlt),B9 h0 hlt,hb,hpos,Bp (by omega) (by omega),Ws,Wr,Vy,T8];rfl
   have hj:∀(x:UInt8) (y:Int),Ep (CO A) (x.toNat:Int) y=some (.next (CO (A++[x]),y)):=λx y=>by
    unfold Ep;rw[CI (by simp[CO];omega),Th]
   rw[Dl]
   cases h1:decide (c=34) with
   | true=>
    rw[h1] at hb1;exact⟨.ret (A,true,CV S r cs g),Ei hb1,.inl ⟨[],r,rfl,hs.tail,by rw[Pc,YV]⟩⟩
   | false=>
    rw[h1,AH rfl] at hb1;simp only[Yj,Yv]
    cases h2:IQ c with
    | false=>
     rw[h2,AZ (p:=!false) rfl] at hb1;exact⟨_,Ei hb1,.inr ⟨rfl,_,rfl⟩⟩
    | true=>
     rw[h2,AH (p:=!true) rfl] at hb1;simp only[Ys,Yj]
     cases h3:decide (c=92) with
     | true=>
      rw[h3,AZ rfl] at hb1
      cases r with
      | nil=>
       have e:decide ((S.length:Int)≤S.length-([]:Ah).length)=true:=by simp
       rw[e,Cl (p:=imp (!true) _) rfl,AZ (p:=true||_) rfl] at hb1;exact⟨_,Ei hb1,.inr ⟨rfl,_,rfl⟩⟩
      | cons d r'=>
       simp only[Yk] at hn hsl;have hbd:Br S ((S.length:Int)-(d::r').length)=d.toNat:=EX hs.tail.get;have hlt2:(S.length:Int)-(d::r').length<S.length:=by rw[Yk];omega
       have ha:0≤(S.length:Int)-(d::r').length:=by rw[Yk];omega
       have hpos2:(S.length:Int)-(d::r').length+1=S.length-r'.length:=by rw[Yk];omega
       have e:decide ((S.length:Int)≤S.length-(d::r').length)=false:=Yo (by omega);rw[e,Q1 ha hlt2,hbd,hpos2,Ws,Wr,Cl (p:=imp (!false) true) rfl] at hb1;simp only[Ym]
       cases h4:(decide (d=34)||decide (d=92)) with
       | false=>
        have e4:(false||(!decide (d=34)&&!decide (d=92)))=true:=by rw[← Bool.not_or,h4];rfl
        rw[AZ e4] at hb1;exact⟨_,Ei hb1,.inr ⟨rfl,_,rfl⟩⟩
       | true=>
        have e4:(false||(!decide (d=34)&&!decide (d=92)))=false:=by rw[← Bool.not_or,h4];rfl
        rw[AH e4,Cl rfl,Bp (by omega) (by omega),hj] at hb1;obtain⟨o,ho1,ho2⟩:=ih r'.length (by omega) L r' (A++[d]) rfl hs.tail.tail (by omega) (by rw[Hu];omega);refine⟨o,JZ hb1 ho1,?_⟩;simp only[Ym];rcases ho2 with⟨t,w,q1,q2,q3⟩ | ⟨q1,q2⟩
        ·rw[q1];exact .inl ⟨d::t,w,rfl,q2,by rw[q3];simp⟩
        ·rw[q1];exact .inr ⟨rfl,q2⟩
     | false=>
      rw[h3,AH rfl,hj] at hb1;obtain⟨o,ho1,ho2⟩:=ih r.length (by omega) L r (A++[c]) rfl hs.tail (by omega) (by rw[Hu];omega);refine⟨o,JZ hb1 ho1,?_⟩;simp only[Yj];rcases ho2 with⟨t,w,q1,q2,q3⟩ | ⟨q1,q2⟩
      ·rw[q1];exact .inl ⟨c::t,w,rfl,q2,by rw[q3];simp⟩
      ·rw[q1];exact .inr ⟨rfl,q2⟩
theorem OH {F:Nat}{S u:Ah}{cs:List Ab}{g:Bool}(hS:S.length≤100000)(h:G5 u S)(hF:S.length<F) :
  (∃r t w,u=34::r∧CA true r=some (t,w)∧G5 w S∧LJ F (CV S u cs g)=some (t,true,CV S w cs g))∨((∀r,u=34::r→CA true r=none)∧∃q',LJ F (CV S u cs g)=some ([],false,q')):=by
 unfold LJ;rw[C8 hS h,JN]
 cases u with
 | nil=>exact .inr ⟨(λr e=>by cases e),_,rfl⟩
 | cons c r=>
  simp only
  cases hc:decide (c=34) with
  | false=>
   simp only[Yf] at hc;exact .inr ⟨(λr' e=>by cases e;exact absurd rfl hc),_,rfl⟩
  | true=>
   simp only[Yg] at hc;subst hc;have hl:=h.len;simp only[Yk] at hl;simp only[Ym];rw[Bf rfl,AH (p:=!true) rfl];obtain⟨o,ho1,ho2⟩:=R8 (b:=true) (cs:=cs) (g:=g) (p:=(S.length:Int)-r.length) hS r.length F r [] rfl h.tail (by omega) (YE _);have ho1':Ch (λσ=>DK (true,CV S r cs g) σ.1 σ.2) F ([],(S.length:Int)-r.length)=some o:=ho1;rw[show(true,CV S r cs g).2.fAt=(S.length:Int)-r.length from rfl,Bf ho1'];rcases ho2 with⟨t,w,q1,q2,q3⟩ | ⟨q1,q',q2⟩
   ·exact .inl ⟨r,t,w,rfl,q1,q2,q3⟩
   ·exact .inr ⟨(λr' e=>by cases e;exact q1),q',q2⟩
def C5 (c:Ab):Ab:=bif BY c then⟨3,0,[],0⟩ else c
theorem Kk:∀s:Ah,(Ct s).1.all BM=true
 | []=>rfl
 | c::r=>by
  rw[Ct]
  cases h:BM c with
  | true=>simp only[Ym,YG,h,Kk r];rfl
  | false=>rfl
theorem VU {c:UInt8}:(decide (48≤(c.toNat:Int))&&decide ((c.toNat:Int)≤57))=BM c:=by
 unfold BM;rw[Yx];simp only[Yl,Yg];omega
theorem MY {S:Ah}{cs:List Ab}{g b:Bool}{p:Int}(hS:S.length≤100000):∀(u:Ah) (L:Nat),G5 u S→u.length<L→
  Ch (λσ=>DL (b,⟨S,p,cs,g⟩) σ) L ((S.length:Int)-u.length)=some (.go ((S.length:Int)-(Ct u).2.length))
 | [],L,hs,hL=>by
  obtain⟨L,rfl⟩:∃K,L=K+1:=⟨L-1,by omega⟩
  refine Ei ?_;show DL _ _=_;unfold DL;have e:decide ((S.length:Int)-([]:Ah).length<(S.length:Int))=false:=by simp
  simp only;rw[e,Cl (p:=imp false _) rfl,AH (p:=false&&_) rfl];rfl
 | c::r,L,hs,hL=>by
  obtain⟨L,rfl⟩:∃K,L=K+1:=⟨L-1,by omega⟩
  have hsl:=hs.len;have hb:Br S ((S.length:Int)-(c::r).length)=c.toNat:=EX hs.get;have hpos:(S.length:Int)-(c::r).length+1=S.length-r.length:=by rw[Yk];omega
  simp only[Yk] at hsl hL;have hlt:(S.length:Int)-(c::r).length<S.length:=by rw[Yk];omega
  have h0:0≤(S.length:Int)-(c::r).length:=by rw[Yk];omega
  have hb1:DL (b,⟨S,p,cs,g⟩) ((S.length:Int)-(c::r).length)=B3 (BM c) (some (.next ((S.length:Int)-r.length))) (some (.out (.go ((S.length:Int)-(c::r).length)))):=by
   unfold DL;simp only;rw[Yr hlt,Q1 h0 hlt,Cl (p:=imp true true) rfl,hb,VU,hpos,Bp (by omega) (by omega),Yv]
  rw[Ct]
  cases hd:BM c with
  | true=>
   rw[hd] at hb1;exact JZ hb1 (MY hS r L hs.tail (by omega))
  | false=>
   rw[hd] at hb1;exact Ei hb1
theorem OJ {F:Nat}{S u:Ah}{cs:List Ab}{g:Bool}(hS:S.length≤100000)(h:G5 u S)(hF:S.length<F)(hcs:cs.length≤100000) :
  (∃f w,Hm u=some (f,w)∧G5 w S∧LK F (CV S u cs g)=some (true,CV S w (cs++f.flat.map C5) (g||f.flat.any BY)))∨(Hm u=none∧∃q',LK F (CV S u cs g)=some (false,q')):=by
 have hl:=h.len;have hneg:∃neg r b,neg=decide (u.head? =some 45)∧r=(bif neg then u.tail else u)∧Dt (CV S u cs g) [45]=some (b,CV S r cs g)∧u=(bif neg then 45::r else r):=by
  rw[C8 hS h,JN]
  cases u with
  | nil=>exact⟨false,[],false,rfl,rfl,rfl,rfl⟩
  | cons c r=>
   simp only[List.head?_cons,Option.some.injEq]
   cases hc:decide (c=45) with
   | true=>simp only[Yg] at hc;subst hc;exact⟨true,r,true,rfl,rfl,rfl,rfl⟩
   | false=>exact⟨false,c::r,false,rfl,rfl,rfl,rfl⟩
 obtain⟨neg,r,b,e1,e2,e3,e4⟩:=hneg;have hr:G5 r S:=by
  rw[e4] at h
  cases neg with
  | true=>exact h.tail
  | false=>exact h
 have hrl:=hr.len;have hd:=Kk r;have hsplit:=LA r;have hlen:r.length=(Ct r).1.length+(Ct r).2.length:=by conv=>lhs;rw[hsplit,Yn]
 have hw:G5 (Ct r).2 S:=by rw[hsplit] at hr;exact hr.app
 have hut:u=ET neg (Ct r).1++(Ct r).2:=by
  rw[e4]
  cases neg with
  | true=>show 45::r=45::((Ct r).1++(Ct r).2);rw[← hsplit]
  | false=>exact hsplit
 have hul:u.length=(ET neg (Ct r).1).length+(Ct r).2.length:=by conv=>lhs;rw[hut,Yn]
 have hslice:List.take (Int.toNat ((S.length:Int)-(Ct r).2.length)-Int.toNat ((S.length:Int)-u.length)) (List.drop (Int.toNat ((S.length:Int)-u.length)) S)=ET neg (Ct r).1:=by
  rw[h.drop,show Int.toNat ((S.length:Int)-(Ct r).2.length)-Int.toNat ((S.length:Int)-u.length)=(ET neg (Ct r).1).length from by omega]
  conv=>lhs;rw[hut]
  rw[List.take_left]
 have hlop:Ch (λσ=>DL (b,CV S r cs g) σ) F ((S.length:Int)-r.length)=some (.go ((S.length:Int)-(Ct r).2.length)):=MY hS r F hr (by omega);have hrun:LK F (CV S u cs g)=B3 (((decide ((BD (ET neg (Ct r).1))=1))||(decide ((S.length:Int)-r.length=(S.length:Int)-(Ct r).2.length)))) (some (false,CV S (Ct r).2 cs g)) (some (true,CV S (Ct r).2 (cs++[⟨3,Bw (ET neg (Ct r).1),[],0⟩]) (g||!decide (BD (ET neg (Ct r).1)=0)))):=by
  unfold LK;rw[e3,Bf rfl,show(b,CV S r cs g).2.fAt=(S.length:Int)-r.length from rfl,Bf hlop,H9];unfold Ia;rw[show(CV S u cs g).fAt=(S.length:Int)-u.length from rfl,show(b,CV S r cs g).2.fS=S from rfl,show(b,CV S r cs g).2.fAt=(S.length:Int)-r.length from rfl,CQ (by omega) (by omega),CQ (by omega) (by omega),hslice,CI (by omega),Cl (p:=DI 40 _) (Yr (by
   show(cs.length+1)*40≤140737488355328;omega))]
  rfl
 rw[hrun];unfold Hm;simp only;rw[← e1,← e2];rcases RR (neg:=neg) hd with⟨p1,p2⟩ | ⟨p1,p2,p3,p4⟩ | ⟨p1,p2,p3,p4⟩
 ·rw[p1,p2];exact .inr ⟨rfl,_,rfl⟩
 ·have hne:(Ct r).1≠[]:=by
   intro e;rw[e] at p1
   cases neg<;>cases p1
  have hpos:0<(Ct r).1.length:=List.length_pos_iff.2 hne;rw[p1,p3,p4,Yo (show ¬ (S.length:Int)-r.length=(S.length:Int)-(Ct r).2.length by omega)];refine .inl ⟨_,_,rfl,hw,?_⟩;simp[Fo.flat,BB,C5,p2,B3]
 ·have hne:(Ct r).1≠[]:=by
   intro e;rw[e] at p1
   cases neg<;>cases p1
  have hpos:0<(Ct r).1.length:=List.length_pos_iff.2 hne;rw[p1,p3,p4,Yo (show ¬ (S.length:Int)-r.length=(S.length:Int)-(Ct r).2.length by omega)];refine .inl ⟨_,_,rfl,hw,?_⟩;simp[Fo.flat,BB,C5,p2,B3]
def Tn (strict:Bool)(s:Ah):Option (Fo×Ah):=
 match pre [110,117,108,108] s with
 | some r=>some (lf 1 0 [],r)
 | none=>match pre [116,114,117,101] s with
  | some r=>some (lf 2 1 [],r)
  | none=>match pre [102,97,108,115,101] s with
   | some r=>some (lf 2 0 [],r)
   | none=>match s with
    | []=>none
    | c::r=>bif decide (c=34) then(match CA strict r with
     | none=>none
     | some (t,u)=>some (lf 4 0 t,u)) else Hm (c::r)
theorem T1 (b:Bool)(F:Nat){s:Ah}(h:∀c r,s=c::r→(decide (c=91)||decide (c=123))=false):E7 b (F+1) s=Tn b s:=by
 rw[Df];unfold Tn
 cases pre [110,117,108,108] s with
 | some r=>rfl
 | none=>
 cases pre [116,114,117,101] s with
 | some r=>rfl
 | none=>
 cases pre [102,97,108,115,101] s with
 | some r=>rfl
 | none=>
 cases s with
 | nil=>rfl
 | cons c r=>
  simp only;rw[h c r rfl];rfl
theorem OI {F:Nat}{S u:Ah}{cs:List Ab}{g:Bool}(hS:S.length≤100000)(h:G5 u S)(hF:S.length<F)(hcs:cs.length≤100000) :
  (∃f w,Tn true u=some (f,w)∧G5 w S∧He F (CV S u cs g)=some (true,CV S w (cs++f.flat.map C5) (g||f.flat.any BY)))∨(Tn true u=none∧∃q',He F (CV S u cs g)=some (false,q')):=by
 have hA:∀c:Ab,DI 40 (cs.length+([c]:List Ab).length)=true:=λc=>Yr (by show(cs.length+1)*40≤140737488355328;omega);unfold He Tn;rw[C8 hS h]
 cases h1:pre [110,117,108,108] u with
 | some r=>
  have hr:G5 r S:=by rw[Dc h1] at h;exact h.app
  refine .inl ⟨_,r,rfl,hr,?_⟩;simp only;rw[Bf rfl,AZ rfl];show Bj (DI 40 (cs.length+([⟨1,0,[],0⟩]:List Ab).length)) (some (true,CV S r (cs++[⟨1,0,[],0⟩]) g))=_;rw[Cl (hA _)];simp[lf,Fo.flat,BB,C5,BY]
 | none=>
 simp only;rw[Bf rfl,AH rfl,show(false,CV S u cs g).2=CV S u cs g from rfl,C8 hS h]
 cases h2:pre [116,114,117,101] u with
 | some r=>
  have hr:G5 r S:=by rw[Dc h2] at h;exact h.app
  refine .inl ⟨_,r,rfl,hr,?_⟩;simp only;rw[Bf rfl,AZ rfl];show Bj (DI 40 (cs.length+([⟨2,1,[],0⟩]:List Ab).length)) (some (true,CV S r (cs++[⟨2,1,[],0⟩]) g))=_;rw[Cl (hA _)];simp[lf,Fo.flat,BB,C5,BY]
 | none=>
 simp only;rw[Bf rfl,AH rfl,show(false,CV S u cs g).2=CV S u cs g from rfl,C8 hS h]
 cases h3:pre [102,97,108,115,101] u with
 | some r=>
  have hr:G5 r S:=by rw[Dc h3] at h;exact h.app
  refine .inl ⟨_,r,rfl,hr,?_⟩;simp only;rw[Bf rfl,AZ rfl];show Bj (DI 40 (cs.length+([⟨2,0,[],0⟩]:List Ab).length)) (some (true,CV S r (cs++[⟨2,0,[],0⟩]) g))=_;rw[Cl (hA _)];simp[lf,Fo.flat,BB,C5,BY]
 | none=>
 have hl:=h.len;simp only;rw[Bf rfl,AH rfl,show(false,CV S u cs g).2=CV S u cs g from rfl,show(CV S u cs g).fAt=(S.length:Int)-u.length from rfl,show(CV S u cs g).fS=S from rfl,CQ (by omega) (by omega),h.drop,Kf,Bf rfl,JN]
 cases u with
 | nil=>
  simp only;rw[AH (p:=(none:Option Ah).isSome) rfl];rcases OJ (g:=g) hS h hF hcs with⟨f,w,q1,q2,q3⟩ | ⟨q1,q',q2⟩
  ·exact absurd (Mu q1) (by simp)
  ·rw[q2];exact .inr ⟨trivial,_,rfl⟩
 | cons c r=>
  simp only
  cases hc:decide (c=34) with
  | true=>
   simp only[Ym];rw[AZ (p:=(some r).isSome) rfl];simp only[Yg] at hc;subst hc;rcases OH (cs:=cs) (g:=g) hS h hF with⟨r',t,w,q1,q2,q3,q4⟩ | ⟨q1,q',q2⟩
   ·cases q1
    rw[q2,q4,Bf rfl,AH (p:=!true) rfl];refine .inl ⟨_,w,rfl,q3,?_⟩;simp only;show Bj (DI 40 (cs.length+([⟨4,0,t,0⟩]:List Ab).length)) (some (true,CV S w (cs++[⟨4,0,t,0⟩]) g))=_;rw[Cl (hA _)];simp[lf,Fo.flat,BB,C5,BY]
   ·rw[q1 r rfl,q2,Bf rfl];exact .inr ⟨rfl,_,rfl⟩
  | false=>
   simp only[Yj];rw[AH (p:=(none:Option Ah).isSome) rfl];rcases OJ (g:=g) hS h hF hcs with⟨f,w,q1,q2,q3⟩ | ⟨q1,q',q2⟩
   ·rw[q3,Bf rfl];exact .inl ⟨f,w,q1,q2,rfl⟩
   ·rw[q2,Bf rfl];exact .inr ⟨q1,_,rfl⟩
theorem QR {f:Fo}(h:f.one=true)(key:Option Ah)(r:Fo):(f.put key r).cnt=r.cnt+1:=by
 cases f with
 | nil=>cases h
 | cell _ _ _=>rfl
 | node _ _ _ _=>rfl
theorem IA (m:Bool)(g:Fo)(h:g.cnt=0→g = .nil):(nd m g).flat=⟨bif m then 6 else 5,0,[],(g.cnt:Int)⟩::g.flat:=by
 unfold nd
 cases hd:decide (g.cnt=0) with
 | true=>
  simp only[Yg] at hd;rw[h hd];rfl
 | false=>simp[Fo.flat,BB]
theorem HF {g:Fo}(h:g.cnt=0):g = .nil:=by
 cases g with
 | nil=>rfl
 | cell _ _ _=>simp[Fo.cnt] at h
 | node _ _ _ _=>simp[Fo.cnt] at h
theorem Sr {b m:Bool}{last key:Option Ah}{s u:Ah}(h:DZ b m last s=some (key,u)):(BB key).length+u.length≤s.length:=by
 unfold DZ at h
 cases m with
 | false=>cases h;simp[BB]
 | true=>
  simp only[Ym] at h
  cases s with
  | nil=>cases h
  | cons c r=>
   simp only at h
   cases h1:decide (c=34) with
   | false=>rw[h1] at h;cases h
   | true=>
    rw[h1] at h;simp only[Ym] at h
    cases h2:CA b r with
    | none=>rw[h2] at h;cases h
    | some q=>
     obtain⟨k,w⟩:=q;have:=Id b _ r k w rfl h2;rw[h2] at h;simp only at h
     cases h3:(b&&!B0 true last (some k)) with
     | true=>rw[h3] at h;cases h
     | false=>
      rw[h3] at h;simp only[Yj] at h
      cases w with
      | nil=>cases h
      | cons d w'=>
       simp only at h
       cases h4:decide (d=58) with
       | false=>rw[h4] at h;cases h
       | true=>rw[h4] at h;cases h;simp only[Yk,BB,YT] at this ⊢;omega
theorem Hj (b:Bool):∀F:Nat,(∀s f u,E7 b F s=some (f,u)→f.flat.length+u.length≤s.length)∧(∀m last s g u,Dg b F m last s=some (g,u)→g.flat.length+u.length+1≤s.length)
 | 0=>⟨(λs f u h=>by rw[E7.eq_def] at h;cases h),(λm last s g u h=>by rw[Dg.eq_def] at h;cases h)⟩
 | F+1=>by
  obtain⟨ih1,ih2⟩:=Hj b F;have lfl:∀k i t,(lf k i t).flat.length=1:=λ_ _ _=>rfl;constructor
  ·intro s f u h;rw[Df] at h
   cases h1:pre [110,117,108,108] s with
   | some r=>rw[h1] at h;cases h;rw[Dc h1,lfl];simp;omega
   | none=>
   rw[h1] at h;simp only at h
   cases h2:pre [116,114,117,101] s with
   | some r=>rw[h2] at h;cases h;rw[Dc h2,lfl];simp;omega
   | none=>
   rw[h2] at h;simp only at h
   cases h3:pre [102,97,108,115,101] s with
   | some r=>rw[h3] at h;cases h;rw[Dc h3,lfl];simp;omega
   | none=>
   rw[h3] at h;simp only at h
   cases s with
   | nil=>cases h
   | cons c r=>
   simp only at h
   cases h4:decide (c=34) with
   | true=>
    rw[h4] at h;simp only[Ym] at h
    cases h5:CA b r with
    | none=>rw[h5] at h;cases h
    | some q=>
     obtain⟨t,w⟩:=q;rw[h5] at h;cases h;have:=Id b _ r t u rfl h5;rw[lfl];simp only[Yk];omega
   | false=>
   rw[h4] at h;simp only[Yj] at h
   cases h5:(decide (c=91)||decide (c=123)) with
   | false=>
    rw[h5] at h;simp only[Yj] at h;have h6:=Mu h;have h7:f.flat.length=1:=by
     unfold Hm at h;simp only at h
     cases hc:El (decide ((c::r).head? =some 45)) (Ct (bif decide ((c::r).head? =some 45) then(c::r).tail else c::r)).1 with
     | false=>rw[hc] at h;cases h
     | true=>rw[hc] at h;cases h;rfl
    omega
   | true=>
   rw[h5] at h;simp only[Ym] at h
   cases r with
   | nil=>cases h
   | cons d r'=>
   simp only at h
   cases h6:decide (d=BL (decide (c=123))) with
   | true=>rw[h6] at h;cases h;rw[IA _ _ HF];simp[Fo.flat];omega
   | false=>
   rw[h6] at h;simp only[Yj] at h
   cases h7:Dg b F (decide (c=123)) none (d::r') with
   | none=>rw[h7] at h;cases h
   | some q=>
    obtain⟨g,w⟩:=q;rw[h7] at h;cases h;have:=ih2 _ _ _ _ _ h7;rw[IA _ _ HF];simp only[Yk] at this ⊢;omega
  ·intro m last s g u h;rw[CT] at h
   cases h1:DZ b m last s with
   | none=>rw[h1] at h;cases h
   | some q=>
   obtain⟨key,s1⟩:=q;have l1:=Sr h1;rw[h1] at h;simp only at h
   cases h2:E7 b F s1 with
   | none=>rw[h2] at h;cases h
   | some q=>
   obtain⟨f,s2⟩:=q;have l2:=ih1 _ _ _ h2;have o2:=((DT b F).1 _ _ _ h2).2;rw[h2] at h;simp only at h
   cases s2 with
   | nil=>cases h
   | cons c s3=>
   simp only[Yk] at l2;simp only at h
   cases h3:decide (c=BL m) with
   | true=>rw[h3] at h;cases h;rw[Er o2,Yn,Yn];simp only[Fo.flat,YT];omega
   | false=>
   rw[h3] at h;simp only[Yj] at h
   cases h4:decide (c=44) with
   | false=>rw[h4] at h;cases h
   | true=>
   rw[h4] at h;simp only[Ym] at h
   cases h5:Dg b F m key s3 with
   | none=>rw[h5] at h;cases h
   | some q=>
    obtain⟨g',w⟩:=q;rw[h5] at h;cases h;have:=ih2 _ _ _ _ _ h5;rw[Er o2,Yn,Yn];omega
theorem QL {α:Type}(xs D:List α)(a b:α):List.set (xs++a::D) (Int.toNat (xs.length:Int)) b=xs++b::D:=by
 rw[show Int.toNat (xs.length:Int)=xs.length from by omega,List.set_append_right _ _ (Y2 _)];simp
theorem UK {α:Type}[Inhabited α](xs D:List α)(a:α):Aj (xs++a::D) (xs.length:Int)=a:=by simp[Aj]
def Xf (F P:Nat)(S u:Ah)(cs:List Ab)(g:Bool):Prop:=
 (∃f w,E7 true P u=some (f,w)∧G5 w S∧Cj F (CV S u cs g)=some (true,CV S w (cs++f.flat.map C5) (g||f.flat.any BY)))∨(E7 true P u=none∧∃q',Cj F (CV S u cs g)=some (false,q'))
abbrev Wf (F:Nat)(x16:List Ab):Int×Ah×Int×List Ab×Bool→Option (Stp (Int×Ah×Int×List Ab×Bool) (Out (Bool×Ao) Unit)):=λσ=>DW (Cj F) x16 σ.1 σ.2.1 σ.2.2.1 σ.2.2.2.1 σ.2.2.2.2
abbrev Wy (F:Nat)(x16:List Ab):Ah×Int×Ah×Int×List Ab×Bool→Option (Stp (Ah×Int×Ah×Int×List Ab×Bool) (Out (Bool×Ao) Unit)):=λσ=>DV F (Cj F) x16 σ.1 σ.2.1 σ.2.2.1 σ.2.2.2.1 σ.2.2.2.2.1 σ.2.2.2.2.2
def SG (P:Nat)(m:Bool)(last:Option Ah)(S u:Ah)(x16 D:List Ab)(k:Int)(g:Bool)(o:Out (Bool×Ao) Unit):Prop:=
 (∃G w,Dg true P m last u=some (G,w)∧G5 w S∧o = .ret (true,CV S w (x16++⟨bif m then 6 else 5,0,[],k-1+(G.cnt:Int)⟩::(D++G.flat.map C5)) (g||G.flat.any BY)))∨(Dg true P m last u=none∧∃q',o = .ret (false,q'))
theorem VO (k:Option Ah):(BB k).map C5=BB k∧(BB k).any BY=false:=by
 cases k with
 | none=>exact⟨rfl,rfl⟩
 | some s=>exact⟨by simp[BB,C5,BY],by simp[BB,BY]⟩
theorem SG.join {P:Nat}{m:Bool}{last key:Option Ah}{S u s1 s2:Ah}{x16 D:List Ab}{k:Int}{g:Bool}{o:Out (Bool×Ao) Unit}{f:Fo}(hk:DZ true m last u=some (key,s1))(hf:E7 true P s1=some (f,s2))(ho:f.one=true)
  (h:(∃s3,s2=BL m::s3∧G5 s3 S∧o = .ret (true,CV S s3 (x16++⟨bif m then 6 else 5,0,[],k⟩::(D++(BB key++f.flat.map C5))) (g||f.flat.any BY)))∨(∃s3,s2=44::s3∧SG P m key S s3 x16 (D++(BB key++f.flat.map C5)) (k+1) (g||f.flat.any BY) o)∨((∀c s3,s2=c::s3→decide (c=BL m)=false∧decide (c=44)=false)∧∃q',o = .ret (false,q'))):SG (P+1) m last S u x16 D k g o:=by
 obtain⟨fk1,fk2⟩:=VO key;unfold SG;rw[CT,hk];simp only[hf];have ha:decide ((44:UInt8)=BL m)=false:=by cases m<;>rfl
 rcases h with⟨s3,rfl,h1,h2⟩ | ⟨s3,rfl,h⟩ | ⟨h1,h2⟩
 ·simp only[decide_true,Ym];refine .inl ⟨_,s3,rfl,h1,?_⟩;rw[h2,QR ho,Er ho];simp only[Fo.flat,Fo.cnt,YV,Zd,List.any_append,fk1,fk2,Y0]
  congr 6
  omega
 ·simp only[ha,Yj,decide_true,Ym];rcases h with⟨G,w,q1,q2,q3⟩ | ⟨q1,q2⟩
  ·rw[q1];refine .inl ⟨_,w,rfl,q2,?_⟩;rw[q3,QR ho,Er ho];simp only[Zd,List.any_append,fk1,fk2,Y0,Bool.or_assoc,YL]
   congr 6
   omega
  ·rw[q1];exact .inr ⟨rfl,q2⟩
 ·refine .inr ⟨?_,h2⟩
  cases s2 with
  | nil=>rfl
  | cons c s3=>
   obtain⟨a,b⟩:=h1 c s3 rfl;simp only[a,b,Yj]
theorem L8 (S u:Ah)(cs:List Ab)(g:Bool):Ao.mk S ((S.length:Int)-u.length) cs g=CV S u cs g:=rfl
theorem L6 {o:Out (Bool×Ao) Unit}{r:Bool×Ao}{K:Unit→Option (Bool×Ao)}(h:o = .ret r):Cg K o=some r:=by rw[h];rfl
theorem Rs {α:Type}{n:Nat}{x:Option α}(h:n≤1000000):Bj (DI 40 n) x=x:=Cl (Yr (by omega))
theorem Qw {F P:Nat}{S u:Ah}{x16 D:List Ab}{k:Int}{g:Bool}(hS:S.length≤100000)(hs:G5 u S)(hk1:1≤k)(hk2:k≤200000)(hV:Xf F P S u (x16++⟨5,0,[],k-1⟩::D) g) :
  (∃q',Wf F x16 (k,S,(S.length:Int)-u.length,x16++⟨5,0,[],k-1⟩::D,g)=some (.out (.ret (false,q')))∧(E7 true P u=none∨∃f s2,E7 true P u=some (f,s2)∧∀c s3,s2=c::s3→decide (c=BL false)=false∧decide (c=44)=false))∨
  ∃f s2,E7 true P u=some (f,s2)∧G5 s2 S∧((∃s3,s2=BL false::s3∧Wf F x16 (k,S,(S.length:Int)-u.length,x16++⟨5,0,[],k-1⟩::D,g)=some (.out (.ret (true,CV S s3 (x16++⟨5,0,[],k⟩::(D++f.flat.map C5)) (g||f.flat.any BY)))))∨
   (∃s3,s2=44::s3∧Wf F x16 (k,S,(S.length:Int)-u.length,x16++⟨5,0,[],k-1⟩::D,g)=some (.next (k+1,S,(S.length:Int)-s3.length,x16++⟨5,0,[],k⟩::(D++f.flat.map C5),g||f.flat.any BY)))):=by
 have hb:Wf F x16 (k,S,(S.length:Int)-u.length,x16++⟨5,0,[],k-1⟩::D,g)=DW (Cj F) x16 k S ((S.length:Int)-u.length) (x16++⟨5,0,[],k-1⟩::D) g:=rfl;rw[hb];unfold DW;rw[L8];rcases hV with⟨f,s2,q1,q2,q3⟩ | ⟨q1,q',q2⟩
 ·have ec:(x16++⟨5,0,[],k-1⟩::D)++f.flat.map C5=x16++⟨5,0,[],k-1⟩::(D++f.flat.map C5):=by simp
  rw[ec] at q3;rw[q3,Bf rfl,AH (p:=!true) rfl];have hin:C2 (x16.length:Int) (((x16++(⟨5,0,[],k-1⟩:Ab)::(D++f.flat.map C5)).length:Nat):Int)=true:=Q1 (by omega) (by rw[Yn,Yk];omega);have e1:(true,CV S s2 (x16++⟨5,0,[],k-1⟩::(D++f.flat.map C5)) (g||f.flat.any BY)).2.fCells=x16++⟨5,0,[],k-1⟩::(D++f.flat.map C5):=rfl;rw[e1,Cl hin,UK,QL,E1];have e2:Ao.mk (true,CV S s2 (x16++⟨5,0,[],k-1⟩::(D++f.flat.map C5)) (g||f.flat.any BY)).2.fS (true,CV S s2 (x16++⟨5,0,[],k-1⟩::(D++f.flat.map C5)) (g||f.flat.any BY)).2.fAt (x16++⟨5,0,[],k⟩::(D++f.flat.map C5)) (true,CV S s2 (x16++⟨5,0,[],k-1⟩::(D++f.flat.map C5)) (g||f.flat.any BY)).2.fGreat=CV S s2 (x16++⟨5,0,[],k⟩::(D++f.flat.map C5)) (g||f.flat.any BY):=rfl;rw[e2,C8 hS q2,JN]
  cases s2 with
  | nil=>
   simp only;rw[Bf rfl,AH rfl,C8 hS q2,JN];exact .inl ⟨_,rfl,.inr ⟨f,[],q1,λc s3 e=>by cases e⟩⟩
  | cons c s3=>
   simp only
   cases ha:decide (c=93) with
   | true=>
    simp only[Yg] at ha;subst ha;exact .inr ⟨f,_,q1,q2,.inl ⟨s3,rfl,rfl⟩⟩
   | false=>
    simp only[Yj];rw[Bf rfl,AH rfl,C8 hS q2,JN];simp only
    cases hd:decide (c=44) with
    | true=>
     simp only[Yg] at hd;subst hd;simp only[Ym];rw[Bf rfl,AH (p:=!true) rfl,Bp (by omega) (by omega)];exact .inr ⟨f,_,q1,q2,.inr ⟨s3,rfl,rfl⟩⟩
    | false=>
     exact .inl ⟨_,rfl,.inr ⟨f,_,q1,λc' s3' e=>by cases e;exact⟨ha,hd⟩⟩⟩
 ·rw[q2,Bf rfl];exact .inl ⟨q',rfl,.inl q1⟩
theorem TR {F P:Nat}{S u:Ah}{x16 D:List Ab}{k:Int}{g b1 b2:Bool}{r:Ah×Bool×Ao}(hS:S.length≤100000)(hs:G5 u S)(hk1:1≤k)(hk2:k≤200000)(hD:x16.length+D.length≤200000)(hV:Xf F P S u (x16++⟨6,0,[],k-1⟩::(D++[⟨4,0,r.1,0⟩])) g) :
  (∃q',Cd (Cj F) x16 k r b1 b2 false S ((S.length:Int)-u.length) (x16++⟨6,0,[],k-1⟩::D) g=some (.out (.ret (false,q')))∧(E7 true P u=none∨∃f s2,E7 true P u=some (f,s2)∧∀c s3,s2=c::s3→decide (c=BL true)=false∧decide (c=44)=false))∨
  ∃f s2,E7 true P u=some (f,s2)∧G5 s2 S∧((∃s3,s2=BL true::s3∧Cd (Cj F) x16 k r b1 b2 false S ((S.length:Int)-u.length) (x16++⟨6,0,[],k-1⟩::D) g=some (.out (.ret (true,CV S s3 (x16++⟨6,0,[],k⟩::(D++([⟨4,0,r.1,0⟩]++f.flat.map C5))) (g||f.flat.any BY)))))∨
   (∃s3,s2=44::s3∧Cd (Cj F) x16 k r b1 b2 false S ((S.length:Int)-u.length) (x16++⟨6,0,[],k-1⟩::D) g=some (.next (r.1,k+1,S,(S.length:Int)-s3.length,x16++⟨6,0,[],k⟩::(D++([⟨4,0,r.1,0⟩]++f.flat.map C5)),g||f.flat.any BY)))):=by
 unfold Cd;have e0:(x16++⟨6,0,[],k-1⟩::D)++([⟨4,0,r.1,0⟩]:List Ab)=x16++⟨6,0,[],k-1⟩::(D++[⟨4,0,r.1,0⟩]):=by simp
 rw[AH rfl,Rs (by rw[Yn,Yk,Y8];omega),e0,L8];rcases hV with⟨f,s2,q1,q2,q3⟩ | ⟨q1,q',q2⟩
 ·have ec:(x16++⟨6,0,[],k-1⟩::(D++[⟨4,0,r.1,0⟩]))++f.flat.map C5=x16++⟨6,0,[],k-1⟩::(D++([⟨4,0,r.1,0⟩]++f.flat.map C5)):=by simp
  rw[ec] at q3;rw[q3,Bf rfl,AH (p:=!true) rfl];have hin:C2 (x16.length:Int) (((x16++(⟨6,0,[],k-1⟩:Ab)::(D++([⟨4,0,r.1,0⟩]++f.flat.map C5))).length:Nat):Int)=true:=Q1 (by omega) (by rw[Yn,Yk];omega);have e1:(true,CV S s2 (x16++⟨6,0,[],k-1⟩::(D++([⟨4,0,r.1,0⟩]++f.flat.map C5))) (g||f.flat.any BY)).2.fCells=x16++⟨6,0,[],k-1⟩::(D++([⟨4,0,r.1,0⟩]++f.flat.map C5)):=rfl;rw[e1,Cl hin,UK,QL,E1];have e2:Ao.mk (true,CV S s2 (x16++⟨6,0,[],k-1⟩::(D++([⟨4,0,r.1,0⟩]++f.flat.map C5))) (g||f.flat.any BY)).2.fS (true,CV S s2 (x16++⟨6,0,[],k-1⟩::(D++([⟨4,0,r.1,0⟩]++f.flat.map C5))) (g||f.flat.any BY)).2.fAt (x16++⟨6,0,[],k⟩::(D++([⟨4,0,r.1,0⟩]++f.flat.map C5))) (true,CV S s2 (x16++⟨6,0,[],k-1⟩::(D++([⟨4,0,r.1,0⟩]++f.flat.map C5))) (g||f.flat.any BY)).2.fGreat=CV S s2 (x16++⟨6,0,[],k⟩::(D++([⟨4,0,r.1,0⟩]++f.flat.map C5))) (g||f.flat.any BY):=rfl;rw[e2,C8 hS q2,JN]
  cases s2 with
  | nil=>
   simp only;rw[Bf rfl,AH rfl,C8 hS q2,JN];exact .inl ⟨_,rfl,.inr ⟨f,[],q1,λc s3 e=>by cases e⟩⟩
  | cons c s3=>
   simp only
   cases ha:decide (c=125) with
   | true=>
    simp only[Yg] at ha;subst ha;exact .inr ⟨f,_,q1,q2,.inl ⟨s3,rfl,rfl⟩⟩
   | false=>
    simp only[Yj];rw[Bf rfl,AH rfl,C8 hS q2,JN];simp only
    cases hb:decide (c=44) with
    | true=>
     simp only[Yg] at hb;subst hb;simp only[Ym];rw[Bf rfl,AH (p:=!true) rfl,Bp (by omega) (by omega)];exact .inr ⟨f,_,q1,q2,.inr ⟨s3,rfl,rfl⟩⟩
    | false=>
     exact .inl ⟨_,rfl,.inr ⟨f,_,q1,λc' s3' e=>by cases e;exact⟨ha,hb⟩⟩⟩
 ·rw[q2,Bf rfl];exact .inl ⟨q',rfl,.inl q1⟩
def WW (t:Ah):Ah→Option (Option Ah×Ah)
 | []=>none
 | d::u'=>bif decide (d=58) then some (some t,u') else none
theorem Ri (b:Bool)(last:Option Ah)(r:Ah):DZ b true last (34::r)=match CA b r with
  | none=>none
  | some (k,u)=>bif b&&!B0 true last (some k) then none else WW k u:=by
 show(match CA b r with
   | none=>none
   | some (k,u)=>bif b&&!B0 true last (some k) then none else(match u with
    | []=>none
    | d::u'=>bif decide (d=58) then some (some k,u') else none))=_
 cases CA b r with
 | none=>rfl
 | some q=>obtain⟨k,u⟩:=q;cases u<;>rfl
theorem VH (b:Bool)(last:Option Ah){u:Ah}(h:∀r,u=34::r→CA b r=none):DZ b true last u=none:=by
 cases u with
 | nil=>rfl
 | cons c r=>
  by_cases hc:c=34
  ·subst hc;rw[Ri,h r rfl]
  ·show(bif decide (c=34) then _ else none)=none;rw[Yo hc];rfl
theorem Nu {F:Nat}{S w t:Ah}{x16 cs:List Ab}{k:Int}{g:Bool}(b1 b2:Bool)(hS:S.length≤100000)(hw:G5 w S) :
  (∃q',B8 (Dt (t,true,CV S w cs g).2.2 ([58]:Ah)) (λha=>Cd (Cj F) x16 k (t,true,CV S w cs g) b1 b2 (!ha.1) ha.2.fS ha.2.fAt ha.2.fCells ha.2.fGreat)=some (.out (.ret (false,q')))∧WW t w=none)∨
  ∃s1,w=58::s1∧WW t w=some (some t,s1)∧B8 (Dt (t,true,CV S w cs g).2.2 ([58]:Ah)) (λha=>Cd (Cj F) x16 k (t,true,CV S w cs g) b1 b2 (!ha.1) ha.2.fS ha.2.fAt ha.2.fCells ha.2.fGreat)=Cd (Cj F) x16 k (t,true,CV S w cs g) b1 b2 false S ((S.length:Int)-s1.length) cs g:=by
 rw[show(t,true,CV S w cs g).2.2=CV S w cs g from rfl,C8 hS hw,JN]
 cases w with
 | nil=>exact .inl ⟨_,rfl,rfl⟩
 | cons d s1=>
  by_cases hd:d=58
  ·subst hd;exact .inr ⟨s1,rfl,rfl,rfl⟩
  ·simp only[Yo hd,Yj];refine .inl ⟨_,rfl,?_⟩;show(bif decide (d=58) then _ else none)=none;rw[Yo hd];rfl
theorem V9 {F:Nat}{S u last:Ah}{x16 cs:List Ab}{k:Int}{g:Bool}(hS:S.length≤100000)(hs:G5 u S)(hF:S.length<F) :
  (DZ true true (bif decide (1<k) then some last else none) u=none∧∃q',Wy F x16 (last,k,S,(S.length:Int)-u.length,cs,g)=some (.out (.ret (false,q'))))∨
  ∃t s1 b1 b2 q0,DZ true true (bif decide (1<k) then some last else none) u=some (some t,s1)∧G5 s1 S∧s1.length+2≤u.length∧Wy F x16 (last,k,S,(S.length:Int)-u.length,cs,g)=Cd (Cj F) x16 k (t,true,q0) b1 b2 false S ((S.length:Int)-s1.length) cs g:=by
 have hb:Wy F x16 (last,k,S,(S.length:Int)-u.length,cs,g)=DV F (Cj F) x16 last k S ((S.length:Int)-u.length) cs g:=rfl;rw[hb];unfold DV;rw[L8];rcases OH (cs:=cs) (g:=g) hS hs hF with⟨r,t,w,q1,q2,q3,q4⟩ | ⟨q1,q',q2⟩
 ·rw[q4,Bf rfl,AH (p:=!true) rfl];subst q1;have hok:=Vr _ r t w rfl q2;have hwl:=Id true _ r t w rfl q2;rw[Ri,q2];simp only[Yv]
  cases h1:decide (1<k) with
  | true=>
   rw[AZ rfl];simp only[Ym];have hko:B0 true (some last) (some t) = !(Cu t last||decide (t=last)):=by simp[B0,hok]
   rw[hko,Bool.not_not]
   cases hlt:(Cu t last||decide (t=last)) with
   | true=>
    rw[AZ rfl];exact .inl ⟨rfl,_,rfl⟩
   | false=>
    rw[AH rfl];simp only[Yj];rcases Nu (F:=F) (cs:=cs) (g:=g) (x16:=x16) (k:=k) (t:=t) false false hS q3 with⟨q',c1,c2⟩ | ⟨s1,c1,c2,c3⟩
    ·exact .inl ⟨c2,q',c1⟩
    ·subst c1;exact .inr ⟨t,s1,false,false,CV S (58::s1) cs g,c2,q3.tail,by simp only[Yk] at hwl ⊢;omega,c3⟩
  | false=>
   rw[AH rfl];simp only[Yj];have hko:B0 true none (some t)=true:=by simp[B0,hok]
   rw[hko];simp only[Ys,Yj];rcases Nu (F:=F) (cs:=cs) (g:=g) (x16:=x16) (k:=k) (t:=t) false false hS q3 with⟨q',c1,c2⟩ | ⟨s1,c1,c2,c3⟩
   ·exact .inl ⟨c2,q',c1⟩
   ·subst c1;exact .inr ⟨t,s1,false,false,CV S (58::s1) cs g,c2,q3.tail,by simp only[Yk] at hwl ⊢;omega,c3⟩
 ·rw[q2,Bf rfl];exact .inl ⟨VH _ _ q1,_,rfl⟩
def SC (b:Bool)(F:Nat)(m:Bool):Ah→Option (Fo×Ah)
 | []=>none
 | d::r'=>bif decide (d=BL m) then some (nd m .nil,r') else(match Dg b F m none (d::r') with
  | none=>none
  | some (g,u)=>some (nd m g,u))
theorem IO (b:Bool)(F:Nat)(m:Bool)(d:UInt8)(r':Ah):SC b F m (d::r')=bif decide (d=BL m) then some (nd m .nil,r') else(match Dg b F m none (d::r') with
  | none=>none
  | some (g,u)=>some (nd m g,u)):=rfl
theorem Qg (b:Bool)(F:Nat)(r:Ah)(m:Bool):E7 b (F+1) ((bif m then 123 else 91)::r)=SC b F m r:=by
 rw[Df]
 cases m<;>cases r<;>rfl
theorem TV {S:Ah}(hS:S.length≤100000):∀n:Nat,
  (∀(F P:Nat) (u:Ah) (cs:List Ab) (g:Bool),u.length=n→G5 u S→S.length+n+5<F→2*n+2≤P→cs.length+n≤S.length→Xf F P S u cs g)∧
  (∀(F P L:Nat) (u:Ah) (x16 D:List Ab) (k:Int) (g:Bool),u.length=n→G5 u S→S.length+n+5<F→2*n+3≤P→n<L→x16.length+1+D.length+n≤S.length→1≤k→k+n≤S.length+1→∃o,Ch (Wf F x16) L (k,S,(S.length:Int)-u.length,x16++⟨5,0,[],k-1⟩::D,g)=some o∧SG P false none S u x16 D k g o)∧
  (∀(F P L:Nat) (u last:Ah) (x16 D:List Ab) (k:Int) (g:Bool),u.length=n→G5 u S→S.length+n+5<F→2*n+3≤P→n<L→x16.length+1+D.length+n≤S.length→1≤k→k+n≤S.length+1→∃o,Ch (Wy F x16) L (last,k,S,(S.length:Int)-u.length,x16++⟨6,0,[],k-1⟩::D,g)=some o∧SG P true (bif decide (1<k) then some last else none) S u x16 D k g o):=by
 intro n
 induction n using Nat.strongRecOn with
 | ind n ih=>
 have hV:∀(F P:Nat) (u:Ah) (cs:List Ab) (g:Bool),u.length=n→G5 u S→S.length+n+5<F→2*n+2≤P→cs.length+n≤S.length→Xf F P S u cs g:=by
  intro F P u cs g hn hs hF hP hcs;obtain⟨F,rfl⟩:∃K,F=K+1:=⟨F-1,by omega⟩
  obtain⟨P,rfl⟩:∃K,P=K+1:=⟨P-1,by omega⟩
  unfold Xf;rw[Cj];unfold J6;rw[C8 hS hs,JN];have hsc:(∀c r,u=c::r→(decide (c=91)||decide (c=123))=false)→∀r1:Bool×Ao,(∃f w,E7 true (P+1) u=some (f,w)∧G5 w S∧Du F (Cj F) r1 true S ((S.length:Int)-u.length) cs g=some (true,CV S w (cs++f.flat.map C5) (g||f.flat.any BY)))∨(E7 true (P+1) u=none∧∃q',Du F (Cj F) r1 true S ((S.length:Int)-u.length) cs g=some (false,q')):=λhc r1=>by
   rw[T1 true P hc];unfold Du;rw[AZ rfl,L8];rcases OI (F:=F) (cs:=cs) (g:=g) hS hs (by omega) (by omega) with⟨f,w,q1,q2,q3⟩ | ⟨q1,q',q2⟩
   ·rw[q3,Bf rfl];exact .inl ⟨f,w,q1,q2,rfl⟩
   ·rw[q2,Bf rfl];exact .inr ⟨q1,q',rfl⟩
  have hsl:=hs.len
  cases u with
  | nil=>
   simp only;rw[Bf rfl,AZ (p:=!false) rfl,show(false,CV S [] cs g).2=CV S [] cs g from rfl,C8 hS hs,JN,Bf rfl];exact hsc (λc r e=>by cases e) _
  | cons c r=>
   simp only[Yk] at hn hsl;simp only;have hbr:∀m:Bool,c=(bif m then 123 else 91)→∀body:Option (Bool×Ao),body=(Bj (DI 40 (cs.length+([⟨bif m then 6 else 5,0,[],0⟩]:List Ab).length))<|B8 (Dt (CV S r (cs++[⟨bif m then 6 else 5,0,[],0⟩]) g) ([BL m]:Ah)) λha=>B3 ha.1 (some (true,ha.2)) (bif m then B8 (Ch (Wy F cs) F ([],1,ha.2.fS,ha.2.fAt,ha.2.fCells,ha.2.fGreat)) (Cg λ_=>Gk) else B8 (Ch (Wf F cs) F (1,ha.2.fS,ha.2.fAt,ha.2.fCells,ha.2.fGreat)) (Cg λ_=>Gl)))→
     (∃f w,E7 true (P+1) (c::r)=some (f,w)∧G5 w S∧body=some (true,CV S w (cs++f.flat.map C5) (g||f.flat.any BY)))∨(E7 true (P+1) (c::r)=none∧∃q',body=some (false,q')):=λm hc body hbody=>by
    rw[hbody,hc,Qg,Rs (by rw[Y8];omega),C8 hS hs.tail,JN];have hfh:C5 ⟨bif m then 6 else 5,0,[],0⟩=⟨bif m then 6 else 5,0,[],0⟩∧∀N,BY ⟨bif m then 6 else 5,0,[],N⟩=false:=by cases m<;>exact⟨rfl,λ_=>rfl⟩
    have hfn:∀N,C5 ⟨bif m then 6 else 5,0,[],N⟩=⟨bif m then 6 else 5,0,[],N⟩:=λN=>by cases m<;>rfl
    have hloop:∀o:Out (Bool×Ao) Unit,SG P m none S r cs [] 1 g o→(r=[]∨∃d r',r=d::r'∧decide (d=BL m)=false)→
      (∃f w,SC true P m r=some (f,w)∧G5 w S∧o = .ret (true,CV S w (cs++f.flat.map C5) (g||f.flat.any BY)))∨(SC true P m r=(none:Option (Fo×Ah))∧∃q',o = .ret (false,q')):=λo ho hr=>by
     rcases hr with rfl | ⟨d,r',rfl,hd⟩
     ·rcases ho with⟨G,w,q1,_,_⟩ | ⟨_,q2⟩
      ·exact absurd ((DT true P).2 _ _ _ _ _ q1).1 (by simp)
      ·exact .inr ⟨rfl,q2⟩
     ·rw[IO,hd];simp only[Yj];rcases ho with⟨G,w,q1,q2,q3⟩ | ⟨q1,q2⟩
      ·rw[q1];refine .inl ⟨_,w,rfl,q2,?_⟩;rw[q3,IA _ _ HF,YR,List.any_cons,hfn,hfh.2,Y0,YU,show(1:Int)-1+(G.cnt:Int)=G.cnt from by omega]
      ·rw[q1];exact .inr ⟨rfl,q2⟩
    have hrest:(r=[]∨∃d r',r=d::r'∧decide (d=BL m)=false)→(∃f w,SC true P m r=some (f,w)∧G5 w S∧(bif m then B8 (Ch (Wy F cs) F ([],1,S,(S.length:Int)-r.length,cs++[⟨bif m then 6 else 5,0,[],0⟩],g)) (Cg λ_=>Gk) else B8 (Ch (Wf F cs) F (1,S,(S.length:Int)-r.length,cs++[⟨bif m then 6 else 5,0,[],0⟩],g)) (Cg λ_=>Gl))=some (true,CV S w (cs++f.flat.map C5) (g||f.flat.any BY)))∨(SC true P m r=(none:Option (Fo×Ah))∧∃q',(bif m then B8 (Ch (Wy F cs) F ([],1,S,(S.length:Int)-r.length,cs++[⟨bif m then 6 else 5,0,[],0⟩],g)) (Cg λ_=>Gk) else B8 (Ch (Wf F cs) F (1,S,(S.length:Int)-r.length,cs++[⟨bif m then 6 else 5,0,[],0⟩],g)) (Cg λ_=>Gl))=some (false,q')):=λhr=>by
     cases m with
     | true=>
      obtain⟨o,ho1,ho2⟩:=(ih r.length (by omega)).2.2 F P F r [] cs [] 1 g rfl hs.tail (by omega) (by omega) (by omega) (by simp;omega) (by decide) (by omega);simp only[Ym];have ho1':Ch (Wy F cs) F ([],1,S,(S.length:Int)-r.length,cs++[⟨6,0,[],0⟩],g)=some o:=ho1;rw[Bf ho1'];rcases hloop o ho2 hr with⟨f,w,q1,q2,q3⟩ | ⟨q1,q',q2⟩
      ·exact .inl ⟨f,w,q1,q2,L6 q3⟩
      ·exact .inr ⟨q1,q',L6 q2⟩
     | false=>
      obtain⟨o,ho1,ho2⟩:=(ih r.length (by omega)).2.1 F P F r cs [] 1 g rfl hs.tail (by omega) (by omega) (by omega) (by simp;omega) (by decide) (by omega);simp only[Yj];have ho1':Ch (Wf F cs) F (1,S,(S.length:Int)-r.length,cs++[⟨5,0,[],0⟩],g)=some o:=ho1;rw[Bf ho1'];rcases hloop o ho2 hr with⟨f,w,q1,q2,q3⟩ | ⟨q1,q',q2⟩
      ·exact .inl ⟨f,w,q1,q2,L6 q3⟩
      ·exact .inr ⟨q1,q',L6 q2⟩
    cases r with
    | nil=>
     simp only;rw[Bf rfl,AH rfl];exact hrest (.inl rfl)
    | cons d r'=>
     simp only
     cases hd:decide (d=BL m) with
     | true=>
      simp only[Ym];rw[Bf rfl,AZ rfl];refine .inl ⟨_,r',by rw[IO,hd];rfl,hs.tail.tail,?_⟩;rw[IA _ _ HF];simp only[Fo.flat,Fo.cnt,YR,List.map_nil,List.any_cons,List.any_nil,YB];rw[show((0:Nat):Int)=0 from rfl,hfh.1,hfh.2,YB]
     | false=>
      simp only[Yj];rw[Bf rfl,AH rfl];exact hrest (.inr ⟨d,r',rfl,hd⟩)
   cases he:decide (c=91) with
   | true=>
    simp only[Yg] at he;simp only[Ym];rw[Bf rfl,AH (p:=!true) rfl];exact hbr false he _ rfl
   | false=>
    simp only[Yj];rw[Bf rfl,AZ (p:=!false) rfl,show(false,CV S (c::r) cs g).2=CV S (c::r) cs g from rfl,C8 hS hs,JN];simp only
    cases hg:decide (c=123) with
    | true=>
     simp only[Yg] at hg;simp only[Ym];rw[Bf rfl];exact hbr true hg _ rfl
    | false=>
     simp only[Yj];rw[Bf rfl];exact hsc (λc' r' e=>by cases e;rw[he,hg];rfl) _
 refine⟨hV,?_,?_⟩
 ·intro F P L u x16 D k g hn hs hF hP hL hb hk1 hk2;obtain⟨P,rfl⟩:∃K,P=K+1:=⟨P-1,by omega⟩
  obtain⟨L,rfl⟩:∃K,L=K+1:=⟨L-1,by omega⟩
  have hsl:=hs.len;have hv:=hV F P u (x16++⟨5,0,[],k-1⟩::D) g hn hs hF (by omega) (by simp;omega);have hkp:DZ true false none u=some (none,u):=rfl;rcases Qw hS hs hk1 (by omega) hv with⟨q',hb1,hf⟩ | ⟨f,s2,q1,q2,h⟩
  ·refine⟨_,Ei hb1,?_⟩;rcases hf with hf | ⟨f,s2,hf,hno⟩
   ·refine .inr ⟨?_,q',rfl⟩;rw[CT,hkp];simp only[hf]
   ·exact SG.join hkp hf ((DT true P).1 _ _ _ hf).2 (.inr (.inr ⟨hno,q',rfl⟩))
  ·obtain⟨l1,ho⟩:=(DT true P).1 _ _ _ q1;have l2:=(Hj true P).1 _ _ _ q1;rcases h with⟨s3,e,hb1⟩ | ⟨s3,e,hb1⟩
   ·subst e;exact⟨_,Ei hb1,SG.join hkp q1 ho (.inl ⟨s3,rfl,q2.tail,rfl⟩)⟩
   ·subst e;simp only[Yk] at l1 l2;obtain⟨o,ho1,ho2⟩:=(ih s3.length (by omega)).2.1 F P L s3 x16 (D++f.flat.map C5) (k+1) (g||f.flat.any BY) rfl q2.tail (by omega) (by omega) (by omega) (by rw[Yn,Yt];omega) (by omega) (by omega);rw[show k+1-1=k from by omega] at ho1;exact⟨o,JZ hb1 ho1,SG.join hkp q1 ho (.inr (.inl ⟨s3,rfl,ho2⟩))⟩
 ·intro F P L u last x16 D k g hn hs hF hP hL hb hk1 hk2;obtain⟨P,rfl⟩:∃K,P=K+1:=⟨P-1,by omega⟩
  obtain⟨L,rfl⟩:∃K,L=K+1:=⟨L-1,by omega⟩
  have hsl:=hs.len;rcases V9 (last:=last) (x16:=x16) (cs:=x16++⟨6,0,[],k-1⟩::D) (k:=k) (g:=g) hS hs (F:=F) (by omega) with⟨hk,q',hb1⟩ | ⟨t,s1,b1,b2,q0,hk,hs1,hl1,hb0⟩
  ·refine⟨_,Ei hb1,.inr ⟨?_,q',rfl⟩⟩;rw[CT,hk]
  ·have hv:=(ih s1.length (by omega)).1 F P s1 (x16++⟨6,0,[],k-1⟩::(D++[⟨4,0,t,0⟩])) g rfl hs1 (by omega) (by omega) (by simp;omega);rcases TR (r:=(t,true,q0)) (b1:=b1) (b2:=b2) hS hs1 hk1 (by omega) (by omega) hv with⟨q',hb1,hf⟩ | ⟨f,s2,q1,q2,h⟩
   ·refine⟨_,Ei (hb0.trans hb1),?_⟩;rcases hf with hf | ⟨f,s2,hf,hno⟩
    ·refine .inr ⟨?_,q',rfl⟩;rw[CT,hk];simp only[hf]
    ·exact SG.join hk hf ((DT true P).1 _ _ _ hf).2 (.inr (.inr ⟨hno,q',rfl⟩))
   ·obtain⟨l1,ho⟩:=(DT true P).1 _ _ _ q1;have l2:=(Hj true P).1 _ _ _ q1;rcases h with⟨s3,e,hb1⟩ | ⟨s3,e,hb1⟩
    ·subst e;exact⟨_,Ei (hb0.trans hb1),SG.join hk q1 ho (.inl ⟨s3,rfl,q2.tail,rfl⟩)⟩
    ·subst e;simp only[Yk] at l1 l2;obtain⟨o,ho1,ho2⟩:=(ih s3.length (by omega)).2.2 F P L s3 t x16 (D++([⟨4,0,t,0⟩]++f.flat.map C5)) (k+1) (g||f.flat.any BY) rfl q2.tail (by omega) (by omega) (by omega) (by rw[Yn,Yn,Yt,Y8];omega) (by omega) (by omega);rw[show k+1-1=k from by omega] at ho1;rw[show decide (1<k+1)=true from Yr (by omega)] at ho2;exact⟨o,JZ (hb0.trans hb1) ho1,SG.join hk q1 ho (.inr (.inl ⟨s3,rfl,ho2⟩))⟩
theorem PT {S:Ah}(hS:S.length≤100000){F P:Nat}(hF:2*S.length+6≤F)(hP:2*S.length+2≤P):Xf F P S S [] false:=
 (TV hS S.length).1 F P S [] false rfl ⟨[],rfl⟩ (by omega) hP (by simp)
theorem V5:∀(d:Ah),d.all BM=true→Cr 0 d<10 ^ d.length:=by
 have key:∀(d:Ah) (a m:Nat),d.all BM=true→a<10 ^ m→Cr a d<10 ^ (m+d.length):=by
  intro d
  induction d with
  | nil=>intro a m _ h;simpa[Cr] using h
  | cons c d ih=>
   intro a m hd h;simp only[YG,Yl] at hd;have hc:48≤c.toNat∧c.toNat≤57:=by have:=hd.1;simp[BM] at this;omega
   have:=ih (10*a+(c.toNat-48)) (m+1) hd.2 (by rw[Nat.pow_succ];omega);rw[Yk,show m+(d.length+1)=m+1+d.length from by omega];exact this
 intro d hd;have:=key d 0 0 hd (by decide);simpa using this
theorem V4 {d:Ah}(hd:d.all BM=true)(hl:d.length≤18):0≤MQ d∧MQ d<1000000000000000000:=by
 have h1:MQ d=(Cr 0 d:Int):=Ii d 0 hd;have h2:=V5 d hd;have h3:10 ^ d.length≤10 ^ 18:=Nat.pow_le_pow_right (by decide) hl;have:(10:Nat) ^ 18=1000000000000000000:=by decide
 omega
def hd (m:Bool)(N:Int):Ab:=⟨bif m then 6 else 5,0,[],N⟩
theorem OQ:∀(n:Nat) (s:Ah),s.length=n→CA true s=match CA false s with
  | none=>none
  | some (t,u)=>bif t.all IQ then some (t,u) else none:=by
 intro n
 induction n using Nat.strongRecOn with
 | ind n ih=>
  intro s hn
  cases s with
  | nil=>rfl
  | cons c r=>
   simp only[Yk] at hn;rw[Dl,Dl]
   cases h1:decide (c=34) with
   | true=>rfl
   | false=>
    simp only[Yj,Yv,Y5]
    cases h3:decide (c=92) with
    | true=>
     have hc:IQ c=true:=by simp only[Yg] at h3;subst h3;rfl
     rw[hc]
     cases r with
     | nil=>rfl
     | cons d r'=>
      simp only[Ys,Yj,Ym];simp only[Yk] at hn
      cases h4:(decide (d=34)||decide (d=92)) with
      | false=>rfl
      | true=>
       have hd:IQ d=true:=by
        simp only[YN,Yg] at h4;rcases h4 with e | e<;>subst e<;>rfl
       simp only[Ym];rw[ih r'.length (by omega) r' rfl]
       cases CA false r' with
       | none=>rfl
       | some q=>
        obtain⟨t,u⟩:=q;simp only[YG,hd,Yv]
        cases t.all IQ<;>rfl
    | false=>
     simp only[Yj];rw[ih r.length (by omega) r rfl]
     cases hc:IQ c with
     | false=>
      simp only[Y9,Ym]
      cases CA false r with
      | none=>rfl
      | some q=>obtain⟨t,u⟩:=q;simp[hc]
     | true=>
      simp only[Ys,Yj]
      cases CA false r with
      | none=>rfl
      | some q=>
       obtain⟨t,u⟩:=q;simp only[YG,hc,Yv]
       cases t.all IQ<;>rfl
theorem Ub (m:Bool)(last:Option Ah)(s:Ah):DZ true m last s=match DZ false m none s with
  | none=>none
  | some (k,u)=>bif B0 m last k then some (k,u) else none:=by
 cases m with
 | false=>rfl
 | true=>
  cases s with
  | nil=>rfl
  | cons c r=>
   unfold DZ;simp only[Ym,Yv,Y5,Yj]
   cases hc:decide (c=34) with
   | false=>rfl
   | true=>
    simp only[Ym];rw[OQ _ r rfl]
    cases CA false r with
    | none=>rfl
    | some q=>
     obtain⟨t,u⟩:=q;simp only
     cases ht:t.all IQ with
     | false=>
      have hk:B0 true last (some t)=false:=by simp[B0,ht]
      simp only[Yj]
      cases u with
      | nil=>rfl
      | cons d u'=>
       simp only
       cases decide (d=58) with
       | false=>rfl
       | true=>simp only[Ym,hk];rfl
     | true=>
      simp only[Ym]
      cases u with
      | nil=>cases B0 true last (some t)<;>rfl
      | cons d u'=>
       simp only
       cases decide (d=58) with
       | false=>cases B0 true last (some t)<;>rfl
       | true=>cases hk:B0 true last (some t)<;>simp[hk]
def X6 (c:Ab):Bool:=bif decide (c.fKind=4) then decide (c.fInt=0)&&decide (c.fN=0) else pl c
def Fo.rw:Bool→Fo→Bool
 | _,.nil=>true
 | m,.cell k c r=>(k.isSome ==m)&&X6 c&&!decide (0<c.fN)&&r.rw m
 | m,.node k c kids r=>(k.isSome ==m)&&X6 c&&decide (0<c.fN)&&decide (c.fN=kids.cnt)&&kids.rw (decide (c.fKind=6))&&r.rw m
theorem Tv {f:Fo}(h:f.one=true)(m:Bool)(last key:Option Ah)(r:Fo):(f.put key r).wf m last=(B0 m last key&&f.wf false none&&r.wf m key):=by
 cases f with
 | nil=>cases h
 | cell k c r'=>
  cases k with
  | some _=>cases h
  | none=>cases r' with
   | nil=>simp[Fo.put,Fo.wf,B0,Bool.and_assoc]
   | cell _ _ _=>cases h
   | node _ _ _ _=>cases h
 | node k c kids r'=>
  cases k with
  | some _=>cases h
  | none=>cases r' with
   | nil=>simp[Fo.put,Fo.wf,B0,Bool.and_assoc]
   | cell _ _ _=>cases h
   | node _ _ _ _=>cases h
theorem Tw {f:Fo}(h:f.one=true)(m:Bool)(key:Option Ah)(r:Fo):(f.put key r).rw m=((key.isSome ==m)&&f.rw false&&r.rw m):=by
 cases f with
 | nil=>cases h
 | cell k c r'=>
  cases k with
  | some _=>cases h
  | none=>cases r' with
   | nil=>simp[Fo.put,Fo.rw,Bool.and_assoc]
   | cell _ _ _=>cases h
   | node _ _ _ _=>cases h
 | node k c kids r'=>
  cases k with
  | some _=>cases h
  | none=>cases r' with
   | nil=>simp[Fo.put,Fo.rw,Bool.and_assoc]
   | cell _ _ _=>cases h
   | node _ _ _ _=>cases h
theorem Rb (m:Bool)(g:Fo):(nd m g).wf false none=g.wf m none∧(nd m g).rw false=g.rw m:=by
 unfold nd
 cases hd:decide (g.cnt=0) with
 | true=>
  simp only[Yg] at hd;rw[HF hd]
  cases m<;>exact⟨rfl,rfl⟩
 | false=>
  simp only[Yf] at hd;have h1:decide ((0:Int)<(g.cnt:Int))=true:=Yr (by omega);have h2:decide ((0:Int)≤(g.cnt:Int))=true:=Yr (by omega)
  cases m<;>simp[Fo.wf,Fo.rw,B0,pl,X6]<;>omega
theorem Sq {m:Bool}{last k:Option Ah}{s u:Ah}{b:Bool}(h:DZ b m last s=some (k,u)):(k.isSome ==m)=true:=by
 unfold DZ at h
 cases m with
 | false=>cases h;rfl
 | true=>
  simp only[Ym] at h
  cases s with
  | nil=>cases h
  | cons c r=>
   simp only at h
   cases h1:decide (c=34) with
   | false=>rw[h1] at h;cases h
   | true=>
    rw[h1] at h;simp only[Ym] at h
    cases h2:CA b r with
    | none=>rw[h2] at h;cases h
    | some q=>
     obtain⟨t,w⟩:=q;rw[h2] at h;simp only at h
     cases h3:(b&&!B0 true last (some t)) with
     | true=>rw[h3] at h;cases h
     | false=>
      rw[h3] at h;simp only[Yj] at h
      cases w with
      | nil=>cases h
      | cons d w'=>
       simp only at h
       cases h4:decide (d=58) with
       | false=>rw[h4] at h;cases h
       | true=>rw[h4] at h;cases h;rfl
theorem NZ:∀F:Nat,(∀s,E7 true F s=(match E7 false F s with
   | none=>none
   | some (f,u)=>bif f.wf false none then some (f,u) else none)∧∀f u,E7 false F s=some (f,u)→f.rw false=true)∧
  (∀m last last' s,Dg true F m last s=(match Dg false F m last' s with
   | none=>none
   | some (g,u)=>bif g.wf m last then some (g,u) else none)∧∀g u,Dg false F m last' s=some (g,u)→g.rw m=true)
 | 0=>⟨λs=>⟨by rw[E7.eq_def,E7.eq_def],(λf u h=>by rw[E7.eq_def] at h;cases h)⟩,λm last last' s=>⟨by rw[Dg.eq_def,Dg.eq_def],(λg u h=>by rw[Dg.eq_def] at h;cases h)⟩⟩
 | F+1=>by
  obtain⟨ih1,ih2⟩:=NZ F;have lfw:∀k i t,pl ⟨k,i,t,0⟩=true→(lf k i t).wf false none=true:=λk i t h=>by simp[lf,Fo.wf,B0,h]
  have lfr:∀k i t,X6 ⟨k,i,t,0⟩=true→(lf k i t).rw false=true:=λk i t h=>by simp[lf,Fo.rw,h]
  constructor
  ·intro s;rw[Df,Df]
   cases h1:pre [110,117,108,108] s with
   | some r=>exact⟨rfl,λf u h=>by cases h;rfl⟩
   | none=>
   simp only
   cases h2:pre [116,114,117,101] s with
   | some r=>exact⟨rfl,λf u h=>by cases h;rfl⟩
   | none=>
   simp only
   cases h3:pre [102,97,108,115,101] s with
   | some r=>exact⟨rfl,λf u h=>by cases h;rfl⟩
   | none=>
   simp only
   cases s with
   | nil=>exact⟨rfl,λf u h=>by cases h⟩
   | cons c r=>
   simp only
   cases h4:decide (c=34) with
   | true=>
    simp only[Ym];rw[OQ _ r rfl]
    cases hq:CA false r with
    | none=>exact⟨rfl,λf u h=>by cases h⟩
    | some q=>
     obtain⟨t,u⟩:=q;simp only;have e:(lf 4 0 t).wf false none=t.all IQ:=by simp[lf,Fo.wf,B0,pl]
     rw[e];refine⟨by cases t.all IQ<;>rfl,λf u' h=>by cases h;exact lfr 4 0 t rfl⟩
   | false=>
   simp only[Yj]
   cases h5:(decide (c=91)||decide (c=123)) with
   | false=>
    simp only[Yj]
    cases hi:Hm (c::r) with
    | none=>exact⟨rfl,λf u h=>by cases h⟩
    | some q=>
     obtain⟨f,u⟩:=q;have hf:f.wf false none=true∧f.rw false=true:=by
      unfold Hm at hi;simp only at hi
      cases hc:El (decide ((c::r).head? =some 45)) (Ct (bif decide ((c::r).head? =some 45) then(c::r).tail else c::r)).1 with
      | false=>rw[hc] at hi;cases hi
      | true=>rw[hc] at hi;cases hi;exact⟨rfl,rfl⟩
     refine⟨by simp only[hf.1];rfl,λf' u' h=>by cases h;exact hf.2⟩
   | true=>
   simp only[Ym]
   cases r with
   | nil=>exact⟨rfl,λf u h=>by cases h⟩
   | cons d r'=>
   simp only
   cases h6:decide (d=BL (decide (c=123))) with
   | true=>
    simp only[Ym,(Rb _ _).1,Fo.wf];exact⟨trivial,λf u h=>by cases h;rw[(Rb _ _).2];rfl⟩
   | false=>
   simp only[Yj];obtain⟨e1,e2⟩:=ih2 (decide (c=123)) none none (d::r');rw[e1]
   cases hq:Dg false F (decide (c=123)) none (d::r') with
   | none=>exact⟨rfl,λf u h=>by cases h⟩
   | some q=>
    obtain⟨g,u⟩:=q;simp only[(Rb _ _).1];refine⟨by cases g.wf (decide (c=123)) none<;>rfl,λf u' h=>by cases h;rw[(Rb _ _).2];exact e2 g u hq⟩
  ·intro m last last' s;rw[CT,CT,Ub m last s];have hkl:DZ false m last' s=DZ false m none s:=by
    cases m with
    | false=>rfl
    | true=>unfold DZ;simp only[Y5]
   rw[hkl]
   cases hk:DZ false m none s with
   | none=>exact⟨rfl,λf u h=>by cases h⟩
   | some q=>
   obtain⟨key,s1⟩:=q;have hks:=Sq hk;simp only;obtain⟨e1,e2⟩:=ih1 s1
   cases hf:E7 false F s1 with
   | none=>
    rw[hf] at e1;refine⟨?_,λf u h=>by cases h⟩
    cases B0 m last key with
    | false=>rfl
    | true=>simp only[Ym,e1]
   | some q=>
   obtain⟨f,s2⟩:=q;have ho:=((DT false F).1 _ _ _ hf).2;have hfr:=e2 f s2 hf;rw[hf] at e1;simp only at e1;simp only
   cases s2 with
   | nil=>
    refine⟨?_,λf u h=>by cases h⟩
    cases B0 m last key with
    | false=>rfl
    | true=>simp only[Ym,e1];cases f.wf false none<;>rfl
   | cons c s3=>
   simp only
   cases h3:decide (c=BL m) with
   | true=>
    simp only[Ym,Tv ho,Fo.wf,Y7];refine⟨?_,λg u h=>by cases h;rw[Tw ho,hks,hfr];rfl⟩
    cases B0 m last key with
    | false=>rfl
    | true=>simp only[Ym,e1,Yv];cases f.wf false none<;>simp[h3]
   | false=>
   simp only[Yj]
   cases h4:decide (c=44) with
   | false=>
    refine⟨?_,λg u h=>by cases h⟩
    cases B0 m last key with
    | false=>rfl
    | true=>simp only[Ym,e1];cases f.wf false none<;>simp[h3,h4]
   | true=>
   simp only[Ym];obtain⟨e3,e4⟩:=ih2 m key key s3
   cases hq:Dg false F m key s3 with
   | none=>
    rw[hq] at e3;refine⟨?_,λg u h=>by cases h⟩
    cases B0 m last key with
    | false=>rfl
    | true=>simp only[Ym,e1];cases f.wf false none<;>simp[h3,h4,e3]
   | some q=>
    obtain⟨g,u⟩:=q;rw[hq] at e3;simp only at e3;simp only[Tv ho];refine⟨?_,λg' u' h=>by cases h;rw[Tw ho,hks,hfr,e4 g u hq];rfl⟩
    cases B0 m last key with
    | false=>rfl
    | true=>
     simp only[Ym,e1,Yv]
     cases f.wf false none with
     | false=>rfl
     | true=>
      simp only[Ym,h3,h4,Yj,e3,Yv]
      cases g.wf m key<;>rfl
def Tm (v:List Ab):Bool:=!decide (300<v.length)&&v.all λc=>!decide (300<c.fStr.length)
def Jl (c:Ab):Bool:=Ci .i64 c.fKind&&Ci .i64 c.fInt&&UR c.fStr&&Ci .i64 c.fN
theorem Je.of {v:List Ab}(hs:Tm v=true)(hc:v.all Jl=true):Je 300 v:=by
 unfold Tm at hs;simp only[Yl,Yy,Yf,YD] at hs hc;refine⟨by decide,by omega,λc h=>?_⟩;obtain h1:=hs.2 c h;obtain h2:=hc c h;unfold Jl at h2;simp only[Yl] at h2;exact⟨by omega,h2.1.1.2,(Ke h2.2).2⟩
section
variable {M : Nat}
end
def Io (K:Nat)(c:Ab):Prop:=c.fStr.length≤K∧Ci .i64 c.fInt=true∧c.fN≤(K:Int)
theorem Io.mono {K K':Nat}{c:Ab}(h:Io K c)(hk:K≤K'):Io K' c:=⟨by have:=h.1;omega,h.2.1,by have:=h.2.2;omega⟩
theorem Nc (b:Bool):∀(n:Nat) (s t u:Ah),s.length=n→CA b s=some (t,u)→t.length≤s.length:=by
 intro n
 induction n using Nat.strongRecOn with
 | ind n ih=>
  intro s t u hn h
  cases s with
  | nil=>cases h
  | cons c r=>
   simp only[Yk] at hn ⊢;rw[Dl] at h
   cases h1:decide (c=34) with
   | true=>rw[h1] at h;cases h;simp
   | false=>
    rw[h1] at h;simp only[Yj] at h
    cases h2:(b&&!IQ c) with
    | true=>rw[h2] at h;cases h
    | false=>
     rw[h2] at h;simp only[Yj] at h
     cases h3:decide (c=92) with
     | true=>
      rw[h3] at h
      cases r with
      | nil=>cases h
      | cons d r'=>
       simp only[Ym] at h
       cases h4:(decide (d=34)||decide (d=92)) with
       | false=>rw[h4] at h;cases h
       | true=>
        rw[h4] at h;simp only[Ym] at h
        cases h5:CA b r' with
        | none=>rw[h5] at h;cases h
        | some q=>
         obtain⟨t',u'⟩:=q;rw[h5] at h;cases h;simp only[Yk] at hn ⊢;have:=ih r'.length (by omega) r' t' u rfl h5;omega
     | false=>
      rw[h3] at h;simp only[Yj] at h
      cases h5:CA b r with
      | none=>rw[h5] at h;cases h
      | some q=>
       obtain⟨t',u'⟩:=q;rw[h5] at h;cases h;have:=ih r.length (by omega) r t' u rfl h5;simp only[Yk];omega
theorem So {b m:Bool}{last:Option Ah}{s u:Ah}{t:Ah}(h:DZ b m last s=some (some t,u)):t.length≤s.length:=by
 unfold DZ at h
 cases m with
 | false=>cases h
 | true=>
  simp only[Ym] at h
  cases s with
  | nil=>cases h
  | cons c r=>
   simp only at h
   cases h1:decide (c=34) with
   | false=>rw[h1] at h;cases h
   | true=>
    rw[h1] at h;simp only[Ym] at h
    cases h2:CA b r with
    | none=>rw[h2] at h;cases h
    | some q=>
     obtain⟨k,w⟩:=q;have:=Nc b _ r k w rfl h2;rw[h2] at h;simp only at h
     cases h3:(b&&!B0 true last (some k)) with
     | true=>rw[h3] at h;cases h
     | false=>
      rw[h3] at h;simp only[Yj] at h
      cases w with
      | nil=>cases h
      | cons d w'=>
       simp only at h
       cases h4:decide (d=58) with
       | false=>rw[h4] at h;cases h
       | true=>rw[h4] at h;cases h;simp only[Yk];omega
theorem Ue (neg:Bool){d:Ah}(hd:d.all BM=true):Ci .i64 (IR neg d)=true:=by
 unfold IR
 cases ha:decide (18<d.length) with
 | true=>
  cases neg with
  | true=>exact(by decide:Ci .i64 (-2000000000000)=true)
  | false=>exact(by decide:Ci .i64 2000000000000=true)
 | false=>
  simp only[Yf] at ha;have hb:=V4 hd (by omega)
  cases neg with
  | true=>exact Kd (by simp only[Yj,Ym];omega) (by simp only[Yj,Ym];omega)
  | false=>exact Kd (by simp only[Yj];omega) (by simp only[Yj];omega)
theorem TE {m:Bool}{g:Fo}{K:Nat}(hg:∀c∈g.flat,Io K c)(hl:g.flat.length≤K):∀c∈(nd m g).flat,Io K c:=λc hc=>by
 rw[IA _ _ HF] at hc;have hcf:=CB g;rcases List.mem_cons.1 hc with rfl | hc
 ·exact⟨YE _,(by decide:Ci .i64 0=true),by show(g.cnt:Int)≤K;omega⟩
 ·exact hg c hc
theorem QQ {f r:Fo}{K:Nat}{key:Option Ah}(ho:f.one=true)(hf:∀c∈f.flat,Io K c)(hr:∀c∈r.flat,Io K c)(hk:∀t,key=some t→t.length≤K):∀c∈(f.put key r).flat,Io K c:=λc hc=>by
 rw[Er ho] at hc;rcases List.mem_append.1 hc with h | h
 ·cases key with
  | none=>cases h
  | some t=>
   have:c=⟨4,0,t,0⟩:=by simpa[BB] using h
   subst this;exact⟨hk t rfl,(by decide:Ci .i64 0=true),by show(0:Int)≤K;omega⟩
 ·rcases List.mem_append.1 h with h | h
  ·exact hf c h
  ·exact hr c h
theorem K5 (b:Bool)(K:Nat):∀F:Nat,(∀s f u,s.length≤K→E7 b F s=some (f,u)→∀c∈f.flat,Io K c)∧(∀m last s g u,s.length≤K→Dg b F m last s=some (g,u)→∀c∈g.flat,Io K c)
 | 0=>⟨(λs f u _ h=>by rw[E7.eq_def] at h;cases h),(λm last s g u _ h=>by rw[Dg.eq_def] at h;cases h)⟩
 | F+1=>by
  obtain⟨ih1,ih2⟩:=K5 b K F;have lfc:∀k i t,t.length≤K→Ci .i64 i=true→∀c∈(lf k i t).flat,Io K c:=λk i t ht hi c hc=>by
   have:c=⟨k,i,t,0⟩:=by simpa[lf,Fo.flat,BB] using hc
   subst this;exact⟨ht,hi,by show(0:Int)≤K;omega⟩
  constructor
  ·intro s f u hs h;rw[Df] at h
   cases h1:pre [110,117,108,108] s with
   | some r=>rw[h1] at h;cases h;exact lfc _ _ _ (YE _) (by decide)
   | none=>
   rw[h1] at h;simp only at h
   cases h2:pre [116,114,117,101] s with
   | some r=>rw[h2] at h;cases h;exact lfc _ _ _ (YE _) (by decide)
   | none=>
   rw[h2] at h;simp only at h
   cases h3:pre [102,97,108,115,101] s with
   | some r=>rw[h3] at h;cases h;exact lfc _ _ _ (YE _) (by decide)
   | none=>
   rw[h3] at h;simp only at h
   cases s with
   | nil=>cases h
   | cons c r=>
   simp only[Yk] at hs;simp only at h
   cases h4:decide (c=34) with
   | true=>
    rw[h4] at h;simp only[Ym] at h
    cases h5:CA b r with
    | none=>rw[h5] at h;cases h
    | some q=>
     obtain⟨t,w⟩:=q;rw[h5] at h;cases h;have:=Nc b _ r t u rfl h5;exact lfc _ _ _ (by omega) (by decide)
   | false=>
   rw[h4] at h;simp only[Yj] at h
   cases h5:(decide (c=91)||decide (c=123)) with
   | false=>
    rw[h5] at h;simp only[Yj] at h;unfold Hm at h;simp only at h
    cases hc:El (decide ((c::r).head? =some 45)) (Ct (bif decide ((c::r).head? =some 45) then(c::r).tail else c::r)).1 with
    | false=>rw[hc] at h;cases h
    | true=>
     rw[hc] at h;cases h;exact lfc 3 _ [] (YE _) (Ue _ (Kk _))
   | true=>
   rw[h5] at h;simp only[Ym] at h
   cases r with
   | nil=>cases h
   | cons d r'=>
   simp only at h
   cases h6:decide (d=BL (decide (c=123))) with
   | true=>rw[h6] at h;cases h;exact TE (λc hc=>by cases hc) (YE _)
   | false=>
   rw[h6] at h;simp only[Yj] at h
   cases h7:Dg b F (decide (c=123)) none (d::r') with
   | none=>rw[h7] at h;cases h
   | some q=>
    obtain⟨g,w⟩:=q;rw[h7] at h;cases h;have:=(Hj b F).2 _ _ _ _ _ h7;exact TE (ih2 _ _ _ _ _ (by omega) h7) (by omega)
  ·intro m last s g u hs h;rw[CT] at h
   cases h1:DZ b m last s with
   | none=>rw[h1] at h;cases h
   | some q=>
   obtain⟨key,s1⟩:=q;have l1:=Px h1;have hkt:∀t,key=some t→t.length≤K:=λt e=>by subst e;have:=So h1;omega
   rw[h1] at h;simp only at h
   cases h2:E7 b F s1 with
   | none=>rw[h2] at h;cases h
   | some q=>
   obtain⟨f,s2⟩:=q;obtain⟨l2,o2⟩:=(DT b F).1 _ _ _ h2;have hf:=ih1 _ _ _ (by omega) h2;rw[h2] at h;simp only at h
   cases s2 with
   | nil=>cases h
   | cons c s3=>
   simp only[Yk] at l2;simp only at h
   cases h3:decide (c=BL m) with
   | true=>rw[h3] at h;cases h;exact QQ o2 hf (λc hc=>by cases hc) hkt
   | false=>
   rw[h3] at h;simp only[Yj] at h
   cases h4:decide (c=44) with
   | false=>rw[h4] at h;cases h
   | true=>
   rw[h4] at h;simp only[Ym] at h
   cases h5:Dg b F m key s3 with
   | none=>rw[h5] at h;cases h
   | some q=>
    obtain⟨g',w⟩:=q;rw[h5] at h;cases h;exact QQ o2 hf (ih2 _ _ _ _ _ (by omega) h5) hkt
theorem Uq:∀l:List Ab,l.any BY=false→l.map C5=l
 | [],_=>rfl
 | c::l,h=>by
  simp only[List.any_cons,Yz] at h;simp only[YR,Uq l h.2,C5,h.1,Yj]
def KK (s:Ah):Option (List Ab×Int):=
 bif decide (4000<s.length) then some ([],3) else match E7 true 10000 s with
  | some (f,[])=>some (bif decide (Gw f=0) then(f.flat,0) else([],Gw f))
  | _=>some ([],1)
theorem MJ (s:Ah):Ao.mk s 0 [] false=CV s s [] false:=by simp[CV]
theorem Uu {f:Fo}(h:f.flat.any BY=true):Gw f=2:=by unfold Gw;rw[h];rfl
theorem ON {F:Nat}(hF:20000≤F){s:Ah}:J9 F s=KK s:=by
 unfold J9 KK;have a1:decide ((4000:Int)<(s.length:Int))=decide (4000<s.length):=by rw[Yx];simp;omega
 rw[a1]
 cases h4:decide (4000<s.length) with
 | true=>rfl
 | false=>
  simp only[Yf] at h4;rw[AH rfl,MJ];simp only[Yj];rcases PT (S:=s) (by omega) (F:=F) (P:=10000) (by omega) (by omega) with⟨f,w,q1,q2,q3⟩ | ⟨q1,q',q2⟩
  ·rw[q3,q1,Bf rfl,AH (p:=!true) rfl];obtain⟨_,hone⟩:=(DT true 10000).1 _ _ _ q1;have hwl:=q2.len;have hcells:=(K5 true 4000 10000).1 _ _ _ (by omega) q1;have hfl:=(Hj true 10000).1 _ _ _ q1;unfold E5;have hat:(true,CV s w ([]++f.flat.map C5) (false||f.flat.any BY)).2.fAt=(s.length:Int)-w.length:=rfl;rw[hat]
   cases w with
   | cons c w'=>
    have hd:decide ((s.length:Int)-(c::w').length=(s.length:Int))=false:=Yo (by simp only[Yk];omega);rw[hd];rfl
   | nil=>
    have hd:decide ((s.length:Int)-([]:Ah).length=(s.length:Int))=true:=Yr (by simp);rw[hd,AH (p:=!true) rfl]
    change _=some (bif decide (Gw f=0) then(f.flat,0) else([],Gw f))
    have hgr:(true,CV s [] ([]++f.flat.map C5) (false||f.flat.any BY)).2.fGreat=f.flat.any BY:=rfl;have hce:(true,CV s [] ([]++f.flat.map C5) (false||f.flat.any BY)).2.fCells=f.flat.map C5:=rfl;rw[hgr,hce]
    cases ho:f.flat.any BY with
    | true=>rw[Uu ho];rfl
    | false=>
     rw[AH rfl,Uq _ ho];have hA:Je 4000 f.flat:=⟨by decide,by omega,λc hc=>by obtain⟨c1,c2,c3⟩:=hcells c hc;exact⟨c1,c2,by omega⟩⟩
     have hwf:f.wf false none=true:=by
      have:=((NZ 10000).1 s).1;rw[q1] at this
      cases hp:E7 false 10000 s with
      | none=>rw[hp] at this;cases this
      | some q=>
       obtain⟨f',u'⟩:=q;rw[hp] at this;simp only at this
       cases hw:f'.wf false none with
       | false=>rw[hw] at this;cases this
       | true=>rw[hw] at this;cases this;exact hw
     have hev:HW f.flat=Gw f:=by unfold HW;rw[LG hone hwf]
     unfold JB;rw[Kw hA (by decide) (by omega),Bf rfl,hev]
     cases decide (Gw f=0)<;>rfl
  ·rw[q2,q1];rfl
theorem I6 {x:Nat}(h:x<10):(UInt8.ofNat (48+x)).toNat=48+x:=by simp;omega
theorem Nz {x:Nat}(h:x<10):BM (UInt8.ofNat (48+x))=true:=by
 unfold BM;rw[I6 h];simp;omega
theorem No (d:Ah)(c:UInt8)(a:Nat):Cr a (d++[c])=10*Cr a d+(c.toNat-48):=by simp[Cr]
theorem Om {u:Nat}(h:u<10):Lib.decDigits u=[UInt8.ofNat (48+u)]:=by rw[Lib.decDigits,dif_pos h]
theorem U5 {u:Nat}(h : ¬ u<10):Lib.decDigits u=Lib.decDigits (u/10)++[UInt8.ofNat (48+u % 10)]:=by
 rw[Lib.decDigits,dif_neg h]
theorem NA:∀u:Nat,(Lib.decDigits u).all BM=true∧Lib.decDigits u≠[]∧Cr 0 (Lib.decDigits u)=u∧((Lib.decDigits u).head? =some 48→u=0):=by
 intro u
 induction u using Nat.strongRecOn with
 | ind u ih=>
  by_cases h:u<10
  ·rw[Om h];refine⟨by simp only[YG,List.all_nil,Nz h,Bool.and_self],by simp,?_,?_⟩
   ·show 10*0+((UInt8.ofNat (48+u)).toNat-48)=u;rw[I6 h];omega
   ·intro e;simp only[List.head?_cons,Option.some.injEq] at e;have:=congrArg UInt8.toNat e;rw[I6 h] at this;have ha:(48:UInt8).toNat=48:=rfl;omega
  ·obtain⟨a,b,c,d⟩:=ih (u/10) (by omega);rw[U5 h];refine⟨by simp only[List.all_append,a,YG,List.all_nil,Nz (show u % 10<10 by omega),Bool.and_self],by simp,?_,?_⟩
   ·rw[No,c,I6 (by omega)];omega
   ·intro e
    cases hd:Lib.decDigits (u/10) with
    | nil=>exact absurd hd b
    | cons x r=>
     rw[hd] at e;have:=d (by rw[hd];simpa using e);omega
theorem M0:∀(n:Nat) (d:Ah),d.length=n→d.all BM=true→d≠[]→(d.head? =some 48→d.length=1)→Lib.decDigits (Cr 0 d)=d:=by
 intro n
 induction n with
 | zero=>intro d hn _ hne;exact absurd (YF hn) hne
 | succ n ih=>
  intro d hn ha hne hh;obtain⟨d',c,rfl⟩:∃d' c,d=d'++[c]:=⟨d.dropLast,d.getLast hne,(List.dropLast_concat_getLast hne).symm⟩
  rw[List.all_append] at ha;simp only[YG,List.all_nil,Y7,Yl] at ha;have hc:48≤c.toNat∧c.toNat≤57:=by have:=ha.2;simp[BM] at this;omega
  have ec:UInt8.ofNat (48+(c.toNat-48))=c:=by rw[show 48+(c.toNat-48)=c.toNat from by omega];simp
  rw[No]
  cases hd:d' with
  | nil=>
   show Lib.decDigits (10*0+(c.toNat-48))=[c];rw[Om (by omega),show 48+(10*0+(c.toNat-48))=48+(c.toNat-48) from by omega,ec]
  | cons x r=>
   rw[← hd];have hne':d'≠[]:=by rw[hd];simp
   have h1:d'.head?≠some 48:=λe=>by
    have:=hh (by rw[hd] at e ⊢;simpa using e);rw[hd] at this;simp at this
   have ih':=ih d' (by simp at hn;omega) ha.1 hne' (λe=>absurd e h1);have hpos:1≤Cr 0 d':=by
    rw[hd];show 1≤Cr (10*0+(x.toNat-48)) r;have hx:48≤x.toNat∧x.toNat≤57:=by have:=ha.1;rw[hd] at this;simp[BM] at this;omega
    have hx2:x.toNat≠48:=λe=>h1 (by rw[hd];simp;rw[← YZ];exact e);exact Nat.le_trans (by omega) (Hl r _)
   rw[U5 (by omega),show(10*Cr 0 d'+(c.toNat-48))/10=Cr 0 d' from by omega,show(10*Cr 0 d'+(c.toNat-48)) % 10=c.toNat-48 from by omega,ih',ec]
theorem Mz:∀(d w:Ah),d.all BM=true→(∀c r,w=c::r→BM c=false)→Ct (d++w)=(d,w)
 | [],w,_,hw=>by
  cases w with
  | nil=>rfl
  | cons c r=>simp[Ct,hw c r rfl]
 | c::d,w,ha,hw=>by
  simp only[YG,Yl] at ha;simp[Ct,ha.1,Mz d w ha.2 hw]
theorem Su {n:Int}{w:Ah}(h0 : -1000000000000≤n)(h1:n≤1000000000000)(hw:∀c r,w=c::r→BM c=false):Hm (Lib.itoa n++w)=some (.cell none ⟨3,n,[],0⟩ .nil,w):=by
 have key:∀(u:Nat) (neg:Bool),u≤1000000000000→(neg=true→1≤u)→Hm (ET neg (Lib.decDigits u)++w)=some (.cell none ⟨3,bif neg then -(u:Int) else u,[],0⟩ .nil,w):=λu neg hu hneg=>by
  obtain⟨a,b,c,d⟩:=NA u;have hl:(Lib.decDigits u).length≤18:=by
   cases hdd:Lib.decDigits u with
   | nil=>simp
   | cons x r=>
    by_cases ha:(x::r).length≤18
    ·exact ha
    ·exfalso;have hx:48≤x.toNat∧x.toNat≤57:=by rw[hdd] at a;simp[BM] at a;omega
     have hr:18≤r.length:=by simp only[Yk] at ha;omega
     by_cases hb:x=48
     ·have:=d (by rw[hdd,hb];rfl);subst this;have e0:Lib.decDigits 0=[UInt8.ofNat 48]:=Om (by omega);rw[e0] at hdd;cases hdd;simp at hr
     ·have hx2:x.toNat≠48:=λe=>hb (by rw[← YZ];exact e);rw[hdd] at c;have c':Cr (10*0+(x.toNat-48)) r=u:=c;have:=Pn r (10*0+(x.toNat-48)) (by omega);have h2:10 ^ 18≤10 ^ r.length:=Nat.pow_le_pow_right (by omega) hr;omega
  have hhead:∀(x:UInt8) (r:Ah),Lib.decDigits u=x::r→x≠45:=λx r e=>by
   rw[e] at a;intro e2;subst e2;simp[BM] at a
  have hcan:El neg (Lib.decDigits u)=true:=by
   unfold El;have e1:decide (Lib.decDigits u=[])=false:=Yo b;rw[e1]
   by_cases hh:(Lib.decDigits u).head? =some 48
   ·have hu0:=d hh;subst hu0;have:neg=false:=by cases neg with
     | false=>rfl
     | true=>have:=hneg rfl;omega
    subst this;rw[Om (by omega)];rfl
   ·rw[Yo hh];rfl
  have hv:IR neg (Lib.decDigits u)=bif neg then -(u:Int) else u:=by
   have hn:MQ (Lib.decDigits u)=(u:Int):=by
    have:=Ii (Lib.decDigits u) 0 a;rw[c] at this;exact this
   unfold IR;rw[Yo (by omega),hn];rfl
  unfold Hm ET
  cases neg with
  | true=>
   have e1:decide ((45::(Lib.decDigits u++w)).head? =some 45)=true:=rfl;simp only[Ym,YS,e1,List.tail_cons,Mz _ _ a hw,hcan,hv]
  | false=>
   have e1:decide ((((bif false then 45::Lib.decDigits u else Lib.decDigits u)++w).head?)=some 45)=false:=by
    cases hdd:Lib.decDigits u with
    | nil=>exact absurd hdd b
    | cons x r=>simp[hhead x r hdd]
   simp only[Yj] at e1;simp only[Yj,e1,Mz _ _ a hw,hcan,hv,Ym]
 by_cases hneg:n<0
 ·have e:Lib.itoa n=ET true (Lib.decDigits n.natAbs):=by
   have:=Lib.itoa_neg n.natAbs (by omega);rw[show -(n.natAbs:Int)=n from by omega] at this;rw[this];rfl
  have:=key n.natAbs true (by omega) (λ_=>by omega);rw[e,this];show some (Fo.cell none ⟨3,-(n.natAbs:Int),[],0⟩ .nil,w)=_;rw[show -(n.natAbs:Int)=n from by omega]
 ·have e:Lib.itoa n=ET false (Lib.decDigits n.natAbs):=by
   have:=Lib.itoa_nonneg n.natAbs;rw[show(n.natAbs:Int)=n from by omega] at this;rw[this];rfl
  have:=key n.natAbs false (by omega) (λh=>by cases h);rw[e,this];show some (Fo.cell none ⟨3,(n.natAbs:Int),[],0⟩ .nil,w)=_;rw[show(n.natAbs:Int)=n from by omega]
theorem Sv {s u:Ah}{f:Fo}(h:Hm s=some (f,u)):∃n,f = .cell none ⟨3,n,[],0⟩ .nil∧(BY ⟨3,n,[],0⟩=false→s=Lib.itoa n++u):=by
 unfold Hm at h;simp only at h;have key:∀(neg:Bool) (r:Ah),s=(bif neg then 45::r else r)→El neg (Ct r).1=true→BY ⟨3,IR neg (Ct r).1,[],0⟩=false→s=Lib.itoa (IR neg (Ct r).1)++(Ct r).2:=λneg r es hcan hout=>by
  have hd:=Kk r;have he:=LA r;generalize(Ct r).1=d at *;generalize(Ct r).2=w at *;unfold El at hcan;simp only[Yl,Yy,Yf] at hcan;obtain⟨hne,hz⟩:=hcan;have hl:d.length≤18:=by
   by_cases ha:d.length≤18
   ·exact ha
   ·exfalso;unfold IR at hout;rw[Yr (by omega)] at hout
    cases neg<;>simp[BY] at hout
  have hn:IR neg d=bif neg then -(Cr 0 d:Int) else(Cr 0 d:Int):=by
   have:=Ii d 0 hd;unfold IR;rw[Yo (by omega)];show(bif neg then -(MQ d) else MQ d)=_;rw[show MQ d=(Cr 0 d:Int) from this]
  have hback:=M0 d.length d rfl hd hne (λe=>by
   cases h1:decide (1<d.length) with
   | true=>rw[Yr e,h1] at hz;simp at hz
   | false=>
    simp only[Yf] at h1
    cases d with
    | nil=>exact absurd rfl hne
    | cons x y=>simp only[Yk] at h1 ⊢;omega)
  rw[hn]
  cases neg with
  | true=>
   have hpos:1≤Cr 0 d:=by
    cases d with
    | nil=>exact absurd rfl hne
    | cons x y=>
     have hx:48≤x.toNat∧x.toNat≤57:=by simp[BM] at hd;omega
     have hx2:x.toNat≠48:=λe=>by
      have:x=48:=by rw[← YZ];exact e
      rw[this] at hz;simp at hz
     show 1≤Cr (10*0+(x.toNat-48)) y;exact Nat.le_trans (by omega) (Hl y _)
   have:=Lib.itoa_neg (Cr 0 d) hpos;simp only[Ym] at es ⊢;rw[this,hback,es,YS,← he]
  | false=>
   have:=Lib.itoa_nonneg (Cr 0 d);simp only[Yj] at es ⊢;rw[this,hback,es,← he]
 cases hneg:decide (s.head? =some 45) with
 | true=>
  rw[hneg] at h;simp only[Ym] at h
  cases hcan:El true (Ct s.tail).1 with
  | false=>rw[hcan] at h;cases h
  | true=>
   rw[hcan] at h;simp only[Ym,Option.some.injEq,Prod.mk.injEq] at h;obtain⟨rfl,rfl⟩:=h;refine⟨_,rfl,λhout=>key true s.tail ?_ hcan hout⟩
   cases s with
   | nil=>simp at hneg
   | cons c r=>
    simp at hneg;subst hneg;rfl
 | false=>
  rw[hneg] at h;simp only[Yj] at h
  cases hcan:El false (Ct s).1 with
  | false=>rw[hcan] at h;cases h
  | true=>
   rw[hcan] at h;simp only[Ym,Option.some.injEq,Prod.mk.injEq] at h;obtain⟨rfl,rfl⟩:=h;exact⟨_,rfl,λhout=>key false s rfl hcan hout⟩
theorem LQ:∀(s w:Ah),s.all IQ=true→CA true (En s++34::w)=some (s,w)
 | [],w,_=>by
  show CA true (34::w)=_;rw[Dl];rfl
 | c::s,w,ha=>by
  simp only[YG,Yl] at ha;have ih:=LQ s w ha.2;have e:En (c::s)=(bif (decide (c=34)||decide (c=92)) then[92,c] else[c])++En s:=by simp[En]
  rw[e]
  cases hq:(decide (c=34)||decide (c=92)) with
  | true=>
   simp only[Ym,YS,YU];rw[Dl,show decide ((92:UInt8)=34)=false from by decide,show(true&&!IQ 92)=false from by decide,show decide ((92:UInt8)=92)=true from by decide];simp only[Yj,Ym,hq,ih]
  | false=>
   simp only[Yj,YS,YU];simp only[Yz] at hq;rw[Dl,hq.1,ha.1,hq.2];simp only[Ys,YA,Yj,ih]
theorem Nd:∀(n:Nat) (s t u:Ah),s.length=n→CA true s=some (t,u)→s=En t++34::u:=by
 intro n
 induction n using Nat.strongRecOn with
 | ind n ih=>
  intro s t u hn h
  cases s with
  | nil=>cases h
  | cons c r=>
   simp only[Yk] at hn;rw[Dl] at h
   cases h1:decide (c=34) with
   | true=>
    rw[h1] at h;cases h;rw[Y4 h1];rfl
   | false=>
    rw[h1] at h;simp only[Yj] at h
    cases h2:(true&&!IQ c) with
    | true=>rw[h2] at h;cases h
    | false=>
     rw[h2] at h;simp only[Yj] at h
     cases h3:decide (c=92) with
     | true=>
      rw[h3] at h
      cases r with
      | nil=>cases h
      | cons d r'=>
       simp only[Ym] at h
       cases h4:(decide (d=34)||decide (d=92)) with
       | false=>rw[h4] at h;cases h
       | true=>
        rw[h4] at h;simp only[Ym] at h
        cases h5:CA true r' with
        | none=>rw[h5] at h;cases h
        | some q=>
         obtain⟨t',u'⟩:=q;rw[h5] at h;cases h;simp only[Yk] at hn;have:=ih r'.length (by omega) r' t' u rfl h5;rw[Y4 h3,this];simp[En,h4]
     | false=>
      rw[h3] at h;simp only[Yj] at h
      cases h5:CA true r with
      | none=>rw[h5] at h;cases h
      | some q=>
       obtain⟨t',u'⟩:=q;rw[h5] at h;cases h;have:=ih r.length (by omega) r t' u rfl h5;rw[this];simp only[Yf] at h1 h3;simp[En,h1,h3]
theorem I4 {f:Fo}(h:f.one=true)(key:Option Ah)(r:Fo)(b:Bool):(f.put key r).txt b=De b++(Hw key++(f.txt true++r.txt false)):=by
 cases f with
 | nil=>cases h
 | cell k c s=>cases k with
  | some _=>cases h
  | none=>cases s with
   | nil=>simp[Fo.put,Fo.txt,De,Hw]
   | _=>cases h
 | node k c kids s=>cases k with
  | some _=>cases h
  | none=>cases s with
   | nil=>simp[Fo.put,Fo.txt,De,Hw]
   | _=>cases h
theorem NV {f:Fo}(h:f.one=true)(key:Option Ah)(r:Fo):(f.put key r).flat.any BY=(f.flat.any BY||r.flat.any BY):=by
 rw[Er h,List.any_append,List.any_append,Mt,Y0]
theorem QA {m:Bool}{last:Option Ah}{g:Fo}(hw:g.wf m last=true):g = .nil∨∃ (k:Option Ah) (f r:Fo),g=f.put k r∧f.one=true∧f.wf false none=true∧B0 m last k=true∧r.wf m k=true:=by
 cases g with
 | nil=>exact .inl rfl
 | cell k c r=>
  simp only[Fo.wf,Yl,Yy] at hw;obtain⟨⟨⟨w1,w2⟩,w3⟩,w4⟩:=hw;exact .inr ⟨k,.cell none c .nil,r,rfl,rfl,QG w2 w3,w1,w4⟩
 | node k c kids r=>
  simp only[Fo.wf,Yl,Yg] at hw;obtain⟨⟨⟨⟨⟨w1,w2⟩,w3⟩,w5⟩,w6⟩,w4⟩:=hw;exact .inr ⟨k,.node none c kids .nil,r,rfl,rfl,QF w2 w3 w5 w6,w1,w4⟩
theorem Tf {m:Bool}{last:Option Ah}{g:Fo}(hw:g.wf m last=true)(hn:g≠.nil):g.txt false=44::g.txt true:=by
 rcases QA hw with h | ⟨k,f,r,rfl,h1,_⟩
 ·exact absurd h hn
 ·rw[I4 h1,I4 h1];rfl
theorem Uc {m:Bool}{last k:Option Ah}{w:Ah}(h:B0 m last k=true):DZ true m last (Hw k++w)=some (k,w):=by
 cases k with
 | none=>
  have:m=false:=by simpa[B0] using h
  subst this;rfl
 | some s=>
  have h':=h;simp only[B0,Yl] at h;obtain⟨⟨h1,h2⟩,h3⟩:=h;subst h1;have e:Hw (some s)++w=34::(En s++34::(58::w)):=by simp[Hw,EV]
  rw[e];unfold DZ;simp only[Ym,decide_true,LQ s (58::w) h2,h',Ys,YA,Yj]
theorem Nx {m:Bool}{last k:Option Ah}{s w:Ah}(h:DZ true m last s=some (k,w)):s=Hw k++w:=by
 unfold DZ at h
 cases m with
 | false=>cases h;rfl
 | true=>
  simp only[Ym] at h
  cases s with
  | nil=>cases h
  | cons c r=>
   simp only at h
   cases h1:decide (c=34) with
   | false=>rw[h1] at h;cases h
   | true=>
    rw[h1] at h;simp only[Ym] at h
    cases h2:CA true r with
    | none=>rw[h2] at h;cases h
    | some q=>
     obtain⟨t,u⟩:=q;have:=Nd _ r t u rfl h2;rw[h2] at h;simp only at h
     cases h3:(true&&!B0 true last (some t)) with
     | true=>rw[h3] at h;cases h
     | false=>
      rw[h3] at h;simp only[Yj] at h
      cases u with
      | nil=>cases h
      | cons d u'=>
       simp only at h
       cases h4:decide (d=58) with
       | false=>rw[h4] at h;cases h
       | true=>
        rw[h4] at h;cases h;rw[Y4 h1,this,Y4 h4];simp[Hw,EV]
def Xd (c:UInt8):Prop:=c=110∨c=116∨c=102∨c=34∨c=91∨c=123∨c=45∨BM c=true
theorem Nl {c:UInt8}(h:Xd c)(m:Bool):decide (c=BL m)=false:=by
 refine Yo λe=>?_;subst e
 cases m<;>revert h<;>unfold Xd BM BL<;>decide
theorem Ny (n:Int):∃c r,Lib.itoa n=c::r∧(c=45∨BM c=true):=by
 obtain⟨a,b,_,_⟩:=NA n.natAbs
 by_cases hneg:n<0
 ·have:=Lib.itoa_neg n.natAbs (by omega);rw[show -(n.natAbs:Int)=n from by omega] at this;exact⟨45,_,this,.inl rfl⟩
 ·have:=Lib.itoa_nonneg n.natAbs;rw[show(n.natAbs:Int)=n from by omega] at this
  cases hd:Lib.decDigits n.natAbs with
  | nil=>exact absurd hd b
  | cons x r=>
   rw[hd] at a;simp only[YG,Yl] at a;exact⟨x,r,by rw[this,hd],.inr a.1⟩
theorem Qx {c:Ab}:∃x r,DF c=x::r∧Xd x:=by
 unfold DF
 cases decide (c.fKind=1) with
 | true=>exact⟨_,_,rfl,.inl rfl⟩
 | false=>
 cases decide (c.fKind=2) with
 | true=>cases decide (c.fInt=1) with
  | true=>exact⟨_,_,rfl,.inr (.inl rfl)⟩
  | false=>exact⟨_,_,rfl,.inr (.inr (.inl rfl))⟩
 | false=>
 cases decide (c.fKind=3) with
 | true=>
  obtain⟨x,r,e,h⟩:=Ny c.fInt;exact⟨x,r,e,by unfold Xd;rcases h with h | h<;>simp[h]⟩
 | false=>
 cases decide (c.fKind=4) with
 | true=>exact⟨_,_,rfl,.inr (.inr (.inr (.inl rfl)))⟩
 | false=>cases decide (c.fKind=6) with
  | true=>exact⟨_,_,rfl,.inr (.inr (.inr (.inr (.inr (.inl rfl)))))⟩
  | false=>exact⟨_,_,rfl,.inr (.inr (.inr (.inr (.inl rfl))))⟩
theorem T4 {f:Fo}(h:f.one=true):∃x r,f.txt true=x::r∧Xd x:=by
 cases f with
 | nil=>cases h
 | cell k c s=>cases k with
  | some _=>cases h
  | none=>cases s with
   | nil=>
    obtain⟨x,r,e,ho⟩:=Qx (c:=c);exact⟨x,r,by simp[Fo.txt,De,Hw,e],ho⟩
   | _=>cases h
 | node k c kids s=>cases k with
  | some _=>cases h
  | none=>cases s with
   | nil=>
    simp only[Fo.txt,De,Hw,Ym,YU,YV];unfold PE
    cases decide (c.fKind=6) with
    | true=>exact⟨_,_,rfl,.inr (.inr (.inr (.inr (.inr (.inl rfl)))))⟩
    | false=>exact⟨_,_,rfl,.inr (.inr (.inr (.inr (.inl rfl))))⟩
   | _=>cases h
theorem Tg {m:Bool}{last:Option Ah}{g:Fo}(hw:g.wf m last=true)(hn:g≠.nil):∃x r,g.txt true=x::r∧Xd x:=by
 rcases QA hw with h | ⟨k,f,r,rfl,h1,_⟩
 ·exact absurd h hn
 ·rw[I4 h1]
  cases k with
  | none=>
   obtain⟨x,y,e,ho⟩:=T4 h1;exact⟨x,y++r.txt false,by simp[De,Hw,e],ho⟩
  | some s=>exact⟨34,_,by simp[De,Hw,EV];rfl,.inr (.inr (.inr (.inl rfl)))⟩
theorem Qe {a b:UInt8}{x y:Ah}(h:a≠b):pre (a::x) (b::y)=none:=by
 rw[pre,Yo h];rfl
theorem I5 {F:Nat}{c:UInt8}{r:Ah}(h1:c≠110)(h2:c≠116)(h3:c≠102):E7 true (F+1) (c::r) =
  bif decide (c=34) then(match CA true r with
   | none=>none
   | some (t,u)=>some (lf 4 0 t,u)) else
  bif decide (c=91)||decide (c=123) then(match r with
   | []=>none
   | d::r'=>bif decide (d=BL (decide (c=123))) then some (nd (decide (c=123)) .nil,r') else(match Dg true F (decide (c=123)) none (d::r') with
    | none=>none
    | some (g,u)=>some (nd (decide (c=123)) g,u))) else
  Hm (c::r):=by
 rw[Df,Qe (Ne.symm h1),Qe (Ne.symm h2),Qe (Ne.symm h3)];rfl
theorem T2 {F:Nat}{c:Ab}{w:Ah}(hp:pl c=true)(hn:decide (0<c.fN)=false)(ho:BY c=false)(hw:∀x r,w=x::r→BM x=false):E7 true (F+1) (DF c++w)=some (.cell none c .nil,w):=by
 have hN:=Tz hp;have h0:c.fN=0:=by simp only[Yf] at hn;omega
 cases c with
 | mk k n s N=>
 simp only at h0;subst h0;unfold DF
 by_cases k1:k=1
 ·subst k1;simp[pl] at hp;obtain⟨rfl,rfl⟩:=hp;show E7 true (F+1) ([110,117,108,108]++w)=_;rw[Df,JM];rfl
 by_cases k2:k=2
 ·subst k2;simp[pl] at hp;obtain⟨hb,rfl⟩:=hp;rcases hb with rfl | rfl
  ·show E7 true (F+1) ([102,97,108,115,101]++w)=_;rw[Df,JM];rfl
  ·show E7 true (F+1) ([116,114,117,101]++w)=_;rw[Df,JM];rfl
 by_cases k3:k=3
 ·subst k3;simp[pl] at hp;subst hp;show E7 true (F+1) (Lib.itoa n++w)=_;obtain⟨x,r,e,hx⟩:=Ny n;have hx2:45≤x.toNat∧x.toNat≤57:=by
   rcases hx with rfl | hx
   ·decide
   ·simp[BM] at hx;omega
  have hne:∀y:UInt8,57<y.toNat∨y.toNat<45→x≠y:=λy hy e=>by subst e;omega
  rw[e,YS,I5 (hne 110 (by decide)) (hne 116 (by decide)) (hne 102 (by decide)),Yo (hne 34 (by decide)),Yo (hne 91 (by decide)),Yo (hne 123 (by decide))];simp only[Bool.or_self,Yj];rw[← YS,← e];simp[BY] at ho;exact Su (by omega) (by omega) hw
 by_cases k4:k=4
 ·subst k4;simp[pl] at hp;obtain⟨rfl,hs⟩:=hp;have e:(bif decide ((4:Int)=1) then([110,117,108,108]:Ah) else bif decide ((4:Int)=2) then(bif decide ((0:Int)=1) then[116,114,117,101] else[102,97,108,115,101]) else bif decide ((4:Int)=3) then Lib.itoa 0 else bif decide ((4:Int)=4) then EV s else bif decide ((4:Int)=6) then[123,125] else[91,93])=EV s:=rfl;show E7 true (F+1) (EV s++w)=_;have e2:EV s++w=34::(En s++34::w):=by simp[EV]
  rw[e2,I5 (by decide) (by decide) (by decide),Yr rfl];simp only[Ym];rw[LQ s w (by rw[YD];exact hs)];rfl
 by_cases k5:k=5
 ·subst k5;simp[pl] at hp;obtain⟨rfl,rfl⟩:=hp;show E7 true (F+1) (91::93::w)=_;rw[I5 (by decide) (by decide) (by decide)];rfl
 by_cases k6:k=6
 ·subst k6;simp[pl] at hp;obtain⟨rfl,rfl⟩:=hp;show E7 true (F+1) (123::125::w)=_;rw[I5 (by decide) (by decide) (by decide)];rfl
 exfalso;simp[pl,k1,k2,k3,k4,k5,k6] at hp
theorem S6 (m:Bool):BM (BL m)=false:=by cases m<;>decide
theorem Vp:∀n:Nat,(∀f:Fo,f.flat.length=n→f.one=true→f.wf false none=true→f.flat.any BY=false→∀(F:Nat) (w:Ah),2*n≤F→(∀x r,w=x::r→BM x=false)→E7 true F (f.txt true++w)=some (f,w))∧
  (∀(g:Fo) (m:Bool) (last:Option Ah),g.flat.length=n→g≠.nil→g.wf m last=true→g.flat.any BY=false→∀(F:Nat) (w:Ah),2*n+1≤F→Dg true F m last (g.txt true++BL m::w)=some (g,w)):=by
 intro n
 induction n using Nat.strongRecOn with
 | ind n ih=>
  have hP:∀f:Fo,f.flat.length=n→f.one=true→f.wf false none=true→f.flat.any BY=false→∀(F:Nat) (w:Ah),2*n≤F→(∀x r,w=x::r→BM x=false)→E7 true F (f.txt true++w)=some (f,w):=by
   intro f hn h1 hw ho F w hF hd;have hl:=JP h1;obtain⟨F,rfl⟩:∃K,F=K+1:=⟨F-1,by omega⟩
   cases f with
   | nil=>cases h1
   | cell k c s=>cases k with
    | some _=>cases h1
    | none=>cases s with
     | nil=>
      simp only[Fo.wf,Yl,Yy] at hw;simp[Fo.flat,BB] at ho;have e:(Fo.cell none c .nil).txt true=DF c:=by simp[Fo.txt,De,Hw]
      rw[e];exact T2 hw.1.1.2 hw.1.2 ho hd
     | _=>cases h1
   | node k c kids s=>cases k with
    | some _=>cases h1
    | none=>cases s with
     | nil=>
      simp only[Fo.wf,Yl,Yg] at hw;obtain⟨⟨⟨⟨⟨w1,w2⟩,w3⟩,w5⟩,w6⟩,w4⟩:=hw;have hfl:(Fo.node none c kids .nil).flat=c::kids.flat:=by simp[Fo.flat,BB]
      rw[hfl] at hn ho;simp only[Yk] at hn;simp only[List.any_cons,Yz] at ho;have hne:kids≠.nil:=λe=>by subst e;simp[Fo.cnt] at w5;omega
      obtain⟨x,r,ex,hx⟩:=Tg w6 hne;obtain⟨ha,hi,hs⟩:=L4 w2 w3;have e:(Fo.node none c kids .nil).txt true=PE c (kids.txt true):=by simp[Fo.txt,De,Hw]
      have ih2:=(ih kids.flat.length (by omega)).2 kids (decide (c.fKind=6)) none rfl hne w6 ho.2 F w (by omega);have hnd:nd (decide (c.fKind=6)) kids = .node none c kids .nil:=by
       unfold nd;rw[Yo (by omega)]
       cases c with
       | mk a1 a2 a3 a4=>
        simp only at ha hi hs w5 ⊢;subst hi;subst hs;subst w5;rcases ha with rfl | rfl<;>rfl
      rw[e];unfold PE
      cases hm:decide (c.fKind=6) with
      | true=>
       rw[hm] at ih2 hnd;have e3:(bif true then 123::(kids.txt true++[125]) else 91::(kids.txt true++[93]))++w=(bif true then(123:UInt8) else 91)::(x::(r++125::w)):=by simp[ex]
       have ih3:Dg true F true none (x::(r++125::w))=some (kids,w):=by rw[ex] at ih2;exact ih2
       rw[e3,Qg,IO,Nl hx true,Yj,ih3];show some (nd true kids,w)=_;rw[hnd]
      | false=>
       rw[hm] at ih2 hnd;have e3:(bif false then 123::(kids.txt true++[125]) else 91::(kids.txt true++[93]))++w=(bif false then(123:UInt8) else 91)::(x::(r++93::w)):=by simp[ex]
       have ih3:Dg true F false none (x::(r++93::w))=some (kids,w):=by rw[ex] at ih2;exact ih2
       rw[e3,Qg,IO,Nl hx false,Yj,ih3];show some (nd false kids,w)=_;rw[hnd]
     | _=>cases h1
  refine⟨hP,?_⟩;intro g m last hn hne hw ho F w hF;rcases QA hw with h | ⟨k,f,r,rfl,h1,h2,h3,h4⟩
  ·exact absurd h hne
  obtain⟨F,rfl⟩:∃K,F=K+1:=⟨F-1,by omega⟩
  have hl:=JP h1;rw[Er h1,Yn,Yn] at hn;rw[NV h1,Yz] at ho;rw[I4 h1,CT];have e:(De true++(Hw k++(f.txt true++r.txt false)))++BL m::w=Hw k++(f.txt true++(r.txt false++BL m::w)):=by simp[De]
  rw[e,Uc h3];simp only;have hpar:∀v:Ah,(∀x y,v=x::y→BM x=false)→E7 true F (f.txt true++v)=some (f,v):=λv hv=>by
   rcases Nat.lt_or_ge f.flat.length n with hlt | hge
   ·exact(ih f.flat.length hlt).1 f rfl h1 h2 ho.1 F v (by omega) hv
   ·exact hP f (by omega) h1 h2 ho.1 F v (by omega) hv
  by_cases hr:r = .nil
  ·subst hr;rw[hpar _ (λx y e=>by simp[Fo.txt] at e;rw[← e.1];exact S6 m)];simp[Fo.txt]
  ·rw[Tf h4 hr,YS,hpar _ (λx y e=>by cases e;decide)];simp only;have hb:decide ((44:UInt8)=BL m)=false:=by cases m<;>decide
   have:=(ih r.flat.length (by omega)).2 r m k rfl hr h4 ho.2 F w (by omega);rw[hb,this];rfl
theorem Pa:∀F:Nat,(∀s f u,E7 true F s=some (f,u)→f.flat.any BY=false→s=f.txt true++u)∧(∀m last s g u,Dg true F m last s=some (g,u)→g.flat.any BY=false→s=g.txt true++BL m::u)
 | 0=>⟨(λs f u h=>by rw[E7.eq_def] at h;cases h),(λm last s g u h=>by rw[Dg.eq_def] at h;cases h)⟩
 | F+1=>by
  obtain⟨ih1,ih2⟩:=Pa F;obtain⟨pl1,pl2⟩:=DT true F;constructor
  ·intro s f u h ho;rw[Df] at h
   cases h1:pre [110,117,108,108] s with
   | some r=>rw[h1] at h;cases h;rw[Dc h1];rfl
   | none=>
   rw[h1] at h;simp only at h
   cases h2:pre [116,114,117,101] s with
   | some r=>rw[h2] at h;cases h;rw[Dc h2];rfl
   | none=>
   rw[h2] at h;simp only at h
   cases h3:pre [102,97,108,115,101] s with
   | some r=>rw[h3] at h;cases h;rw[Dc h3];rfl
   | none=>
   rw[h3] at h;simp only at h
   cases s with
   | nil=>cases h
   | cons c r=>
    simp only at h
    cases h4:decide (c=34) with
    | true=>
     rw[h4] at h;simp only[Ym] at h
     cases h5:CA true r with
     | none=>rw[h5] at h;cases h
     | some q=>
      obtain⟨t,u'⟩:=q;rw[h5] at h;cases h;rw[Y4 h4,Nd _ r t _ rfl h5];simp[lf,Fo.txt,De,Hw,DF,EV]
    | false=>
    rw[h4] at h;simp only[Yj] at h
    cases h5:(decide (c=91)||decide (c=123)) with
    | true=>
     rw[h5] at h;simp only[Ym] at h;have hopen:∀x:Ah,(c::x)=(bif decide (c=123) then(123:UInt8) else 91)::x:=λx=>by
      cases h6:decide (c=123) with
      | true=>rw[Y4 h6];rfl
      | false=>rw[h6,YB] at h5;rw[Y4 h5];rfl
     rw[hopen];generalize decide (c=123)=m at *
     cases r with
     | nil=>cases h
     | cons d r'=>
      simp only at h
      cases h6:decide (d=BL m) with
      | true=>
       rw[h6] at h;cases h;rw[Y4 h6]
       cases m<;>simp[nd,Fo.cnt,Fo.txt,De,Hw,DF,BL]
      | false=>
       rw[h6] at h;simp only[Yj] at h
       cases h7:Dg true F m none (d::r') with
       | none=>rw[h7] at h;cases h
       | some q=>
        obtain⟨g,u'⟩:=q;rw[h7] at h;cases h;have hc:=(pl2 _ _ _ _ _ h7).2;rw[IA _ _ HF,List.any_cons,Yz] at ho;rw[ih2 _ _ _ _ _ h7 ho.2];unfold nd;rw[Yo (by omega)]
        cases m<;>simp[Fo.txt,De,Hw,PE,BL]
    | false=>
     rw[h5] at h;simp only[Yj] at h;obtain⟨n,rfl,hb⟩:=Sv h;have ho':BY ⟨3,n,[],0⟩=false:=by simpa[Fo.flat,BB] using ho
     rw[hb ho'];simp[Fo.txt,De,Hw,DF]
  ·intro m last s g u h ho;rw[CT] at h
   cases h1:DZ true m last s with
   | none=>rw[h1] at h;cases h
   | some q=>
    obtain⟨key,s1⟩:=q;rw[h1] at h;simp only at h
    cases h2:E7 true F s1 with
    | none=>rw[h2] at h;cases h
    | some q=>
     obtain⟨f,s2⟩:=q;have hone:=(pl1 _ _ _ h2).2;rw[h2] at h;simp only at h
     cases s2 with
     | nil=>cases h
     | cons c s3=>
      simp only at h
      cases h3:decide (c=BL m) with
      | true=>
       rw[h3] at h;cases h;rw[NV hone,Yz] at ho;rw[Nx h1,ih1 _ _ _ h2 ho.1,I4 hone,Y4 h3];simp[De,Fo.txt]
      | false=>
       rw[h3] at h;simp only[Yj] at h
       cases h4:decide (c=44) with
       | false=>rw[h4] at h;cases h
       | true=>
        rw[h4] at h;simp only[Ym] at h
        cases h5:Dg true F m key s3 with
        | none=>rw[h5] at h;cases h
        | some q=>
         obtain⟨g',w⟩:=q;rw[h5] at h;cases h;have hc:=(pl2 _ _ _ _ _ h5).2;rw[NV hone,Yz] at ho;have e5:=ih2 _ _ _ _ _ h5 ho.2;have e6:g'.txt false=44::g'.txt true:=by
          cases g' with
          | nil=>simp[Fo.cnt] at hc
          | cell k c r=>simp[Fo.txt,De]
          | node k c kids r=>simp[Fo.txt,De]
         rw[Nx h1,ih1 _ _ _ h2 ho.1,I4 hone,Y4 h4,e5,e6];simp[De]
open Go Go.RowKit
theorem P4 {f:Fo}(h:Gw f=0):f.flat.any BY=false∧f.flat.any Nv=false∧f.flat.length≤200∧f.dep≤8∧(f.txt true).length≤4000:=by
 unfold Gw at h
 cases h1:f.flat.any BY with
 | true=>rw[h1] at h;cases h
 | false=>
  rw[h1] at h
  cases h2:(f.flat.any Nv||(decide (200<f.flat.length)||(decide (8<f.dep)||decide (4000<(f.txt true).length)))) with
  | true=>rw[h2] at h;cases h
  | false=>
   simp only[Yz,Yf] at h2;exact⟨rfl,h2.1,by omega,by omega,by omega⟩
theorem VQ {f:Fo}(h1:f.one=true)(hw:f.wf false none=true)(he:Gw f=0):HW f.flat=0:=by
 unfold HW;rw[LG h1 hw];exact he
theorem W8 {F:Nat}{s u:Ah}{f:Fo}(h:E7 true F s=some (f,u)):f.wf false none=true:=by
 have:=((NZ F).1 s).1;rw[h] at this
 cases h2:E7 false F s with
 | none=>rw[h2] at this;cases this
 | some q=>
  obtain⟨g,w⟩:=q;rw[h2] at this;simp only at this
  cases hw:g.wf false none with
  | true=>rw[hw] at this;cases this;exact hw
  | false=>rw[hw] at this;cases this
theorem VR {v:List Ab}(h:(IS v).2=0):KK (IS v).1=some (v,0):=by
 unfold IS at h ⊢
 cases hw:whole v with
 | none=>rw[hw] at h;cases h
 | some f=>
  rw[hw] at h;simp only at h
  cases he:decide (Gw f=0) with
  | false=>rw[he] at h;exact absurd h (of_decide_eq_false he)
  | true=>
   obtain⟨x1,x2,x3⟩:=LF hw;obtain⟨h1,h2,h3,h4,h5⟩:=P4 (Y4 he);have hp:=(Vp f.flat.length).1 f rfl x3 x2 h1 10000 [] (by omega) (λx r e=>by cases e);rw[YV] at hp;simp only[he];show KK (f.txt true)=_;unfold KK;rw[Yo (by omega),Yj,hp];simp only;rw[he,x1];rfl
theorem Rq {s:Ah}{r:List Ab×Int}(h:KK s=some r)(h0:r.2=0):Je 4000 r.1∧IS r.1=(s,0)∧HW r.1=0:=by
 unfold KK at h
 cases h4:decide (4000<s.length) with
 | true=>rw[h4] at h;cases h;cases h0
 | false=>
  rw[h4] at h;simp only[Yf] at h4;simp only[Yj] at h
  cases hp:E7 true 10000 s with
  | none=>rw[hp] at h;cases h;cases h0
  | some q=>
   obtain⟨f,w⟩:=q;rw[hp] at h
   cases w with
   | cons _ _=>cases h;cases h0
   | nil=>
    simp only[Option.some.injEq] at h;subst h
    cases he:decide (Gw f=0) with
    | false=>rw[he] at h0;exact absurd h0 (of_decide_eq_false he)
    | true=>
     have hf:=Y4 he;have hw:=W8 hp;have hone:=((DT true 10000).1 _ _ _ hp).2;have hcells:=(K5 true 4000 10000).1 _ _ _ (by omega) hp;have hfl:=(Hj true 10000).1 _ _ _ hp;obtain⟨h1,h2,h3,_⟩:=P4 hf;have hb:=(Pa 10000).1 _ _ _ hp h1;rw[YV] at hb;refine⟨⟨by decide,by show f.flat.length≤4000;omega,λc hc=>?_⟩,?_,VQ hone hw hf⟩
     ·obtain⟨a,b,c'⟩:=hcells c hc;exact⟨a,b,by omega⟩
     ·show IS f.flat=_;unfold IS;rw[LG hone hw];simp only;rw[he,hb];rfl
theorem S5 (s:Ah):∃r,KK s=some r:=by
 unfold KK
 cases decide (4000<s.length) with
 | true=>exact⟨_,rfl⟩
 | false=>
  simp only[Yj]
  split<;>exact⟨_,rfl⟩
theorem OP {α:Type}{a b:List α}{n:Nat}(h:a.take n=b.take n)(h1:a.length≤n)(h2:b.length≤n):a=b:=by
 rw[List.take_of_length_le h1,List.take_of_length_le h2] at h;exact h
theorem Qa {F:Nat}{a b:List Ab}(hF:a.length<F)(hv:a.length≤1152921504606846976):H3 F a b=some (decide (a=b)):=by
 unfold H3
 by_cases hl:(a.length:Int)=(b.length:Int)
 ·rw[AH (by simp[hl])];obtain⟨o,h1,h2⟩:=Ka (body:=λσ=>Dz a b σ) (λx=>0≤x∧x≤(a.length:Int)∧a.take x.toNat=b.take x.toNat) (λx=>a.length-x.toNat) (λo=>Cg (λ_=>Gm) o=some (decide (a=b))) (λx ⟨h0,hx,ht⟩=>by
   by_cases h:x<(a.length:Int)
   ·have hb:x<(b.length:Int):=by omega
    obtain⟨c,hc⟩:∃c,a[x.toNat]? =some c:=⟨a[x.toNat]'(by omega),Yp (by omega)⟩
    obtain⟨d,hd⟩:∃d,b[x.toNat]? =some d:=⟨b[x.toNat]'(by omega),Yp (by omega)⟩
    have ac:Aj a x=c:=by simp[Aj,hc]
    have bd:Aj b x=d:=by simp[Aj,hd]
    have heq:(decide (c.fKind=d.fKind)&&decide (c.fInt=d.fInt)&&decide (c.fStr=d.fStr)&&decide (c.fN=d.fN))=decide (c=d):=by
     cases c;cases d
     rw[Yx];simp only[Ab.mk.injEq,Yl,Yg];constructor
     ·rintro⟨⟨⟨h1,h2⟩,h3⟩,h4⟩;exact⟨h1,h2,h3,h4⟩
     ·rintro⟨h1,h2,h3,h4⟩;exact⟨⟨⟨h1,h2⟩,h3⟩,h4⟩
    have hb1:Dz a b x=B3 (!decide (c=d)) (some (.out (.ret false))) (some (.next (x+1))):=by
     unfold Dz;rw[AZ (Yr h),B9 h0 h,B9 h0 hb,ac,bd,heq,Bp (by omega) (by omega)]
    by_cases hcd:c=d
    ·refine .inl ⟨x+1,hb1.trans (by rw[AH (by simp[hcd])]),⟨by omega,by omega,?_⟩,by omega⟩;rw[show(x+1).toNat=x.toNat+1 from by omega,List.take_add_one,List.take_add_one,ht,hc,hd,hcd]
    ·refine .inr ⟨.ret false,hb1.trans (by rw[AZ (by simp[hcd])]),?_⟩;rw[Pc,Yo];intro e;subst e;rw[hc] at hd;cases hd;exact hcd rfl
   ·refine .inr ⟨.go (),by unfold Dz;rw[AH (Yo h)],?_⟩;rw[H9,Yr (OP ht (by omega) (by omega))];rfl) F 0 ⟨YI 0,by omega,rfl⟩ (by show a.length-0<F;omega)
  rw[Bf h1,h2]
 ·rw[AZ (by simp[hl]),Yo];intro e;subst e;exact hl rfl
theorem Tq {F:Nat}{a b:List Ab}(hF:a.length<F)(hv:a.length≤1152921504606846976):OW F a b=some (decide (a=b)):=(show OW F a b=H3 F a b from rfl).trans (Qa hF hv)
section
variable {M : Nat} {v : List Ab}
end
theorem HG {α:Type}[Inhabited α]{l:List α}{i:Nat}(h:i<l.length):Aj l (i:Int)=l[i]:=by simp[Aj,h]
def GS {α:Type}(f:α→Int):List α→Int
 | []=>0
 | x::r=>if f x=0 then GS f r else f x
theorem Sk {α U:Type}{l:List α}{f:α→Int}{body:Int→Option (Stp Int (Out Int U))}{u:U}(hb:∀(i:Nat) (h:i<l.length),body (i:Int)=B3 (!decide (f l[i]=0)) (some (.out (.ret (f l[i])))) (some (.next ((i:Int)+1))))(he:body (l.length:Int)=some (.out (.go u))) :
  ∀(d n i:Nat),i+d=l.length→d<n→Ch body n (i:Int)=some (if GS f (l.drop i)=0 then .go u else .ret (GS f (l.drop i))):=by
 intro d
 induction d with
 | zero=>
  intro n i h hn;obtain⟨n,rfl⟩:∃m,n=m+1:=⟨n-1,by omega⟩
  obtain rfl:i=l.length:=by omega
  rw[Ch,he,List.drop_length];rfl
 | succ d ih=>
  intro n i h hn;obtain⟨n,rfl⟩:∃m,n=m+1:=⟨n-1,by omega⟩
  have hi:i<l.length:=by omega
  rw[Ch,hb i hi,List.drop_eq_getElem_cons hi]
  by_cases hf:f l[i]=0
  ·rw[AH (by simp[hf])];have:=ih n (i+1) (by omega) (by omega);rw[GS,Y6 hf];exact this
  ·rw[AZ (by simp[hf]),GS,Yw hf,Yw hf]
theorem Qv {α U:Type}{l:List α}{f:α→Int}{body:Int→Option (Stp Int (Out Int U))}{u:U}{F:Nat}(hF:l.length<F)(hb:∀(i:Nat) (h:i<l.length),body (i:Int)=B3 (!decide (f l[i]=0)) (some (.out (.ret (f l[i])))) (some (.next ((i:Int)+1))))(he:body (l.length:Int)=some (.out (.go u))) :
  B8 (Ch body F 0) (Cg λ_=>some 0)=some (GS f l):=by
 have h:=Sk hb he l.length F 0 (by omega) hF;have h':Ch body F 0=_:=h;rw[List.drop_zero] at h';rw[Bf h']
 by_cases h0:GS f l=0
 ·rw[Y6 h0,h0];rfl
 ·rw[Yw h0];rfl
theorem VD {α U:Type}{l:List α}{body:Int→Option (Stp Int (Out Bool U))}{bad:α→Bool}{u:U}(hb:∀(i:Nat) (h:i<l.length),body (i:Int)=B3 (bad l[i]) (some (.out (.ret false))) (some (.next ((i:Int)+1))))(he:body (l.length:Int)=some (.out (.go u))) :
  ∀(d n i:Nat),i+d=l.length→d<n→Ch body n (i:Int)=some (if (l.drop i).any bad=true then .ret false else .go u):=by
 intro d
 induction d with
 | zero=>
  intro n i h hn;obtain⟨n,rfl⟩:∃m,n=m+1:=⟨n-1,by omega⟩
  obtain rfl:i=l.length:=by omega
  rw[Ch,he,List.drop_length];rfl
 | succ d ih=>
  intro n i h hn;obtain⟨n,rfl⟩:∃m,n=m+1:=⟨n-1,by omega⟩
  have hi:i<l.length:=by omega
  rw[Ch,hb i hi,List.drop_eq_getElem_cons hi,List.any_cons]
  cases hf:bad l[i] with
  | false=>rw[AH rfl,Y0];exact ih n (i+1) (by omega) (by omega)
  | true=>rw[AZ rfl,YJ,Y6 rfl]
theorem Ml {α U:Type}{l:List α}{body:Int→Option (Stp Int (Out Bool U))}{bad:α→Bool}{u:U}{F:Nat}(hF:l.length<F)(hb:∀(i:Nat) (h:i<l.length),body (i:Int)=B3 (bad l[i]) (some (.out (.ret false))) (some (.next ((i:Int)+1))))(he:body (l.length:Int)=some (.out (.go u)))(k:U→Option Bool) :
  B8 (Ch body F 0) (Cg k)=bif l.any bad then some false else k u:=by
 have h:=VD hb he l.length F 0 (by omega) hF;have h':Ch body F 0=_:=h;rw[List.drop_zero] at h';rw[Bf h']
 cases l.any bad<;>rfl
def M5 (v:List Ab):Bool:=decide (100<v.length)||v.any λc=>decide (250<c.fStr.length)
theorem Hq {α:Type}(n:Nat)(f:List α):decide (((n:Nat):Int)<(f.length:Int))=decide (n<f.length):=by rw[Yx];simp
theorem Sn {F:Nat}(hF:100<F)(v:List Ab):Mp F v=some (!M5 v):=by
 unfold Mp M5;rw[show decide ((100:Int)<(v.length:Int))=decide (100<v.length) from Hq 100 v]
 cases hl:decide (100<v.length) with
 | true=>rfl
 | false=>
  have hl' : ¬ 100<v.length:=of_decide_eq_false hl;rw[AH rfl,Ml (l:=v) (bad:=λc=>decide (250<c.fStr.length)) (u:=()) (by omega) (λi h=>by
   unfold Gd;rw[AZ (Yr (by omega)),B9 (by omega) (by omega),HG h,Bp (by omega) (by omega),show decide ((250:Int)<((v[i]).fStr.length:Int))=decide (250<(v[i]).fStr.length) from Hq 250 _]) (by unfold Gd;rw[AH (Yo (by omega))])]
  cases v.any _<;>rfl
def Iq (op:Ax):Bool:=(decide (100<op.fEntity.length)||(decide (100<op.fID.length)||(decide (100<op.fOp.length)||decide (4<op.fArgs.length))))||op.fArgs.any M5
theorem Sm {F:Nat}(hF:100<F)(op:Ax):Gu F op=some (!Iq op):=by
 unfold Gu Iq;have hk:((decide (100<(op.fEntity.length:Int)))||((decide (100<(op.fID.length:Int)))||((decide (100<(op.fOp.length:Int)))||(decide (4<(op.fArgs.length:Int))))))=(decide (100<op.fEntity.length)||(decide (100<op.fID.length)||(decide (100<op.fOp.length)||decide (4<op.fArgs.length)))):=by
  rw[← Hq 100 op.fEntity,← Hq 100 op.fID,← Hq 100 op.fOp,← Hq 4 op.fArgs];rfl
 rw[hk]
 cases hb:(decide (100<op.fEntity.length)||(decide (100<op.fID.length)||(decide (100<op.fOp.length)||decide (4<op.fArgs.length)))) with
 | true=>rfl
 | false=>
  simp only[Yz,Yf] at hb;rw[AH rfl,Ml (l:=op.fArgs) (bad:=M5) (u:=()) (by omega) (λi h=>by
   unfold Gc;rw[AZ (Yr (by omega)),B9 (by omega) (by omega),HG h,Sn hF,Bf rfl,Bool.not_not,Bp (by omega) (by omega)]) (by unfold Gc;rw[AH (Yo (by omega))])]
  cases op.fArgs.any M5<;>rfl
theorem Je.ofN {v:List Ab}(hs:M5 v=false)(hc:v.all Jl=true):Je 250 v:=by
 unfold M5 at hs;simp only[Yz,Yf,List.any_eq_false,YD,Yg] at hs hc;refine⟨by decide,by omega,λc h=>?_⟩;have h1:=hs.2 c h;have h2:=hc c h;unfold Jl at h2;simp only[Yl] at h2;exact⟨by omega,h2.1.1.2,(Ke h2.2).2⟩
structure US (M:Nat) (op:Ax):Prop where
 e:op.fEntity.length≤1000000
 i:op.fID.length≤1000000
 o:op.fOp.length≤1000000
 n:op.fArgs.length≤1000000
 a:∀v∈op.fArgs,Je M v
theorem US.of {op:Ax}(hs:Iq op=false)(hc:op.fArgs.all (λv=>v.all Jl)=true):US 250 op:=by
 unfold Iq at hs;simp only[Yz,Yf,List.any_eq_false] at hs;exact⟨by omega,by omega,by omega,by omega,λv hv=>Je.ofN (by have:=hs.2 v hv;simpa using this) (List.all_eq_true.1 hc v hv)⟩
abbrev Ni:Ah:=[114,101,97,100]
abbrev Ky:Ah:=[119,114,105,116,101]
abbrev RI:Ah:=[97,100,100]
abbrev RH:Ah:=[99,97,115]
def Km (op:Ah):Int:=if op=Ni then 0 else if op=Ky then 1 else if op=RI then 1 else if op=RH then 2 else -1
theorem SD:Bh (Bh (Bh (Bh ([]:List (Ah×Int)) Ni 0) Ky 1) RI 1) RH 2=[(RI,1),(RH,2),(Ni,0),(Ky,1)]:=by decide
theorem Sf (op:Ah):∃n,Mj op=some (n,decide (0≤Km op))∧(0≤Km op→n=Km op):=by
 unfold Mj;rw[show Bh (Bh (Bh (Bh ([]:List (Ah×Int)) ([114,101,97,100]:Ah) 0) ([119,114,105,116,101]:Ah) 1) ([97,100,100]:Ah) 1) ([99,97,115]:Ah) 2=[(RI,1),(RH,2),(Ni,0),(Ky,1)] from SD];unfold A9 BP Km
 by_cases h1:op=Ni
 ·subst h1;exact⟨0,rfl,λ_=>rfl⟩
 ·by_cases h2:op=Ky
  ·subst h2;exact⟨1,rfl,λ_=>rfl⟩
  ·by_cases h3:op=RI
   ·subst h3;exact⟨1,rfl,λ_=>rfl⟩
   ·by_cases h4:op=RH
    ·subst h4;exact⟨2,rfl,λ_=>rfl⟩
    ·have hn:Ey [(RI,(1:Int)),(RH,2),(Ni,0),(Ky,1)] op=none:=by
      simp only[Ey];rw[Yo (λe=>h3 e.symm),Yo (λe=>h4 e.symm),Yo (λe=>h1 e.symm),Yo (λe=>h2 e.symm)];rfl
     rw[hn,Yw h1,Yw h2,Yw h3,Yw h4];exact⟨0,rfl,λe=>by omega⟩
def Hp (op:Ax):Int:=if (Jy op.fEntity&&(Jy op.fID&&decide (0≤Km op.fOp)))=false then 4 else if (op.fArgs.length:Int)=Km op.fOp then GS HW op.fArgs else 7
theorem Nq {M F:Nat}{op:Ax}(hA:US M op)(hM:M≤1000000)(hF:M<F)(hF2:op.fArgs.length<F):HD F op=some (Hp op):=by
 obtain⟨n,h1,h2⟩:=Sf op.fOp;unfold HD Hp;rw[h1,Bf rfl];simp only;have hk:((!(Jy op.fEntity))||((!(Jy op.fID))||(!decide (0≤Km op.fOp)))) = !(Jy op.fEntity&&(Jy op.fID&&decide (0≤Km op.fOp))):=by
  cases Jy op.fEntity<;>cases Jy op.fID<;>cases decide (0≤Km op.fOp)<;>rfl
 rw[hk]
 cases hb:(Jy op.fEntity&&(Jy op.fID&&decide (0≤Km op.fOp))) with
 | false=>rfl
 | true=>
  have h0:0≤Km op.fOp:=by
   simp only[Yl,Yg] at hb;exact hb.2.2
  rw[AH (by rfl),h2 h0,Yw (by simp)]
  by_cases hl:(op.fArgs.length:Int)=Km op.fOp
  ·rw[Y6 hl,AH (by simp[hl])];exact Qv (l:=op.fArgs) (f:=HW) (u:=()) hF2 (λi h=>by
    unfold Gb;rw[AZ (Yr (by omega)),B9 (by omega) (by omega),HG h,Kw (hA.a _ (List.getElem_mem h)) hM hF,Bf rfl,Bp (by omega) (by have:=hA.n;omega)]) (by unfold Gb;rw[AH (Yo (by omega))])
  ·rw[Yw hl,AZ (by simp[hl])]
theorem P3 {op:Ax}(h:Hp op=0):Jy op.fEntity=true∧Jy op.fID=true∧0≤Km op.fOp∧(op.fArgs.length:Int)=Km op.fOp∧∀v∈op.fArgs,HW v=0:=by
 unfold Hp at h
 split at h
 ·simp at h
 ·rename_i h1
  rw[Bool.not_eq_false] at h1;simp only[Yl,Yg] at h1
  split at h
  ·rename_i h2
   refine⟨h1.1,h1.2.1,h1.2.2,h2,?_⟩;have key:∀l:List (List Ab),GS HW l=0→∀v∈l,HW v=0:=by
    intro l
    induction l with
    | nil=>intro _ v hv;cases hv
    | cons x r ih=>
     intro hf v hv;rw[GS] at hf
     by_cases hx:HW x=0
     ·rw[Y6 hx] at hf;rcases List.mem_cons.1 hv with rfl | hv
      ·exact hx
      ·exact ih hf v hv
     ·rw[Yw hx] at hf;exact absurd hf hx
   exact key _ h
  ·simp at h
theorem Pw:EI 30000=some true:=by decide +kernel
theorem V0 (s:Ah):PI (CO s)=s:=by
 unfold PI CO;rw[Zc];have:((λx:Int=>UInt8.ofNat x.toNat) ∘ λc:UInt8=>(c.toNat:Int))=id:=by funext c;simp
 rw[this,List.map_id]
theorem Vq (a b:Ah):CO a++CO b=CO (a++b):=by simp[CO]
theorem PY (a:Ah):(CO a).length=a.length:=by simp[CO]
theorem SU (n:Nat):IntKind.wrap .u8 (n:Int)=((UInt8.ofNat n).toNat:Int):=by
 simp[IntKind.wrap,IntKind.signed,IntKind.bits]
theorem XF (n:Nat):Js .i64 (n:Int) 8=((n/256:Nat):Int):=by
 unfold Js;have e:min (8:Int).toNat (IntKind.bits .i64)=8:=by decide
 rw[e,Int.fdiv_eq_ediv_of_nonneg _ (by decide)];simp
def Kj (f:Ah):Ah:=UInt8.ofNat (f.length/256)::UInt8.ofNat (f.length % 256)::f
def JO (l:List Ah):Ah:=UInt8.ofNat l.length::l.flatMap Kj
def QY (l:List Ah):Bool:=decide (l.length≤64)&&l.all λf=>decide (f.length≤4000)
def If (l:List Ah):Ah×Int:=bif QY l then(JO l,0) else([],3)
theorem RS (l:List Ah)(b:List Int×Int→Option (Stp (List Int×Int) (Out (Ah×Int) (List Int))))(hl:l.length≤64)
  (hb:∀(acc:List Int) (x:Int) (f:Ah),acc.length≤300000→0≤x→x<(l.length:Int)→Aj l x=f→b (acc,x)=bif decide (4000<f.length) then some (.out (.ret ([],3))) else some (.next (acc++CO (Kj f),x+1)))
  (he:∀acc,b (acc,(l.length:Int))=some (.out (.go acc))) {F:Nat} (hF:64<F) :
  B8 (Ch b F (CO [UInt8.ofNat l.length],0)) (Cg λq=>some (PI q,0))=some (If l):=by
 have key:∀(k:Nat) (F:Nat) (acc:Ah),k<F→k≤l.length→acc.length≤1+(l.length-k)*4002→
   B8 (Ch b F (CO acc,((l.length-k:Nat):Int))) (Cg λq=>some (PI q,0))=some (bif (l.drop (l.length-k)).all (λf=>decide (f.length≤4000)) then(acc++(l.drop (l.length-k)).flatMap Kj,0) else([],3)):=by
  intro k
  induction k with
  | zero=>
   intro F acc hF _ _
   cases F with
   | zero=>omega
   | succ F=>rw[Ch,Nat.sub_zero,he];simp[B8,Cg,V0]
  | succ k ih=>
   intro F acc hF hk hacc
   cases F with
   | zero=>omega
   | succ F=>
    have hlt:l.length-(k+1)<l.length:=by omega
    have hat:Aj l ((l.length-(k+1):Nat):Int)=l[l.length-(k+1)]:=by simp[Aj,hlt]
    have hd:l.drop (l.length-(k+1))=l[l.length-(k+1)]::l.drop (l.length-k):=by
     rw[List.drop_eq_getElem_cons hlt];congr 2;omega
    have ha:(l.length-(k+1))*4002≤64*4002:=Nat.mul_le_mul_right _ (by omega);rw[Ch,hb _ _ _ (by rw[PY];omega) (by omega) (by omega) hat,hd];generalize l[l.length-(k+1)]=f at *
    cases h4:decide (4000<f.length) with
    | true=>
     simp only[Yg] at h4;rw[YG,Yo (by omega),Y5];rfl
    | false=>
     simp only[Yf] at h4;have e2:(l.length-(k+1))*4002+4002=(l.length-k)*4002:=by
      rw[show l.length-k=l.length-(k+1)+1 from by omega,Nat.succ_mul]
     have:=ih F (acc++Kj f) (by omega) (by omega) (by simp[Kj];omega);rw[show((l.length-(k+1):Nat):Int)+1=((l.length-k:Nat):Int) from by omega];simp only[Yj,Vq];rw[this,YG,Yr (by omega),Yv,List.flatMap_cons,YL]
 have:=key l.length F [UInt8.ofNat l.length] (by omega) (Y2 _) (by simp);simp only[Nat.sub_self,List.drop_zero] at this;refine Eq.trans this ?_;unfold If QY JO;rw[Yr hl,Yv];rfl
theorem M4 {α:Type}{n:Nat}{x:Option α}(h:n≤1000000000):Bj (DI 1 n) x=x:=Cl (Yr (by omega))
theorem NC {α:Type}{n:Nat}{x:Option α}(h:n≤1000000000):Bj (DI 16 n) x=x:=Cl (Yr (by omega))
theorem P9 (f:Ah):decide ((4000:Int)<(f.length:Int))=decide (4000<f.length):=by rw[Yx];simp;omega
theorem Ut {F:Nat}{l:List Ah}(hF:64<F):P1 F l=some (If l):=by
 unfold P1
 by_cases ha:l.length≤64
 ·rw[AH (Yo (by omega)),SU];refine RS l _ ha (λacc x f hacc h0 hx hat=>?_) (λacc=>?_) hF
  ·show EJ l acc x=_;unfold EJ;rw[AZ (Yr hx),B9 h0 hx,hat,P9]
   cases h4:decide (4000<f.length) with
   | true=>rfl
   | false=>
    simp only[Yf] at h4;have e1:([IntKind.wrap .u8 (Js .i64 (f.length:Int) 8),IntKind.wrap .u8 (f.length:Int)]:List Int)++CO f=CO (Kj f):=by
     rw[XF,SU,SU];simp[CO,Kj]
    rw[AH rfl,M4 (by simp;omega),M4 (by simp;omega),Bp (by omega) (by omega),YL,e1];rfl
  ·show EJ l acc _=_;unfold EJ;rw[AH (Yo (by omega))]
 ·rw[AZ (Yr (by omega))];unfold If QY;rw[Yo ha];rfl
def Ln:Nat→Ah→List Ah→List Ah×Int
 | 0,s,acc=>bif decide (s=[]) then(acc,0) else([],13)
 | n+1,a::b::r,acc=>bif decide (4000<a.toNat*256+b.toNat) then([],13) else bif decide (r.length<a.toNat*256+b.toNat) then([],14) else Ln n (r.drop (a.toNat*256+b.toNat)) (acc++[r.take (a.toNat*256+b.toNat)])
 | n+1,_,acc=>([],14)
def Cz:Ah→List Ah×Int
 | []=>([],14)
 | c::s=>bif decide (64<c.toNat) then([],13) else Ln c.toNat s []
theorem XL (a b:UInt8):Ks .i64 (Em .i64 (a.toNat:Int) 8) (b.toNat:Int)=((a.toNat*256+b.toNat:Nat):Int):=by
 have ha:=a.toNat_lt;have hb:=b.toNat_lt;have e0:Em .i64 (a.toNat:Int) 8=((a.toNat*256:Nat):Int):=by
  unfold Em;have e:min (8:Int).toNat (IntKind.bits .i64)=8:=by decide
  rw[e,IntKind.wrap_i64];omega
 rw[e0];unfold Ks;have h1:(BitVec.ofInt (IntKind.bits .i64) ((a.toNat*256:Nat):Int)||| BitVec.ofInt (IntKind.bits .i64) (b.toNat:Int)).toNat=a.toNat*256+b.toNat:=by
  rw[BitVec.toNat_or,BitVec.toNat_ofInt,BitVec.toNat_ofInt];have hbits:IntKind.bits .i64=64:=rfl;rw[hbits];have e1:(((a.toNat*256:Nat):Int) % ((2 ^ 64:Nat):Int)).toNat=a.toNat*256:=by omega
  have e2:(((b.toNat:Nat):Int) % ((2 ^ 64:Nat):Int)).toNat=b.toNat:=by omega
  rw[e1,e2,show a.toNat*256=a.toNat <<< 8 from by rw[Nat.shiftLeft_eq]];rw[Nat.shiftLeft_add_eq_or_of_lt (by simpa using hb)]
 rw[h1,IntKind.wrap_i64];omega
theorem X2 (a:UInt8)(r:Ah):Br (a::r) 0=(a.toNat:Int):=rfl
theorem XR (a b:UInt8)(r:Ah):Br (a::b::r) 1=(b.toNat:Int):=rfl
theorem Us (s:Ah)(c:UInt8)(hs:Br s 0=(c.toNat:Int)):∀(k:Nat) (F:Nat) (t:Ah) (acc:List Ah) (z i:Int),k<F→i+k=(c.toNat:Int)→0≤i→acc.length≤64-k→k≤64→t.length≤1000000000→
  B8 (Ch (λσ=>Cs s σ.1 σ.2.1 σ.2.2.1 σ.2.2.2) F (t,acc,z,i)) (Cg λν=>Ea ν.1 ν.2)=some (Ln k t acc)
 | k,0,t,acc,z,i,h,_,_,_,_,_=>by omega
 | 0,F+1,t,acc,z,i,hF,hi,h0,ha,hk,ht=>by
  rw[Ch];have hb:Cs s t acc z i=some (.out (.go (t,acc))):=by
   unfold Cs;rw[AH (Yo (by omega))]
  simp only[hb];show Ea t acc=_;unfold Ea Ln
  cases h:decide (t=[]) with
  | true=>rw[AH (p:=!true) rfl,CQ (by omega) (YI _)];simp
  | false=>rfl
 | k+1,F+1,t,acc,z,i,hF,hi,h0,ha,hk,ht=>by
  rw[Ch];have hcc:=c.toNat_lt
  match t,ht with
  | [],ht=>
   have hb:Cs s [] acc z i=some (.out (.ret ([],14))):=by
    unfold Cs;rw[AZ (Yr (by omega)),AZ (by decide)];rfl
   simp only[hb];rfl
  | [a],ht=>
   have hb:Cs s [a] acc z i=some (.out (.ret ([],14))):=by
    unfold Cs;rw[AZ (Yr (by omega)),AZ (by simp)];rfl
   simp only[hb];rfl
  | a::b::r,ht=>
   have haa:=a.toNat_lt;have hbb:=b.toNat_lt;simp only[Yk] at ht;have hd:List.drop (Int.toNat 2) (a::b::r)=r:=rfl;have hb:Cs s (a::b::r) acc z i=bif decide (4000<a.toNat*256+b.toNat) then some (.out (.ret ([],13))) else bif decide (r.length<a.toNat*256+b.toNat) then some (.out (.ret ([],14))) else some (.next (r.drop (a.toNat*256+b.toNat),acc++[r.take (a.toNat*256+b.toNat)],((a.toNat*256+b.toNat:Nat):Int),i+1)):=by
    unfold Cs;rw[AZ (Yr (by omega)),AH (Yo (by simp only[Yk];omega)),X2,XR,hd,XL];have hlen:((a::b::r).length:Int)=(r.length:Int)+2:=by simp only[Yk];omega
    rw[hlen,B9 (by omega) (by omega),Bp (by omega) (by omega),B9 (by omega) (by omega),Bp (by omega) (by omega),CQ (by omega) (by omega)];generalize a.toNat*256+b.toNat=m;rw[show decide ((4000:Int)<(m:Int))=decide (4000<m) from by rw[Yx];simp;omega,show decide ((r.length:Int)<(m:Int))=decide (r.length<m) from by rw[Yx];simp]
    cases h1:decide (4000<m) with
    | true=>rfl
    | false=>
     cases h2:decide (r.length<m) with
     | true=>rfl
     | false=>
      simp only[Yf] at h1 h2;rw[AH rfl,AH rfl,CQ (by omega) (by omega),NC (by simp;omega),Bp (by omega) (by omega)];rfl
   simp only[hb];rw[Ln]
   cases h1:decide (4000<a.toNat*256+b.toNat) with
   | true=>rfl
   | false=>
    cases h2:decide (r.length<a.toNat*256+b.toNat) with
    | true=>rfl
    | false=>
     simp only[Yj];exact Us s c hs k F _ _ _ _ (by omega) (by omega) (by omega) (by simp;omega) (by omega) (by simp;omega)
theorem Q3 {F:Nat}{s:Ah}(hF:64<F)(hs:s.length≤1000000000):Kh F s=some (Cz s):=by
 unfold Kh
 cases s with
 | nil=>rfl
 | cons c t=>
  have hc:=c.toNat_lt;simp only[Yk] at hs;rw[AH (by simp),B9 (by omega) (by simp only[Yk];omega),X2,Bp (by omega) (by omega),CQ (by omega) (by simp only[Yk];omega)];rw[show decide ((64:Int)<(c.toNat:Int))=decide (64<c.toNat) from by rw[Yx];simp;omega];rw[Cz]
  cases h:decide (64<c.toNat) with
  | true=>rfl
  | false=>
   simp only[Yf] at h;rw[AH rfl];exact Us (c::t) c rfl c.toNat F t [] 0 0 (by omega) (by omega) (YI 0) (by simp) (by omega) (by omega)
theorem Nb:∀(l:List Ah) (acc:List Ah),(l.all λf=>decide (f.length≤4000))=true→Ln l.length (l.flatMap Kj) acc=(acc++l,0)
 | [],acc,_=>by simp[Ln]
 | f::l,acc,h=>by
  simp only[YG,Yl,Yg] at h;rw[List.flatMap_cons,Yk];show Ln (l.length+1) (UInt8.ofNat (f.length/256)::UInt8.ofNat (f.length % 256)::(f++l.flatMap Kj)) acc=_;rw[Ln];have e:(UInt8.ofNat (f.length/256)).toNat*256+(UInt8.ofNat (f.length % 256)).toNat=f.length:=by
   simp only[UInt8.toNat_ofNat'];omega
  rw[e,Yo (by omega),Yo (by simp),Yj,Yj,List.take_left,List.drop_left,Nb l _ (by simpa using h.2)];simp
theorem Te {l:List Ah}(h:QY l=true):Cz (JO l)=(l,0):=by
 unfold QY at h;simp only[Yl,Yg] at h;unfold JO;rw[Cz];have e:(UInt8.ofNat l.length).toNat=l.length:=by simp only[UInt8.toNat_ofNat'];omega
 rw[e,Yo (by omega),Yj,Nb l [] h.2];rfl
theorem OO:∀(n:Nat) (s:Ah) (acc:List Ah) (q:List Ah),Ln n s acc=(q,0)→∃l,q=acc++l∧l.length=n∧(l.all λf=>decide (f.length≤4000))=true∧l.flatMap Kj=s
 | 0,s,acc,q,h=>by
  rw[Ln] at h
  cases hs:decide (s=[]) with
  | true=>rw[hs] at h;simp only[Ym,Prod.mk.injEq] at h;exact⟨[],by simp[h.1],rfl,rfl,by rw[Y4 hs];rfl⟩
  | false=>rw[hs] at h;cases h
 | n+1,[],acc,q,h=>by have h2:(([]:List Ah),(14:Int))=(q,0):=h;cases h2
 | n+1,[a],acc,q,h=>by have h2:(([]:List Ah),(14:Int))=(q,0):=h;cases h2
 | n+1,a::b::r,acc,q,h=>by
  rw[Ln] at h;have ha:=a.toNat_lt;have hb:=b.toNat_lt
  cases h1:decide (4000<a.toNat*256+b.toNat) with
  | true=>rw[h1] at h;cases h
  | false=>
   cases h2:decide (r.length<a.toNat*256+b.toNat) with
   | true=>rw[h1,h2] at h;cases h
   | false=>
    rw[h1,h2] at h;simp only[Yj] at h;simp only[Yf] at h1 h2;obtain⟨l,e1,e2,e3,e4⟩:=OO n _ _ _ h;have hl:(r.take (a.toNat*256+b.toNat)).length=a.toNat*256+b.toNat:=by simp;omega
    refine⟨r.take (a.toNat*256+b.toNat)::l,by rw[e1];simp,by simp[e2],?_,?_⟩
    ·rw[YG,e3,Y7,Yg,hl];omega
    ·rw[List.flatMap_cons,e4];unfold Kj;rw[hl];have x1:UInt8.ofNat ((a.toNat*256+b.toNat)/256)=a:=by
      apply UInt8.toNat_inj.1;simp only[UInt8.toNat_ofNat'];omega
     have x2:UInt8.ofNat ((a.toNat*256+b.toNat) % 256)=b:=by
      apply UInt8.toNat_inj.1;simp only[UInt8.toNat_ofNat'];omega
     rw[x1,x2];simp
theorem LW {s:Ah}{l:List Ah}(h:Cz s=(l,0)):QY l=true∧JO l=s:=by
 cases s with
 | nil=>cases h
 | cons c t=>
  rw[Cz] at h
  cases h1:decide (64<c.toNat) with
  | true=>rw[h1] at h;cases h
  | false=>
   rw[h1] at h;simp only[Yj] at h;simp only[Yf] at h1;obtain⟨l',e1,e2,e3,e4⟩:=OO _ _ _ _ h;simp only[YU] at e1;subst e1;unfold QY JO;rw[e3,e4,e2,Yr (by omega)];exact⟨rfl,by simp⟩
theorem Na {s:Ah}{f:Ah}(h:f∈(Cz s).1)(h0:(Cz s).2=0):f.length≤4000:=by
 have:=(LW (s:=s) (l:=(Cz s).1) (by rw[← h0])).1;unfold QY at this;simp only[Yl,Yg,YD] at this;exact this.2 f h
theorem OZ {s:Ah}(h:BD s=0):Lib.itoa (Bw s)=s:=by
 unfold BD at h;unfold Bw
 cases hd:Jt s with
 | false=>rw[hd] at h;simp at h
 | true=>
  simp only[hd,Ze] at h ⊢;have hdec:=hd;simp only[Jt,Yl,Yy,Yz,Yf] at hdec;obtain⟨⟨hne,hz⟩,hall⟩:=hdec;rw[KR] at hall
  cases hs:s with
  | nil=>subst hs;exact absurd (show GU []=[] by simp[GU,LS]) hne
  | cons c r=>
   subst hs
   by_cases hc:c=45
   ·subst hc;have hdg:GU (45::r)=r:=by simp[GU,LS,Br]
    rw[hdg] at hne hall hz;have he:Br r 0≠48:=by
     intro e;rw[e] at hz;simp at hz
    rw[Lib.atoiAll_minus] at h ⊢;have hpm:Lib.parseMag r=Lib.parseUint10 0 r:=by unfold Lib.parseMag;rw[Yw hne]
    rw[hpm] at h ⊢;have hpos:1≤Cr 0 r:=by
     cases r with
     | nil=>exact absurd rfl hne
     | cons x y=>
      have hx:48≤x.toNat∧x.toNat≤57:=by simp[BM] at hall;omega
      have hx2:x.toNat≠48:=λe=>he (by show((x.toNat:Nat):Int)=48;omega);show 1≤Cr (10*0+(x.toNat-48)) y;exact Nat.le_trans (by omega) (Hl y _)
    rcases NY r 0 hall with e | ⟨e,_⟩
    ·rw[e] at h ⊢;simp only[Lib.signed] at h ⊢
     by_cases hbig:9223372036854775808<Cr 0 r
     ·rw[Y6 hbig] at h;simp at h
     ·rw[Yw hbig] at h ⊢;simp only at h ⊢
      cases hv:Ds (-(Cr 0 r:Int)) with
      | false=>rw[hv] at h;simp at h
      | true=>
       rw[Y6 rfl,Lib.itoa_neg _ hpos,M0 r.length r rfl hall hne (λha=>?_)]
       cases r with
       | nil=>exact absurd rfl hne
       | cons x y=>
        simp only[List.head?_cons,Option.some.injEq] at ha;subst ha;exact absurd rfl he
    ·rw[e] at h;simp[Lib.signed] at h
   ·have hb : ¬ Br (c::r) 0=45:=by
     intro e;exact hc (UInt8.toNat_inj.1 (by have:((c.toNat:Nat):Int)=45:=e;simp;omega))
    have hdg:GU (c::r)=c::r:=by simp[GU,LS,hb]
    rw[hdg] at hne hall hz;have hf:48≤c.toNat:=by simp[BM] at hall;omega
    rw[Lib.atoiAll_plain c r (by omega) (by omega)] at h ⊢;have hpm:Lib.parseMag (c::r)=Lib.parseUint10 0 (c::r):=by unfold Lib.parseMag;rw[Yw hne]
    rw[hpm] at h ⊢;rcases NY (c::r) 0 hall with e | ⟨e,_⟩
    ·rw[e] at h ⊢;simp only[Lib.signless] at h ⊢
     by_cases hbig:9223372036854775808≤Cr 0 (c::r)
     ·rw[Y6 hbig] at h;simp at h
     ·rw[Yw hbig] at h ⊢;simp only at h ⊢
      cases hv:Ds (Cr 0 (c::r):Int) with
      | false=>rw[hv] at h;simp at h
      | true=>
       rw[Y6 rfl,Lib.itoa_nonneg];refine M0 (c::r).length (c::r) rfl hall hne (λha=>?_);simp only[List.head?_cons,Option.some.injEq] at ha;subst ha;have:Br (48::r) 0=48:=rfl;rw[this] at hz;simp only[decide_true,Yv,Bool.not_eq_false',Yg] at hz;rw[hz];rfl
    ·rw[e] at h;simp[Lib.signless] at h
theorem SL {α:Type}[DecidableEq α]:∀{a b:List α},a.length=b.length→((a.zip b).any λp=>!decide (p.1=p.2)) = !decide (a=b)
 | [],[],_=>rfl
 | x::a,y::b,h=>by
  have ih:=SL (a:=a) (b:=b) (by simpa using h);rw[List.zip_cons_cons,List.any_cons,ih]
  by_cases h1:x=y
  ·subst h1
   by_cases h2:a=b
   ·subst h2;simp
   ·simp[h2]
  ·simp[h1]
 | [],_::_,h=>by simp at h
 | _::_,[],h=>by simp at h
theorem RX (a b:Ax):a=b↔a.fEntity=b.fEntity∧a.fID=b.fID∧a.fOp=b.fOp∧a.fArgs=b.fArgs:=by
 cases a;cases b;simp
theorem Qd {M F:Nat}{a b:Ax}(hA:US M a)(hM:M≤1000000)(hF:M<F)(hF2:a.fArgs.length<F):EU F a b=some (decide (a=b)):=by
 unfold EU
 by_cases hc:a.fEntity=b.fEntity∧a.fID=b.fID∧a.fOp=b.fOp∧(a.fArgs.length:Int)=(b.fArgs.length:Int)
 ·rw[AH (by simp[hc.1,hc.2.1,hc.2.2.1,hc.2.2.2])];have hl:a.fArgs.length=b.fArgs.length:=by have:=hc.2.2.2;omega
  have hn:=hA.n;rw[Ml (l:=a.fArgs.zip b.fArgs) (bad:=λp=>!decide (p.1=p.2)) (u:=()) (by rw[List.length_zip];omega) (λi h=>by
   rw[List.length_zip] at h;unfold E6;have h1:i<a.fArgs.length:=by omega
   have h2:i<b.fArgs.length:=by omega
   rw[AZ (Yr (by omega)),B9 (by omega) (by omega),B9 (by omega) (by omega),HG h1,HG h2,Tq (by have:=(hA.a _ (List.getElem_mem h1)).hv;omega) (by have:=(hA.a _ (List.getElem_mem h1)).hv;omega),Bf rfl,Bp (by omega) (by omega),List.getElem_zip]) (by
   unfold E6;rw[List.length_zip,AH (Yo (by omega))]),SL hl]
  have he:decide (a=b)=decide (a.fArgs=b.fArgs):=by
   rw[Yx,Yg,Yg,RX];exact⟨λh=>h.2.2.2,λh=>⟨hc.1,hc.2.1,hc.2.2.1,h⟩⟩
  rw[he]
  cases decide (a.fArgs=b.fArgs)<;>rfl
 ·have he : ¬ a=b:=λe=>hc (by subst e;exact⟨rfl,rfl,rfl,rfl⟩);rw[AZ (by
   simp only[YN,Yy,Yf]
   by_cases h1:a.fEntity=b.fEntity
   ·by_cases h2:a.fID=b.fID
    ·by_cases h3:a.fOp=b.fOp
     ·exact .inr (.inr (.inr λh4=>hc ⟨h1,h2,h3,h4⟩))
     ·exact .inr (.inr (.inl h3))
    ·exact .inr (.inl h2)
   ·exact .inl h1),Yo he]
theorem VB {α β S O:Type}{l:List α}{g:α→β}{mk:Nat→List β→S}{body:S→Option (Stp S O)}{fin:List β→O}{K:Nat}(hb:∀(i:Nat) (h:i<l.length) (acc:List β),acc.length≤K→body (mk i acc)=some (.next (mk (i+1) (acc++[g l[i]]))))(he:∀acc,body (mk l.length acc)=some (.out (fin acc))) :
  ∀(d n i:Nat) (acc:List β),i+d=l.length→d<n→acc.length+d≤K→Ch body n (mk i acc)=some (fin (acc++(l.drop i).map g)):=by
 intro d
 induction d with
 | zero=>
  intro n i acc h hn hK;obtain⟨n,rfl⟩:∃m,n=m+1:=⟨n-1,by omega⟩
  obtain rfl:i=l.length:=by omega
  rw[Ch,he,List.drop_length];simp
 | succ d ih=>
  intro n i acc h hn hK;obtain⟨n,rfl⟩:∃m,n=m+1:=⟨n-1,by omega⟩
  have hi:i<l.length:=by omega
  rw[Ch,hb i hi acc (by omega)];simp only;rw[ih n (i+1) _ (by omega) (by omega) (by simp;omega),List.drop_eq_getElem_cons hi,YR,YL];rfl
def Jc (op:Ax)(now:Int):List Ah:=[op.fEntity,op.fID,op.fOp,Lib.itoa now]++op.fArgs.map λv=>(IS v).1
def MS (op:Ax)(now:Int):Ah×Int:=if Hp op≠0 then([],Hp op) else if now<0∨1073741824<now then([],2) else If (Jc op now)
theorem N6 (v:List Ab):(IS v).2=HW v:=by
 unfold IS HW
 cases whole v with
 | none=>rfl
 | some f=>
  simp only
  cases h:decide (Gw f=0) with
  | true=>rw[Y4 h];rfl
  | false=>rfl
theorem Mf {M F:Nat}{op:Ax}(hA:US M op)(hM:M≤1000000)(hF:4*M+100<F)(hF2:op.fArgs.length<F)(now:Int):GD F op now=some (MS op now):=by
 have hn:=hA.n;unfold GD MS;rw[Nq hA hM (by omega) hF2,Bf rfl]
 by_cases he:Hp op=0
 ·rw[AH (by simp[he]),Yw (by simp[he])]
  by_cases ht:now<0∨1073741824<now
  ·rw[Y6 ht,AZ (by simpa using ht)]
  ·rw[Yw ht,AH (by simp only[Yz,Yf];omega),Bp (by omega) (by omega)];obtain⟨_,_,_,_,ev⟩:=P3 he;have h:=VB (O:=Out (Ah×Int) (List Ah)) (l:=op.fArgs) (g:=λv=>(IS v).1) (mk:=λi acc=>(acc,(i:Int))) (body:=λσ=>D1 F op σ.1 σ.2) (fin:=λacc=>.go acc) (K:=2000000) (λi h acc hK=>by
    unfold D1;simp only;rw[AZ (Yr (by omega)),B9 (by omega) (by omega),HG h,PV (hA.a _ (List.getElem_mem h)) hM (by omega),Bf rfl,N6,ev _ (List.getElem_mem h),AH (by decide),NC (by simp;omega),Bp (by omega) (by omega)];rfl) (λacc=>by unfold D1;simp only;rw[AH (Yo (by omega))]) op.fArgs.length F 0 [op.fEntity,op.fID,op.fOp,Lib.itoa now] (by omega) hF2 (by simp;omega)
   have h':Ch (λσ=>D1 F op σ.1 σ.2) F ([op.fEntity,op.fID,op.fOp,Lib.itoa now],0)=_:=h;rw[h',Bf rfl,H9,List.drop_zero];unfold Gr;rw[Ut (by omega),Bf rfl];rfl
 ·rw[AZ (by simp[he]),Y6 he]
def Ju (s:Ah):List Ab×Int:=ov (KK s)
def D6:List Ah→List (List Ab)×Int
 | []=>([],0)
 | s::r=>if (Ju s).2≠0 then([],(Ju s).2) else if (D6 r).2=0 then((Ju s).1::(D6 r).1,0) else([],(D6 r).2)
theorem VC {R S:Type}{l:List Ah}{mk:Nat→List (List Ab)→S}{body:S→Option (Stp S (Out R (List (List Ab))))}{bad:Int→R}{K:Nat}
  (hb:∀(i:Nat) (h:i<l.length) (acc:List (List Ab)),acc.length≤K→body (mk i acc)=if (Ju l[i]).2≠0 then some (.out (.ret (bad (Ju l[i]).2))) else some (.next (mk (i+1) (acc++[(Ju l[i]).1])))) (he:∀acc,body (mk l.length acc)=some (.out (.go acc))) :
  ∀(d n i:Nat) (acc:List (List Ab)),i+d=l.length→d<n→acc.length+d≤K→Ch body n (mk i acc)=some (if (D6 (l.drop i)).2=0 then .go (acc++(D6 (l.drop i)).1) else .ret (bad (D6 (l.drop i)).2)):=by
 intro d
 induction d with
 | zero=>
  intro n i acc h hn hK;obtain⟨n,rfl⟩:∃m,n=m+1:=⟨n-1,by omega⟩
  obtain rfl:i=l.length:=by omega
  rw[Ch,he,List.drop_length];simp[D6]
 | succ d ih=>
  intro n i acc h hn hK;obtain⟨n,rfl⟩:∃m,n=m+1:=⟨n-1,by omega⟩
  have hi:i<l.length:=by omega
  rw[Ch,hb i hi acc (by omega),List.drop_eq_getElem_cons hi]
  by_cases h0:(Ju l[i]).2=0
  ·have hd:D6 (l[i]::l.drop (i+1))=if (D6 (l.drop (i+1))).2=0 then((Ju l[i]).1::(D6 (l.drop (i+1))).1,0) else([],(D6 (l.drop (i+1))).2):=by rw[D6,Yw (by simp[h0])]
   rw[Yw (by simp[h0]),hd];simp only;rw[ih n (i+1) _ (by omega) (by omega) (by simp;omega)]
   by_cases h1:(D6 (l.drop (i+1))).2=0
   ·rw[Y6 h1,Y6 h1];simp only[Ze];rw[YL];rfl
   ·rw[Yw h1,Yw h1];simp only[Yw h1]
  ·have hd:D6 (l[i]::l.drop (i+1))=([],(Ju l[i]).2):=by rw[D6,Y6 h0]
   rw[Y6 h0,hd];simp only[Yw h0]
def UP:Ax:=⟨[],[],[],[]⟩
def Mk (l:List Ah)(args:List (List Ab)):Ax:=⟨Aj l 0,Aj l 1,Aj l 2,args⟩
def Ur (l:List Ah)(args:List (List Ab)):Ax×Int×Int:=
 if Hp (Mk l args)≠0 then(UP,0,Hp (Mk l args)) else if Bw (Aj l 3)<0∨1073741824<Bw (Aj l 3) then(UP,0,2) else(Mk l args,Bw (Aj l 3),0)
def Ls (s:Ah):Ax×Int×Int:=
 if (Cz s).2≠0 then(UP,0,(Cz s).2) else if (Cz s).1.length<4 then(UP,0,13)
 else if BD (Aj (Cz s).1 3)≠0 then(UP,0,BD (Aj (Cz s).1 3)) else if (D6 ((Cz s).1.drop 4)).2≠0 then(UP,0,(D6 ((Cz s).1.drop 4)).2) else Ur (Cz s).1 (D6 ((Cz s).1.drop 4)).1
theorem U7 {s:Ah}{r:List Ab×Int}(h:KK s=some r):Je 4000 r.1:=by
 by_cases h0:r.2=0
 ·exact(Rq h h0).1
 ·have:r.1=[]:=by
   unfold KK at h
   cases h4:decide (4000<s.length) with
   | true=>rw[h4] at h;cases h;rfl
   | false=>
    rw[h4] at h;simp only[Yj] at h
    split at h
    ·rename_i f _
     cases he:decide (Gw f=0) with
     | true=>rw[he] at h;cases h;exact absurd rfl h0
     | false=>rw[he] at h;cases h;rfl
    ·cases h;rfl
  rw[this];exact⟨by decide,by simp,λc hc=>by cases hc⟩
theorem KL (s:Ah):KK s=some (Ju s):=by
 obtain⟨r,hr⟩:=S5 s;unfold Ju;rw[hr,L5]
theorem On:∀(l:List Ah),(D6 l).1.length≤l.length∧∀v∈(D6 l).1,Je 4000 v
 | []=>⟨Y2 _,λv hv=>by cases hv⟩
 | s::r=>by
  obtain⟨h1,h2⟩:=On r;rw[D6]
  split
  ·exact⟨YE _,λv hv=>by cases hv⟩
  ·split
   ·refine⟨by simp;omega,λv hv=>?_⟩;rcases List.mem_cons.1 hv with rfl | hv
    ·exact U7 (KL s)
    ·exact h2 v hv
   ·exact⟨YE _,λv hv=>by cases hv⟩
theorem LB {l:List Ah}(h:∀f∈l,f.length≤4000)(i:Int):(Aj l i).length≤4000:=by
 unfold Aj
 cases hi:l[i.toNat]? with
 | none=>exact YE _
 | some f=>exact h f (Yu hi)
theorem QK {s:Ah}(h:(Cz s).2=0):(Cz s).1.length≤64:=by
 have:=(LW (s:=s) (l:=(Cz s).1) (by rw[← h])).1;unfold QY at this;simp only[Yl,Yg] at this;exact this.1
theorem TP {l:List Ah}(h:∀f∈l,f.length≤4000){args:List (List Ab)}(ha:args.length≤64)(hc:∀v∈args,Je 4000 v):US 4000 (Mk l args):=
 ⟨Nat.le_trans (LB h 0) (by decide),Nat.le_trans (LB h 1) (by decide),Nat.le_trans (LB h 2) (by decide),Nat.le_trans ha (by decide),hc⟩
theorem S7 {α:Type}{n:Nat}{x:Option α}(h:n≤1000000000):Bj (DI 24 n) x=x:=Cl (Yr (by omega))
theorem Mg {F:Nat}(hF:30000≤F){s:Ah}(hs:s.length≤1000000):GF F s=some (Ls s):=by
 unfold GF Ls;rw[Q3 (by omega) (by omega),Bf rfl]
 by_cases h1:(Cz s).2=0
 ·have hsm:∀f∈(Cz s).1,f.length≤4000:=λf hf=>Na hf h1;have ha:=QK h1;rw[AH (by simp[h1]),Yw (by simp[h1])]
  by_cases h2:(Cz s).1.length<4
  ·rw[AZ (Yr (by omega)),Y6 h2];rfl
  ·have e3:=LB hsm 3;rw[AH (Yo (by omega)),Yw h2,B9 (by omega) (by omega),M4 (by omega)]
   by_cases h3:BD (Aj (Cz s).1 3)=0
   ·rw[AH (by simp[h3]),Yw (by simp[h3]),B9 (by omega) (by omega),B9 (by omega) (by omega),B9 (by omega) (by omega),CQ (by omega) (by omega)];have h:=VC (l:=(Cz s).1.drop 4) (R:=Ax×Int×Int) (mk:=λi acc=>((i:Int),acc)) (body:=λσ=>D2 F (Cz s) σ.1 σ.2) (bad:=λe=>(UP,0,e)) (K:=100000) (λi h acc hK=>by
     unfold D2;simp only;rw[show(List.drop (Int.toNat 4) (Cz s).1)=(Cz s).1.drop 4 from rfl,AZ (Yr (by omega)),B9 (by omega) (by omega),HG h,ON (by omega),KL,Bf rfl];rw[YY] at h
     by_cases hq:(Ju ((Cz s).1.drop 4)[i]).2=0
     ·rw[AH (by first | exact Yo (λh=>h hq) | rw[hq];rfl),Yw (λh=>h hq),S7 (by simp;omega),Bp (by omega) (by omega)];rfl
     ·rw[AZ (by first | exact Yr hq | (rw[Yo hq];rfl)),Y6 hq];rfl) (λacc=>by unfold D2;simp only;rw[AH (Yo (by rw[show(List.drop (Int.toNat 4) (Cz s).1)=(Cz s).1.drop 4 from rfl];omega))]) ((Cz s).1.drop 4).length F 0 [] (by omega) (by rw[YY];omega) (by rw[YY];simp;omega)
    have h':Ch (λσ=>D2 F (Cz s) σ.1 σ.2) F (0,([]:List (List Ab)))=_:=h;rw[h',Bf rfl,List.drop_zero]
    by_cases h4:(D6 ((Cz s).1.drop 4)).2=0
    ·rw[Y6 h4,Yw (by simp[h4]),H9,YU];obtain⟨k1,k2⟩:=On ((Cz s).1.drop 4);rw[YY] at k1;unfold Gs Ur;have hc:HD F ⟨Aj (Cz s).1 0,Aj (Cz s).1 1,Aj (Cz s).1 2,(D6 ((Cz s).1.drop 4)).1⟩=some (Hp (Mk (Cz s).1 (D6 ((Cz s).1.drop 4)).1)):=Nq (TP hsm (by omega) k2) (by decide) (by omega) (by show(D6 ((Cz s).1.drop 4)).1.length<F;omega);rw[hc,Bf rfl]
     by_cases h5:Hp (Mk (Cz s).1 (D6 ((Cz s).1.drop 4)).1)=0
     ·rw[AH (by simp[h5]),Yw (by simp[h5])]
      by_cases h6:Bw (Aj (Cz s).1 3)<0∨1073741824<Bw (Aj (Cz s).1 3)
      ·rw[AZ (by simpa using h6),Y6 h6];rfl
      ·rw[AH (by simp only[Yz,Yf];omega),Yw h6];rfl
     ·rw[AZ (by simp[h5]),Y6 h5];rfl
    ·rw[Yw h4,Y6 h4];rfl
   ·rw[AZ (by simp[h3]),Y6 h3];rfl
 ·rw[AZ (by simp[h1]),Y6 h1];rfl
theorem U9 {v:List Ab}(h:HW v=0):Ju (IS v).1=(v,0):=by
 unfold Ju;rw[VR (by rw[N6,h]),L5]
theorem PA:∀{l:List (List Ab)},(∀v∈l,HW v=0)→D6 (l.map λv=>(IS v).1)=(l,0)
 | [],_=>rfl
 | v::r,h=>by
  rw[YR,D6,U9 (h v List.mem_cons_self),PA (λx hx=>h x (List.mem_cons_of_mem _ hx))];rfl
theorem P8:∀{l:List Ah},(D6 l).2=0→((D6 l).1.map λv=>(IS v).1)=l
 | [],_=>rfl
 | s::r,h=>by
  rw[D6] at h ⊢
  by_cases h0:(Ju s).2=0
  ·rw[Yw (λx=>x h0)] at h ⊢
   by_cases h1:(D6 r).2=0
   ·rw[Y6 h1,YR,P8 h1];obtain⟨_,e,_⟩:=Rq (KL s) h0;rw[e]
   ·rw[Yw h1] at h;exact absurd h h1
  ·rw[Y6 h0] at h;exact absurd h h0
theorem N3:∀(l:List Ah),(∀f∈l,f.length≤4000)→(l.flatMap Kj).length≤l.length*4002
 | [],_=>by simp
 | f::l,h=>by
  have:=N3 l (λx hx=>h x (List.mem_cons_of_mem _ hx));have h1:=h f List.mem_cons_self;rw[List.flatMap_cons,Yn,Yk];have:(Kj f).length=f.length+2:=by simp[Kj]
  omega
theorem RW {l:List Ah}(h:QY l=true):(JO l).length≤1000000:=by
 unfold QY at h;simp only[Yl,Yg,YD] at h;have:=N3 l h.2;unfold JO;rw[Yk];have h2:=h.1;omega
theorem RT {l:List Ah}(h:(If l).2=0):QY l=true∧If l=(JO l,0):=by
 unfold If at h ⊢
 cases ho:QY l with
 | true=>exact⟨rfl,rfl⟩
 | false=>rw[ho] at h;cases h
theorem Uy (op:Ax)(now:Int):(MS op now).1.length≤1000000:=by
 unfold MS
 split
 ·exact YE _
 ·split
  ·exact YE _
  ·unfold If
   cases ho:QY (Jc op now) with
   | true=>exact RW ho
   | false=>exact YE _
theorem U6 {op:Ax}{now:Int}(h:(MS op now).2=0):Ls (MS op now).1=(op,now,0):=by
 unfold MS at h ⊢
 by_cases he:Hp op=0
 ·rw[Yw (λx=>x he)] at h ⊢
  by_cases ht:now<0∨1073741824<now
  ·rw[Y6 ht] at h;cases h
  ·rw[Yw ht] at h ⊢;obtain⟨ho,hp⟩:=RT h;obtain⟨_,_,_,_,ev⟩:=P3 he;obtain⟨b1,b2⟩:=Ss (m:=now) (by omega) (by omega);rw[hp];unfold Ls;rw[Te ho];have h3:Aj (Jc op now) 3=Lib.itoa now:=rfl;have h4:(Jc op now).drop 4=op.fArgs.map λv=>(IS v).1:=rfl;have hl : ¬ (Jc op now).length<4:=by unfold Jc;simp
   have hm:Mk (Jc op now) op.fArgs=op:=rfl;simp only[h3,h4,b1,b2,PA ev];rw[Yw (λx=>x rfl),Yw hl,Yw (λx=>x rfl),Yw (λx=>x rfl)];unfold Ur;rw[hm,Yw (λx=>x he),h3,b2,Yw ht]
 ·rw[Y6 he] at h;exact absurd h he
theorem Uw {s:Ah}(h:(Ls s).2.2=0):MS (Ls s).1 (Ls s).2.1=(s,0):=by
 unfold Ls at h ⊢
 by_cases h1:(Cz s).2=0
 ·rw[Yw (λx=>x h1)] at h ⊢;obtain⟨hok,hpk⟩:=LW (s:=s) (l:=(Cz s).1) (by rw[← h1]);generalize(Cz s).1=l at *
  by_cases h2:l.length<4
  ·rw[Y6 h2] at h;cases h
  ·rw[Yw h2] at h ⊢
   by_cases h3:BD (Aj l 3)=0
   ·rw[Yw (λx=>x h3)] at h ⊢
    by_cases h4:(D6 (l.drop 4)).2=0
    ·rw[Yw (λx=>x h4)] at h ⊢;have hm:=P8 h4;generalize(D6 (l.drop 4)).1=args at *;unfold Ur at h ⊢
     by_cases h5:Hp (Mk l args)=0
     ·rw[Yw (λx=>x h5)] at h ⊢
      by_cases h6:Bw (Aj l 3)<0∨1073741824<Bw (Aj l 3)
      ·rw[Y6 h6] at h;cases h
      ·rw[Yw h6] at h ⊢;unfold MS;rw[Yw (λx=>x h5),Yw h6];have hf:Jc (Mk l args) (Bw (Aj l 3))=l:=by
        unfold Jc;have e:(Mk l args).fArgs=args:=rfl;rw[e,hm,OZ h3];obtain⟨a,b,c,d,r,rfl⟩:∃a b c d r,l=a::b::c::d::r:=by
         match l,h2 with
         | a::b::c::d::r,_=>exact⟨a,b,c,d,r,rfl⟩
         | [],h=>simp at h
         | [_],h=>simp at h
         | [_,_],h=>simp at h
         | [_,_,_],h=>simp at h
        rfl
       show If (Jc (Mk l args) (Bw (Aj l 3)))=_;rw[hf];unfold If;rw[hok,hpk];rfl
     ·rw[Y6 h5] at h;exact absurd h h5
    ·rw[Y6 h4] at h;exact absurd h h4
   ·rw[Y6 h3] at h;exact absurd h h3
 ·rw[Y6 h1] at h;exact absurd h h1
theorem Xg:US 4000 UP:=⟨by decide,by decide,by decide,by decide,λv hv=>by cases hv⟩
theorem WV (s:Ah):US 4000 (Ls s).1∧(Ls s).1.fArgs.length≤64:=by
 have hz:US 4000 UP∧UP.fArgs.length≤64:=⟨Xg,by decide⟩
 unfold Ls
 by_cases h1:(Cz s).2=0
 ·rw[Yw (λx=>x h1)];have hsm:∀f∈(Cz s).1,f.length≤4000:=λf hf=>Na hf h1;have ha:=QK h1
  split
  ·exact hz
  ·split
   ·exact hz
   ·split
    ·exact hz
    ·unfold Ur;obtain⟨k1,k2⟩:=On ((Cz s).1.drop 4);rw[YY] at k1
     split
     ·exact hz
     ·split
      ·exact hz
      ·exact⟨TP hsm (by omega) k2,by show(D6 ((Cz s).1.drop 4)).1.length≤64;omega⟩
 ·rw[Y6 h1];exact hz
theorem UH {op:Ax}(h2:Iq op=false):op.fArgs.length<30000:=by
 unfold Iq at h2;simp only[Yz,Yf] at h2;omega
theorem Qy (op:Ax)(now:Int)(rec:Ah)(ho:op.fArgs.all (λv=>v.all Jl)=true):Mo 30000 op now rec=some true:=by
  unfold Mo;rw[Sm (by omega),Pw,Option.isSome_some,Cl rfl,L5]
  by_cases hb:Iq op=false∧rec.length≤2000
  · rw[hb.1,AH (by rw[Yo (by have:=hb.2;omega)];rfl)]
    have hA:=US.of hb.1 ho;have hal:=UH hb.1;have hr:=hb.2;obtain⟨hD,hD2⟩:=WV rec;have hE:=Uy op now;have hT:∀{X Y:Option Bool},X=some true→Y=some true→(B8 (GF 30000 rec) λha=>B3 (decide (ha.2.2=0)) (B8 (GD 30000 ha.1 ha.2.1) λhd=>B3 (((!decide (hd.2=0))||(!decide (hd.1=rec)))) (some false) X) Y)=some true:=λhX hY=>by
      rw[Mg (by decide) (by omega),Bf rfl]
      by_cases h0:(Ls rec).2.2=0
      · rw[AZ (Yr h0),Mf hD (by decide) (by decide) (by omega),Bf rfl,Uw h0,AH (by simp),hX]
      · rw[AH (Yo h0),hY]
    rw[Mf hA (by decide) (by decide) hal,Bf rfl]
    by_cases h0:(MS op now).2=0
    · rw[AZ (Yr h0),Mg (by decide) hE,Bf rfl,U6 h0,Qd hA (by decide) (by decide) hal,Yr rfl,Yr rfl,Yr rfl,L5]
      exact hT rfl rfl
    · rw[AH (Yo h0)]
      exact hT rfl rfl
  · rw[AZ (by
      cases h2:Iq op with
      | true=>rfl
      | false=>rw[Yr (by
                                        have : ¬ rec.length≤2000:=λh=>hb ⟨h2,h⟩;omega)];rfl)]
    rfl
end Go.Proofs.YtogdediiodmnbaaGreatDoor
namespace Go.Proofs.YtogdediiodmnbaaGreatDoor.lawEntityBack
open Go
set_option linter.unusedVariables false
theorem Vz {op:Ax}(h:T7 op=true):op.fArgs.all (λv=>v.all Jl)=true:=by
 unfold T7 at h;simp only[Yl] at h;exact List.all_eq_true.2 λv hv=>(Bool.and_eq_true_iff.1 (List.all_eq_true.1 h.2.1 v hv)).1
theorem XW:Yd:=λop now rec h0 _ _=>⟨30000,Qy op now rec (Vz h0)⟩
end Go.Proofs.YtogdediiodmnbaaGreatDoor.lawEntityBack
