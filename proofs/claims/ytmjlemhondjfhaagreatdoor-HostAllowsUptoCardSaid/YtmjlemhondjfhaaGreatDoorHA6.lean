/-
  Texts of the proof, put together: LvH, LvI, LvJ, LvK, LvL, LvM, LvN, LvO, LvP, LaB, LaC, LaD, LaE, LaL, LaO, LaP, LaQ, LaA0, LaR, LwHAllows.
-/
import Derived.Test.YtmjlemhondjfhaaGreatDoorHA5
import Derived.Laws.BitsLemmas
namespace Go.Proofs.YtmjlemhondjfhaaGreatDoor
open Go
set_option linter.unusedVariables false
set_option linter.unusedSimpArgs false
def Pu (m:Bool)(last:Option Ai)(k:Nat)(xs:List Ac):Option (Fo×List Ac):=J0 (xs.length+1) m last k xs
theorem Nn (m:Bool)(last:Option Ai)(xs:List Ac):Pu m last 0 xs=some (.nil,xs):=rfl
theorem HZ (m:Bool)(last:Option Ai)(k:Nat)(xs:List Ac):Pu m last (k+1) xs =
  match JH m last xs with
  | none=>none
  | some (key,ys)=>match Ji ys with
   | none=>none
   | some (f,zs)=>match Pu m key k zs with
    | none=>none
    | some (r,us)=>some (f.put key r,us):=by
 unfold Pu Ji;rw[Jg (xs.length+1) (xs.length+2) m last (k+1) xs (by omega) (by omega),YW]
 cases hk:JH m last xs with
 | none=>rfl
 | some p=>
  obtain⟨key,ys⟩:=p;have h1:=(Oz hk).1;have hy:ys.length≤xs.length:=by rw[h1];simp
  simp only;rw[Jg (xs.length+2) (ys.length+1) false none 1 ys (by omega) (by omega)]
  cases hf:J0 (ys.length+1) false none 1 ys with
  | none=>rfl
  | some q=>
   obtain⟨f,zs⟩:=q;have h2:=(IK _ _ _ _ _ _ _ hf).1;have hz:zs.length≤ys.length:=by rw[h2];simp
   simp only;rw[Jg (xs.length+1) (zs.length+1) m key k zs (by omega) (by omega)]
   all_goals (cases J0 (zs.length+1) m key k zs<;>rfl)
theorem QX {S O:Type}{body:S→Option (Stp S O)}{n:Nat}{s s':S}{o:O}(h:body s=some (.next s'))(h':BX body n s'=some o):BX body (n+1) s=some o:=by rw[BX,h];exact h'
theorem L9 {S O:Type}{body:S→Option (Stp S O)}{n:Nat}{s:S}{o:O}(h:body s=some (.out o)):BX body (n+1) s=some o:=by rw[BX,h]
theorem Tw:Ji []=none:=rfl
theorem Jh (c:Ac)(r:List Ac):Ji (c::r)=bif !pl c then none else bif decide (0<c.fN) then(match Pu (decide (c.fKind=6)) none c.fN.toNat r with
  | none=>none
  | some (kids,zs)=>some (.node none c kids .nil,zs)) else some (.cell none c .nil,r):=by
 unfold Ji;rw[J0];simp only[JH,AeM]
 cases hp:pl c with
 | false=>rfl
 | true=>
  simp only[AeL,AeM]
  cases hn:decide (0<c.fN) with
  | true=>
   simp only[AeW];unfold Pu;rw[AeZ]
   cases hq:J0 (r.length+1) (decide (c.fKind=6)) none c.fN.toNat r with
   | none=>rfl
   | some q=>obtain⟨kids,zs⟩:=q;rfl
  | false=>rfl
theorem Tv {f:Fo}(h:f.one=true)(key:Option Ai)(r:Fo):(f.put key r).flat=Cj key++(f.flat++r.flat):=by
 cases f with
 | nil=>cases h
 | cell k c r'=>
  cases k with
  | some s=>cases h
  | none=>cases r' with
   | nil=>simp[Fo.put,Fo.flat,Cj]
   | cell _ _ _=>cases h
   | node _ _ _ _=>cases h
 | node k c kids r'=>
  cases k with
  | some s=>cases h
  | none=>cases r' with
   | nil=>simp[Fo.put,Fo.flat,Cj]
   | cell _ _ _=>cases h
   | node _ _ _ _=>cases h
theorem Ze {f:Fo}(h:f.one=true):1≤f.flat.length:=by
 cases f with
 | nil=>cases h
 | cell k c r'=>simp[Fo.flat];omega
 | node k c kids r'=>simp[Fo.flat];omega
theorem KV {xs ys:List Ac}{f:Fo}(h:Ji xs=some (f,ys)):xs=f.flat++ys∧f.wf false none=true∧f.one=true:=
 ⟨(IK _ _ _ _ _ _ _ h).1,(IK _ _ _ _ _ _ _ h).2.1,Wd h⟩
def JU (v:List Ac)(i:Int):Int:=match Ji (v.drop i.toNat) with
 | none=>-1
 | some (f,_)=>i+f.flat.length
def M6 (m:Bool)(last:Option Ai)(v:List Ac)(i:Int)(k:Nat):Int:=match Pu m last k (v.drop i.toNat) with
 | none=>-1
 | some (f,_)=>i+f.flat.length
theorem QR {v:List Ac}{i:Int}(h0:0≤i)(h1:i≤v.length):JU v i = -1∨(i<JU v i∧JU v i≤v.length):=by
 unfold JU
 cases h:Ji (v.drop i.toNat) with
 | none=>exact .inl rfl
 | some q=>
  obtain⟨f,ys⟩:=q;obtain⟨h2,_,h3⟩:=KV h;have:=Ze h3;have hl:(v.drop i.toNat).length=f.flat.length+ys.length:=by rw[h2];simp
  rw[Af9] at hl
  right;simp only;omega
structure RfA (F M:Nat) (v:List Ac):Prop where
 hM:M≤1152921504606846976
 hv:v.length≤M
 hF:M<F
 hc:∀c∈v,c.fStr.length≤M
theorem X0 (ok:Bool){i:Int}(h0:0≤i)(h1:i≤1152921504606846976):BU ok i=some (bif ok then i+1 else -1):=by
 unfold BU
 cases ok
 ·rfl
 ·rw[Bl rfl,AK (by omega) (by omega)];rfl
theorem Wc {F:Nat}{c:Ac}(hF:c.fStr.length<F)(hs:c.fStr.length≤1152921504606846976):Qk F c=some (decide (c.fKind=4)&&pl c):=by
 unfold Qk;rw[Xr hF (by omega)];simp only[Option.isSome_some,ov,Afq,imp,Afa,AX,AeW]
 cases h4:decide (c.fKind=4) with
 | false=>rfl
 | true=>
  simp only[AeH] at h4;simp[pl,h4]
theorem DM {v:List Ac}{i:Int}{c:Ac}{r:List Ac}(h0:0≤i)(h:v.drop i.toNat=c::r):Ax v i=c:=by
 have:=(CB h0 h).1;simp[Ax,this]
section
variable {M : Nat} {v : List Ac}
theorem L2 {F:Nat}(hA:RfA F M v){g:List Ac→Int→Option Int}{n:Int}(hn:n≤9223372036854775807):∀(L:Nat) (i x:Int),0≤i→i≤v.length→0≤x→x≤n→(∀j,i≤j→j≤v.length→g v j=some (JU v j))→v.length-i.toNat<L→
  ∃o,BX (λσ=>Dq v n g σ.1 σ.2) L (i,x)=some o∧BT (λν=>EZ ν) o=some (M6 false none v i (n-x).toNat)
 | 0,i,x,_,_,_,_,_,h=>by omega
 | L+1,i,x,h0,h1,hx,hxn,hg,hL=>by
  cases hxl:decide (x<n) with
  | false=>
   refine⟨.go i,L9 (by show Dq v n g i x=_;unfold Dq;rw[Bd hxl]),?_⟩;simp only[AeG] at hxl;rw[show(n-x).toNat=0 from by omega];simp[BT,EZ,M6,Nn,Fo.flat]
  | true=>
   have hb:Dq v n g i x=Bz (decide (JU v i<0)) (some (.out (.ret (-1)))) (AX (BG .i64 (x+1))<|some (.next (JU v i,x+1))):=by unfold Dq;rw[Bl hxl,hg i (Afx i) h1,Ct rfl]
   simp only[AeH] at hxl;obtain⟨k,hk⟩:∃k,(n-x).toNat=k+1:=⟨(n-x).toNat-1,by omega⟩
   rw[hk];have e:M6 false none v i (k+1)=bif decide (JU v i<0) then -1 else M6 false none v (JU v i) k:=by
    unfold M6;rw[HZ];simp only[JH,AeM]
    cases hp:Ji (v.drop i.toNat) with
    | none=>simp[JU,hp]
    | some q=>
     obtain⟨f,ys⟩:=q;obtain⟨q1,q2,q3⟩:=KV hp;have hi:JU v i=i+f.flat.length:=by simp[JU,hp]
     have hd:v.drop (JU v i).toNat=ys:=by rw[hi];exact DT h0 q1
     rw[hd,AeJ (by omega)];simp only[AeM]
     cases hr:Pu false none k ys with
     | none=>rfl
     | some q=>
      obtain⟨r,zs⟩:=q;simp only[Tv q3,Cj,AfF,Afl,hi];omega
   rw[e];rcases QR (v:=v) h0 h1 with hneg | ⟨hlt,hle⟩
   ·exact⟨.ret (-1),L9 (hb.trans (by rw[hneg,Bl (by decide)])),by rw[hneg];rfl⟩
   ·have hM:=hA.hM;have hvM:=hA.hv;obtain⟨o,ho1,ho2⟩:=L2 hA hn L (JU v i) (x+1) (by omega) hle (by omega) (by omega) (λj hj=>hg j (by omega)) (by omega);exact⟨o,QX (hb.trans (by rw[Bd (AeJ (by omega)),AK (by omega) (by omega)])) ho1,by rw[ho2,show(n-(x+1)).toNat=k from by omega,AeJ (by omega)];rfl⟩
theorem Pn {F:Nat}(hA:RfA F M v){g:List Ac→Int→Option Int}{n:Int}(hn:n≤9223372036854775807):∀(L:Nat) (i x:Int) (last:Ai),0≤i→i≤v.length→0≤x→x≤n→(∀j,i≤j→j≤v.length→g v j=some (JU v j))→v.length-i.toNat<L→
  ∃o,BX (λσ=>DN F v n g σ.1 σ.2.1 σ.2.2) L (i,last,x)=some o∧BT (λν=>HX ν) o=some (M6 true (bif decide (0<x) then some last else none) v i (n-x).toNat)
 | 0,i,x,_,_,_,_,_,_,h=>by omega
 | L+1,i,x,last,h0,h1,hx,hxn,hg,hL=>by
  have hM:=hA.hM;have hvM:=hA.hv;have hMF:=hA.hF
  cases hxl:decide (x<n) with
  | false=>
   refine⟨.go i,L9 (by show DN F v n g i last x=_;unfold DN;rw[Bd hxl]),?_⟩;simp only[AeG] at hxl;rw[show(n-x).toNat=0 from by omega];simp[BT,HX,M6,Nn,Fo.flat]
  | true=>
   have hxl':=hxl;simp only[AeH] at hxl;obtain⟨k,hk⟩:∃k,(n-x).toNat=k+1:=⟨(n-x).toNat-1,by omega⟩
   rw[hk]
   cases hd:v.drop i.toNat with
   | nil=>
    have hl:v.length≤i.toNat:=by simpa using hd
    refine⟨.ret (-1),L9 (by
     show DN F v n g i last x=_;unfold DN;rw[Bl hxl',Db (by simp[imp,show(v.length:Int)≤i from by omega]),Db (by simp[imp,show(v.length:Int)≤i from by omega]),Bl (by simp[show(v.length:Int)≤i from by omega])]),?_⟩
    simp[BT,M6,hd,HZ,JH]
   | cons c r=>
    obtain⟨g1,g2,g3⟩:=CB h0 hd;have hcM:=hA.hc c (Afc g1);have hat:=DM h0 hd;have hnl:decide ((v.length:Int)≤i)=false:=by simp;omega
    have hb:DN F v n g i last x=Bz (!(decide (c.fKind=4)&&pl c)||decide (0<x)&&(DX c.fStr last||decide (c.fStr=last))) (some (.out (.ret (-1)))) (Bv (g v (i+1)) λha=>Bz (decide (ha<0)) (some (.out (.ret (-1)))) (AX (BG .i64 (x+1))<|some (.next (ha,c.fStr,x+1)))):=by
     unfold DN;rw[Bl hxl',Db (by simp only[imp];rw[Oj h0 g3];simp),hat,Wc (by omega) (by omega),Db (by simp[imp])];simp only[hnl,ov,Afq,AeS];rw[Bm h0 g3,AK (by omega) (by omega)]
    have hpk:JH true (bif decide (0<x) then some last else none) (c::r)=bif (!(decide (c.fKind=4)&&pl c)||decide (0<x)&&(DX c.fStr last||decide (c.fStr=last))) then none else some (some c.fStr,r):=by
     simp only[JH,AeW]
     cases h4:decide (c.fKind=4) with
     | false=>simp
     | true=>
      cases hp:pl c with
      | false=>simp
      | true=>
       have hok:=(RK hp (by simpa using h4)).2
       cases h0x:decide (0<x) with
       | false=>simp[Dw,hok]
       | true=>cases hs:(DX c.fStr last||decide (c.fStr=last))<;>simp[Dw,hok,hs]
    cases ht:(!(decide (c.fKind=4)&&pl c)||decide (0<x)&&(DX c.fStr last||decide (c.fStr=last))) with
    | true=>
     rw[ht] at hpk;refine⟨.ret (-1),L9 (hb.trans (Bl ht)),?_⟩;simp only[M6,hd,HZ,hpk,AeW];rfl
    | false=>
     rw[ht] at hpk;rw[Bd ht,hg (i+1) (by omega) (by omega),Ct rfl] at hb;have e:M6 true (bif decide (0<x) then some last else none) v i (k+1)=bif decide (JU v (i+1)<0) then -1 else M6 true (some c.fStr) v (JU v (i+1)) k:=by
      unfold M6;rw[hd,HZ,hpk];simp only[AeM];have hx:JU v (i+1)=match Ji r with | none=>-1 | some (f,_)=>i+1+f.flat.length:=by unfold JU;rw[g2]
      cases hp:Ji r with
      | none=>rw[hp] at hx;simp[hx]
      | some q=>
       obtain⟨f,ys⟩:=q;obtain⟨q1,q2,q3⟩:=KV hp;rw[hp] at hx;simp only at hx;have hd2:v.drop (JU v (i+1)).toNat=ys:=by rw[hx];exact DT (by omega) (g2.trans q1)
       rw[hd2,AeJ (by omega)];simp only[AeM]
       cases hr:Pu true (some c.fStr) k ys with
       | none=>rfl
       | some q=>
        obtain⟨r',zs⟩:=q;simp only[Tv q3,Cj,Afl,AeZ,Af7,hx];omega
     rw[e];rcases QR (v:=v) (i:=i+1) (by omega) (by omega) with hneg | ⟨hlt,hle⟩
     ·exact⟨.ret (-1),L9 (hb.trans (by rw[hneg,Bl (by decide)])),by rw[hneg];rfl⟩
     ·obtain⟨o,ho1,ho2⟩:=Pn hA hn L (JU v (i+1)) (x+1) c.fStr (by omega) hle (by omega) (by omega) (λj hj=>hg j (by omega)) (by omega);exact⟨o,QX (hb.trans (by rw[Bd (AeJ (by omega)),AK (by omega) (by omega)])) ho1,by rw[ho2,show(n-(x+1)).toNat=k from by omega,AeQ (show(0:Int)<x+1 from by omega),AeJ (by omega)];rfl⟩
theorem TC {i:Int}{c:Ac}{r:List Ac}(h0:0≤i)(hd:v.drop i.toNat=c::r)(hp:pl c=true):JU v i=M6 (decide (c.fKind=6)) none v (i+1) c.fN.toNat:=by
 have g2:=(CB h0 hd).2.1;have hN:=AaQ hp;unfold JU M6;rw[hd,Jh,g2,hp];simp only[AeL,AeM]
 cases hn:decide (0<c.fN) with
 | true=>
  simp only[AeW]
  cases hq:Pu (decide (c.fKind=6)) none c.fN.toNat r with
  | none=>rfl
  | some q=>
   obtain⟨kids,zs⟩:=q;simp only[Fo.flat,Cj,AfF,AeZ,AfD];omega
 | false=>
  simp only[AeG] at hn;rw[show c.fN.toNat=0 from by omega,Nn];simp[Fo.flat,Cj]
theorem Tm (hA:RfA (M+1) M v)(hN:∀c∈v,c.fN≤9223372036854775807):∀(d F:Nat) (i:Int),0≤i→i≤v.length→v.length-i.toNat=d→M+2*d+3<F→DY F v i=some (JU v i):=by
 have hM:=hA.hM;have hvM:=hA.hv;intro d
 induction d using Nat.strongRecOn with
 | ind d ih=>
  intro F i h0 h1 hd hF;obtain⟨F,rfl⟩:∃G,F=G+1:=⟨F-1,by omega⟩
  obtain⟨F,rfl⟩:∃G,F=G+1:=⟨F-1,by omega⟩
  rw[DY];unfold RE
  cases hdr:v.drop i.toNat with
  | nil=>
   have hl:v.length≤i.toNat:=by simpa using hdr
   rw[Bl (by simp;omega)];simp[JU,hdr,Tw]
  | cons c r=>
   obtain⟨g1,g2,g3⟩:=CB h0 hdr;have hcM:=hA.hc c (Afc g1);have hcN:=hN c (Afc g1);rw[Bd (by simp;omega),Bm h0 g3,DM h0 hdr];simp only[X0 _ h0 (show i≤1152921504606846976 by omega),Option.isSome_some,ov,Afq,imp,Afa,Db (x:=_) (rfl:true=true)];have hg:∀j,i+1≤j→j≤v.length→DY F v j=some (JU v j):=λj hj hj2=>ih (v.length-j.toNat) (by omega) F j (by omega) hj2 rfl (by omega);have hpl0:pl c=false→JU v i = -1:=λhp=>by simp[JU,hdr,Jh,hp]
   have hleaf:pl c=true→c.fN=0→JU v i=i+1:=λhp h0'=>by simp[JU,hdr,Jh,hp,h0',Fo.flat,Cj]
   have hscal:∀b:Bool,pl c=b→(b=true→c.fN=0)→JU v i=bif b then i+1 else -1:=λb hb hz=>by
    cases b
    ·exact hpl0 hb
    ·exact hleaf hb (hz rfl)
   by_cases k1:c.fKind=1
   ·rw[Bl (by simp[k1])];have hp:pl c=(decide (c.fInt=0)&&(decide (c.fStr=[])&&decide (c.fN=0))):=by simp[pl,k1]
    rw[hscal _ hp (λh=>by simp at h;exact h.2.2)]
    cases decide (c.fInt=0)<;>cases decide (c.fStr=[])<;>cases decide (c.fN=0)<;>rfl
   rw[Bd (by simp[k1])]
   by_cases k2:c.fKind=2
   ·rw[Bl (by simp[k2])];have hp:pl c=((decide (c.fInt=0)||decide (c.fInt=1))&&(decide (c.fStr=[])&&decide (c.fN=0))):=by simp[pl,k2]
    rw[hscal _ hp (λh=>by simp at h;exact h.2.2)]
    cases decide (c.fInt=0)<;>cases decide (c.fInt=1)<;>cases decide (c.fStr=[])<;>cases decide (c.fN=0)<;>rfl
   rw[Bd (by simp[k2])]
   by_cases k3:c.fKind=3
   ·rw[Bl (by simp[k3])];have hp:pl c=(decide (c.fStr=[])&&decide (c.fN=0)):=by simp[pl,k3]
    rw[hscal _ hp (λh=>by simp at h;exact h.2)]
    cases decide (c.fStr=[])<;>cases decide (c.fN=0)<;>rfl
   rw[Bd (by simp[k3])]
   by_cases k4:c.fKind=4
   ·rw[Bl (by simp[k4]),Wc (by omega) (by omega),Ct rfl,Ct rfl];rw[AeQ k4,AeP,hscal (pl c) rfl (λhp=>by have:=(RK hp k4).1;rw[this])]
   rw[Bd (by simp[k4])]
   by_cases k5:c.fKind=5
   ·have hp:pl c=(decide (c.fInt=0)&&(decide (c.fStr=[])&&decide (0≤c.fN))):=by simp[pl,k5]
    rw[show(decide (c.fKind=5)&&(decide (c.fInt=0)&&(decide (c.fStr=[])&&decide (0≤c.fN))))=pl c from by rw[hp,AeQ k5,AeP]];have k5' : ¬ c.fKind=6:=by omega
    cases hb:pl c with
    | false=>rw[Bd rfl,Bd (by simp[k5]),hpl0 hb]
    | true=>
     have hn0:=AaQ hb;rw[Bl rfl,AK (by omega) (by omega),HY];unfold JC;obtain⟨o,ho1,ho2⟩:=L2 (F:=F) ⟨hM,hvM,by omega,hA.hc⟩ hcN F (i+1) 0 (by omega) (by omega) (Afx 0) hn0 hg (by omega);rw[Ct ho1,ho2,Ct rfl,TC h0 hdr hb,AeJ k5',Int.sub_zero]
   rw[Bd (by simp[k5])]
   by_cases k6:c.fKind=6
   ·have hp:pl c=(decide (c.fInt=0)&&(decide (c.fStr=[])&&decide (0≤c.fN))):=by simp[pl,k6]
    rw[show(decide (c.fKind=6)&&(decide (c.fInt=0)&&(decide (c.fStr=[])&&decide (0≤c.fN))))=pl c from by rw[hp,AeQ k6,AeP]]
    cases hb:pl c with
    | false=>rw[Bd rfl,hpl0 hb]
    | true=>
     have hn0:=AaQ hb;rw[Bl rfl,AK (by omega) (by omega),Ni];unfold Ox;obtain⟨o,ho1,ho2⟩:=Pn (F:=F) ⟨hM,hvM,by omega,hA.hc⟩ hcN F (i+1) 0 [] (by omega) (by omega) (Afx 0) hn0 hg (by omega);rw[Ct ho1,ho2,Ct rfl,TC h0 hdr hb,AeQ k6,Int.sub_zero];rfl
   ·rw[Bd (by simp[k6]),hpl0 (by simp[pl,k1,k2,k3,k4,k5,k6])]
theorem Va (hA:RfA (M+1) M v)(hN:∀c∈v,c.fN≤9223372036854775807){F:Nat}(hF:3*M+3<F):Mw F v=some (decide (JU v 0=v.length)):=by
 have hvM:=hA.hv;unfold Mw;rw[Tm hA hN v.length F 0 (Afx 0) (by omega) (by simp) (by omega)];simp only[imp,Option.isSome_some,Afa,Db,ov,Afq]
 cases v with
 | nil=>simp[JU,Tw]
 | cons c r=>
  rw[show decide (0<((c::r).length:Int))=true from by simp,AeP]
  first | done | rfl
end
theorem We {m:Bool}{last key:Option Ai}{r:List Ac}(h:Dw m last key=true):JH m last (Cj key++r)=some (key,r):=by
 cases key with
 | none=>
  have:m=false:=by simpa[Dw] using h
  subst this;rfl
 | some s=>
  have h':=h;simp only[Dw,AeI] at h;obtain⟨⟨h1,h2⟩,h3⟩:=h;subst h1;have hp:pl ⟨4,0,s,0⟩=true:=by simp[pl,h2]
  show(bif pl ⟨4,0,s,0⟩&&decide ((4:Int)=4)&&Dw true last (some s) then _ else _)=_;rw[hp,h'];rfl
theorem O0:∀(f:Fo) (m:Bool) (last:Option Ai) (ys:List Ac),f.wf m last=true→Pu m last f.cnt (f.flat++ys)=some (f,ys)
 | .nil,_,_,_,_=>rfl
 | .cell k c r,m,last,ys,hw=>by
  simp only[Fo.wf,AeI,Afe] at hw;obtain⟨⟨⟨w1,w2⟩,w3⟩,w4⟩:=hw;simp only[Fo.cnt,Fo.flat,Af2,Af3];rw[HZ,We w1];simp only[Jh,w2,w3,AeL,AeM,O0 r m k ys w4,Fo.put]
 | .node k c kids r,m,last,ys,hw=>by
  simp only[Fo.wf,AeI,AeH] at hw;obtain⟨⟨⟨⟨⟨w1,w2⟩,w3⟩,w5⟩,w6⟩,w4⟩:=hw;simp only[Fo.cnt,Fo.flat,Af2,Af3];rw[HZ,We w1];have e:c.fN.toNat=kids.cnt:=by omega
  simp only[Jh,w2,AeQ w3,AeL,AeM,AeW,e,O0 kids _ none (r.flat++ys) w6,O0 r m k ys w4,Fo.put]
theorem AaP {f:Fo}{ys:List Ac}(h1:f.one=true)(hw:f.wf false none=true):Ji (f.flat++ys)=some (f,ys):=by
 have:=O0 f false none ys hw;have hc:f.cnt=1:=by
  cases f with
  | nil=>cases h1
  | cell k c r=>cases k with
   | some _=>cases h1
   | none=>cases r with
    | nil=>rfl
    | _=>cases h1
  | node k c kids r=>cases k with
   | some _=>cases h1
   | none=>cases r with
    | nil=>rfl
    | _=>cases h1
 rw[hc] at this;exact this
structure Kh (M:Nat) (v:List Ac):Prop where
 hM:M≤1000000000
 hv:v.length≤M
 hc:∀c∈v,c.fStr.length≤M∧BG .i64 c.fInt=true∧c.fN≤9223372036854775807
theorem Kh.lk {M F:Nat}{v:List Ac}(h:Kh M v)(hF:M<F):WS F M v:=⟨by have:=h.hM;omega,by have:=h.hM;omega,h.hv,hF,h.hc⟩
theorem Kh.rf {M F:Nat}{v:List Ac}(h:Kh M v)(hF:M<F):RfA F M v:=⟨by have:=h.hM;omega,h.hv,hF,λc hc=>(h.hc c hc).1⟩
theorem Kh.drop {M:Nat}{v:List Ac}(h:Kh M v)(k:Nat):Kh M (v.drop k):=⟨h.hM,by have:=h.hv;rw[Af9];omega,λc hc=>h.hc c (List.mem_of_mem_drop hc)⟩
theorem Kh.take {M:Nat}{v:List Ac}(h:Kh M v)(k:Nat):Kh M (v.take k):=⟨h.hM,by have:=h.hv;rw[Af8];omega,λc hc=>h.hc c (List.mem_of_mem_take hc)⟩
def whole (v:List Ac):Option Fo:=match Ji v with
 | some (f,[])=>some f
 | _=>none
theorem OP {v:List Ac}{f:Fo}(h:whole v=some f):v=f.flat∧f.wf false none=true∧f.one=true:=by
 unfold whole at h
 cases hp:Ji v with
 | none=>rw[hp] at h;cases h
 | some q=>
  obtain⟨g,ys⟩:=q;rw[hp] at h
  cases ys with
  | cons _ _=>cases h
  | nil=>
   cases h
   obtain⟨h1,h2,h3⟩:=KV hp;exact⟨by simpa using h1,h2,h3⟩
def Ab7 (f:Fo):Int:=
 bif f.flat.any Lr then 2 else bif f.flat.any JV||(decide (200<f.flat.length)||(decide (8<f.dep)||decide (4000<(f.txt true).length))) then 3 else 0
def GH (v:List Ac):Int:=match whole v with
 | none=>1
 | some f=>Ab7 f
theorem Wi {f:Fo}(h1:f.one=true):f.cnt=1:=by
 cases f with
 | nil=>cases h1
 | cell k c r=>cases k with
  | some _=>cases h1
  | none=>cases r with
   | nil=>rfl
   | _=>cases h1
 | node k c kids r=>cases k with
  | some _=>cases h1
  | none=>cases r with
   | nil=>rfl
   | _=>cases h1
theorem RJ (s:Ai):Nm s≤2*s.length+2+s.length:=by
 have h1:s.count 34≤s.length:=List.count_le_length;have h2:s.count 92≤s.length:=List.count_le_length;unfold Nm;omega
theorem AcE {c:Ac}{M:Nat}(hp:pl c=true)(hs:c.fStr.length≤M)(hi:(Lib.itoa c.fInt).length≤21):lsz c≤3*M+21:=by
 have:=RJ c.fStr;unfold lsz
 cases h1:decide (c.fKind=1) with
 | true=>simp only[AeW];omega
 | false=>
  cases h2:decide (c.fKind=2) with
  | true=>
   simp[pl,h1,h2] at hp;simp only[AeM,AeW];omega
  | false=>
   cases h3:decide (c.fKind=3) with
   | true=>simp only[AeM,AeW];omega
   | false=>cases h4:decide (c.fKind=4)<;>simp only[AeM,AeW]<;>omega
theorem S0 {M:Nat}:∀{f:Fo} {m:Bool} {l:Option Ai},f.wf m l=true→(∀c∈f.flat,c.fStr.length≤M∧BG .i64 c.fInt=true∧c.fN≤9223372036854775807)→f.byt+f.cnt≤(3*M+24)*f.flat.length
 | .nil,_,_,_,_=>by simp[Fo.byt,Fo.flat,Fo.cnt]
 | .cell k c r,m,l,hw,hc=>by
  simp only[Fo.wf,AeI,Afe] at hw;obtain⟨⟨⟨w1,w2⟩,w3⟩,w4⟩:=hw;simp only[Fo.flat] at hc;have ih:=S0 w4 (λx hx=>hc x (by simp[hx]));obtain⟨c1,c2,c3⟩:=hc c (by simp);have i64:=IF c2;have hl:=AcE w2 c1 (Lib.itoa_length_le c.fInt i64.1 i64.2);have hk:Sb k≤(3*M+24)*(Cj k).length:=by
   cases k with
   | none=>simp[Sb,Cj]
   | some s=>
    have:=(hc ⟨4,0,s,0⟩ (by simp[Cj])).1;have h2:=RJ s;simp only at this;simp only[Sb,Cj,Af1];omega
  simp only[Fo.byt,Fo.flat,Fo.cnt,Afl,AeZ];have e:((3*(M:Int)+24)*(((Cj k).length+(r.flat.length+1):Nat):Int))=(3*(M:Int)+24)*(Cj k).length+((3*(M:Int)+24)*r.flat.length+(3*(M:Int)+24)):=by
   push_cast;rw[Int.mul_add,Int.mul_add,Int.mul_one]
  rw[e]
  push_cast at *
  omega
 | .node k c kids r,m,l,hw,hc=>by
  simp only[Fo.wf,AeI,AeH] at hw;obtain⟨⟨⟨⟨⟨w1,w2⟩,w3⟩,w5⟩,w6⟩,w4⟩:=hw;simp only[Fo.flat] at hc;have ih:=S0 w4 (λx hx=>hc x (by simp[hx]));have ih2:=S0 w6 (λx hx=>hc x (by simp[hx]));have hcf:=CX kids;have hk:Sb k≤(3*M+24)*(Cj k).length:=by
   cases k with
   | none=>simp[Sb,Cj]
   | some s=>
    have:=(hc ⟨4,0,s,0⟩ (by simp[Cj])).1;have h2:=RJ s;simp only at this;simp only[Sb,Cj,Af1];omega
  simp only[Fo.byt,Fo.flat,Fo.cnt,Afl,AeZ];have e:((3*(M:Int)+24)*(((Cj k).length+(kids.flat.length+r.flat.length+1):Nat):Int))=(3*(M:Int)+24)*(Cj k).length+((3*(M:Int)+24)*kids.flat.length+(3*(M:Int)+24)*r.flat.length+(3*(M:Int)+24)):=by
   push_cast;rw[Int.mul_add,Int.mul_add,Int.mul_add,Int.mul_one]
  rw[e]
  push_cast at *
  omega
theorem Rq {M:Nat}(hM:M≤2000000){f:Fo}{m:Bool}{l:Option Ai}(hw:f.wf m l=true)(hl:f.flat.length≤M)(hc:∀c∈f.flat,c.fStr.length≤M∧BG .i64 c.fInt=true∧c.fN≤9223372036854775807):f.byt≤16000000000000:=by
 have:=S0 (M:=M) hw hc;have h2:(3*M+24)*f.flat.length≤(3*2000000+24)*2000000:=Nat.mul_le_mul (by omega) (by omega);have h3:(((3*M+24)*f.flat.length:Nat):Int)=(3*(M:Int)+24)*f.flat.length:=by push_cast;rfl
 omega
theorem Xg {M F:Nat}{v:List Ac}(hA:Kh M v)(hM:M≤2000000)(hF:M<F):J7 F v=some (GH v):=by
 unfold J7 GH whole;have hvM:=hA.hv;rcases Abl (hA.lk hF) with⟨f,ys,hp,hl⟩ | ⟨hp,sh',hl⟩
 ·rw[hl,Ct rfl,hp];obtain⟨h1,h2,h3⟩:=KV hp;have hlen:v.length=f.flat.length+ys.length:=by rw[h1];simp
  cases ys with
  | cons c r=>
   rw[Bl];simp only[AeZ] at hlen;simp;omega
  | nil=>
   simp only[Af7,Nat.add_zero] at hlen;rw[Bd (by simp[hlen])];have hc:∀c∈f.flat,c.fStr.length≤M∧BG .i64 c.fInt=true∧c.fN≤9223372036854775807:=λc hc=>hA.hc c (by rw[h1];simp[hc]);have hb:=Rq hM h2 (by omega) hc;have hb0:=JP h2;have e1:(f.sh 0 Qc).fOutside=f.flat.any Lr:=by rw[R6];rfl
   have e2:(f.sh 0 Qc).fLong=f.flat.any JV:=by rw[Ou];rfl
   have e3:(f.sh 0 Qc).fDepth=f.dep:=by rw[Mo f 0 Qc (by simp[Qc])];simp[Qc]
   have e4:(f.sh 0 Qc).fBytes=(f.txt true).length:=by
    rw[Mp f false none 0 Qc h2 (by simp[Qc]) (by simp[Qc];omega),Mk f false none true h2,Wi h3];simp[Qc]
   simp only;rw[e1,e2,e3,e4,hlen];unfold Ab7
   cases f.flat.any Lr with
   | true=>rw[Bl rfl];rfl
   | false=>
    rw[Bd rfl];have a1:decide ((200:Int)<(f.flat.length:Int))=decide (200<f.flat.length):=by rw[Afs];simp;omega
    have a2:decide ((8:Int)<(f.dep:Int))=decide (8<f.dep):=by rw[Afs];simp;omega
    have a3:decide ((4000:Int)<((f.txt true).length:Int))=decide (4000<(f.txt true).length):=by rw[Afs];simp;omega
    rw[a1,a2,a3]
    cases(f.flat.any JV||(decide (200<f.flat.length)||(decide (8<f.dep)||decide (4000<(f.txt true).length))))<;>rfl
 ·rw[hl,Ct rfl,hp];rfl
theorem RO {v:List Ac}{p:Int}{f:Fo}{ys:List Ac}(h1:f.one=true)(hw:f.wf false none=true)(hd:v.drop p.toNat=f.flat++ys):JU v p=p+f.flat.length:=by
 unfold JU;rw[hd,AaP h1 hw]
theorem VP {c:Ac}(hp:pl c=true)(hn:decide (0<c.fN)=false):(Fo.cell none c .nil).wf false none=true:=by simp[Fo.wf,Dw,hp,hn]
theorem VO {c:Ac}{kids:Fo}(hp:pl c=true)(hn:0<c.fN)(hk:c.fN=kids.cnt)(hw:kids.wf (decide (c.fKind=6)) none=true):(Fo.node none c kids .nil).wf false none=true:=by simp[Fo.wf,Dw,hp,hn,hk,hw];omega
section
variable {M : Nat} {v : List Ac}
theorem Kh.next (hA:Kh M v){F:Nat}(hF:3*M+3<F){p:Int}(h0:0≤p)(h1:p≤v.length):DY F v p=some (JU v p):=by
 have hM:=hA.hM;have hvM:=hA.hv;exact Tm (hA.rf (AeR M)) (λc hc=>(hA.hc c hc).2.2) (v.length-p.toNat) F p h0 h1 rfl (by omega)
theorem Mv {F:Nat}{p:Int}{c:Ac}{r:List Ac}(h0:0≤p)(hpM:p≤1152921504606846976)(hd:v.drop p.toNat=c::r)(hp:pl c=true)(hn:decide (0<c.fN)=false):D5 (F+2) v p=some 1:=by
 obtain⟨g1,g2,g3⟩:=CB h0 hd;rw[D5];unfold Ja;rw[Bm h0 g3,DM h0 hd]
 cases hk:(!decide (c.fKind=5)&&!decide (c.fKind=6)) with
 | true=>rw[Bl rfl]
 | false=>
  rw[Bd rfl,AK (by omega) (by omega),Ct (L9 (o:=.go 0) (by
   show Do (F+1) v p _ 0 (p+1) 0=_;unfold Do;rw[DM h0 hd,Bd hn]))]
  simp only[BT,EC];rw[AK (by omega) (by omega)];rfl
theorem QJ {F:Nat}{i:Int}{rec:List Ac→Int→Option Int}{most at_ x L:Int}{m:Bool}{p q:Int}{pc:Ac}(hpc:Ax v i=pc)(hm:decide (pc.fKind=6)=m)(hx:x<pc.fN)(hx0:0≤x)(hpcN:pc.fN≤9223372036854775807)
  (ha0:0≤at_) (haM:at_≤1152921504606846976) (hp:p=bif m then at_+1 else at_) (hr:rec v p=some L) (hq:DY F v p=some q):Do F v i rec most at_ x=some (.next (max most L,q,x+1)):=by
 unfold Do;rw[hpc,Bl (by simpa using hx),hm]
 cases m with
 | true=>
  simp only[AeW] at hp;rw[Bl rfl,AK (by omega) (by omega),← hp,hr,Ct rfl]
  cases hl:decide (most<L) with
  | true=>rw[Bl rfl,hq,Ct rfl,AK (by omega) (by omega),Int.max_eq_right (by simp at hl;omega)]
  | false=>rw[Bd rfl,hq,Ct rfl,AK (by omega) (by omega),Int.max_eq_left (by simp at hl;omega)]
 | false=>
  simp only[AeM] at hp;rw[Bd rfl,← hp,hr,Ct rfl]
  cases hl:decide (most<L) with
  | true=>rw[Bl rfl,hq,Ct rfl,AK (by omega) (by omega),Int.max_eq_right (by simp at hl;omega)]
  | false=>rw[Bd rfl,hq,Ct rfl,AK (by omega) (by omega),Int.max_eq_left (by simp at hl;omega)]
theorem O6 {m:Bool}{last key:Option Ai}(h:Dw m last key=true):((Cj key).length:Int)=bif m then 1 else 0:=by
  cases key with
  | none=>
            have:m=false:=by simpa[Dw] using h
            subst this;rfl
  | some s=>simp only[Dw,AeI] at h;rw[h.1.1];rfl
theorem Tn (hA:Kh M v):∀(g:Fo) (F L:Nat) (i at_ x most:Int) (m:Bool) (last:Option Ai) (ys:List Ac) (pc:Ac),Ax v i=pc→decide (pc.fKind=6)=m→pc.fN≤9223372036854775807→g.wf m last=true→v.drop at_.toNat=g.flat++ys→0≤at_→at_≤v.length→pc.fN=x+g.cnt→0≤x→0≤most→most≤1152921504606846976→g.cnt<L→3*M+5+g.flat.length<F→
  ∃o,BX (λσ=>Do F v i (D5 F) σ.1 σ.2.1 σ.2.2) L (most,at_,x)=some o∧BT (λν=>EC ν) o=some (max most (g.dep:Int)+1):=by
 have hM:=hA.hM;have hvM:=hA.hv;have fin:∀(F L:Nat) (i at_ x most:Int) (pc:Ac),Ax v i=pc→pc.fN≤x→0≤most→most≤1152921504606846976→0<L→∃o,BX (λσ=>Do F v i (D5 F) σ.1 σ.2.1 σ.2.2) L (most,at_,x)=some o∧BT (λν=>EC ν) o=some (most+1):=λF L i at_ x most pc hpc hx h0 hb hL=>by
  obtain⟨L,rfl⟩:∃K,L=K+1:=⟨L-1,by omega⟩
  refine⟨.go most,L9 (by show Do F v i _ most at_ x=_;unfold Do;rw[hpc,Bd (by simp;omega)]),?_⟩;simp only[BT,EC];rw[AK (by omega) (by omega)]
 have depM:∀g:Fo,g.dep≤g.flat.length:=by
  intro g
  induction g with
  | nil=>simp[Fo.dep]
  | cell k c r ih=>simp[Fo.dep,Fo.flat];omega
  | node k c kids r ih1 ih2=>simp[Fo.dep,Fo.flat];omega
 intro g
 induction g with
 | nil=>
  intro F L i at_ x most m last ys pc hpc hm hpN hw hd h0 h1 hN hx hmo hmM hL hF;obtain⟨o,h1,h2⟩:=fin F L i at_ x most pc hpc (by simp[Fo.cnt] at hN;omega) hmo hmM (by omega);exact⟨o,h1,by rw[h2];simp only[Fo.dep];congr 2<;>omega⟩
 | cell k c r ih=>
  intro F L i at_ x most m last ys pc hpc hm hpN hw hd h0 h1 hN hx hmo hmM hL hF;simp only[Fo.wf,AeI,Afe] at hw;obtain⟨⟨⟨w1,w2⟩,w3⟩,w4⟩:=hw;simp only[Fo.flat,Af2,Af3] at hd;simp only[Fo.cnt] at hN hL;simp only[Fo.flat,Afl,AeZ] at hF;obtain⟨L,rfl⟩:∃K,L=K+1:=⟨L-1,by omega⟩
  obtain⟨F,rfl⟩:∃K,F=K+2:=⟨F-2,by omega⟩
  have hd1:=DT h0 hd;have hkl:=O6 w1;obtain⟨g1,g2,g3⟩:=CB (by omega) hd1;have hlen:at_+(Cj k).length=bif m then at_+1 else at_:=by rw[hkl];cases m<;>simp
  have hq:=hA.next (F:=F+2) (by omega) (p:=at_+(Cj k).length) (by omega) (by omega);rw[RO (f:=.cell none c .nil) (ys:=r.flat++ys) rfl (VP w2 w3) hd1] at hq;have hb:=QJ (most:=most) (x:=x) hpc hm (by omega) hx hpN h0 (by omega) hlen (Mv (F:=F) (by omega) (by omega) hd1 w2 w3) hq;have hdd:=depM r;obtain⟨o,ho1,ho2⟩:=ih (F+2) L i (at_+(Cj k).length+((Fo.cell none c .nil).flat.length:Int)) (x+1) (max most 1) m k ys pc hpc hm hpN w4 (by rw[show(Fo.cell none c .nil).flat.length=1 from rfl];exact g2) (by omega) (by rw[show(Fo.cell none c .nil).flat.length=1 from rfl];omega) (by omega) (by omega) (by omega) (by omega) (by omega) (by omega);refine⟨o,QX hb ho1,?_⟩;rw[ho2,Fo.dep];congr 2<;>omega
 | node k c kids r ihk ih=>
  intro F L i at_ x most m last ys pc hpc hm hpN hw hd h0 h1 hN hx hmo hmM hL hF;simp only[Fo.wf,AeI,AeH] at hw;obtain⟨⟨⟨⟨⟨w1,w2⟩,w3⟩,w5⟩,w6⟩,w4⟩:=hw;simp only[Fo.flat,Af2,Af3] at hd;simp only[Fo.cnt] at hN hL;simp only[Fo.flat,Afl,AeZ] at hF;obtain⟨L,rfl⟩:∃K,L=K+1:=⟨L-1,by omega⟩
  obtain⟨F,rfl⟩:∃K,F=K+1:=⟨F-1,by omega⟩
  have hd1:=DT h0 hd;have hkl:=O6 w1;obtain⟨g1,g2,g3⟩:=CB (by omega) hd1;have hcN:=(hA.hc c (Afc g1)).2.2;have hlen:at_+(Cj k).length=bif m then at_+1 else at_:=by rw[hkl];cases m<;>simp
  have hq:=hA.next (F:=F+1) (by omega) (p:=at_+(Cj k).length) (by omega) (by omega);have hfl:(Fo.node none c kids .nil).flat=c::kids.flat:=by simp[Fo.flat,Cj]
  rw[RO (f:=.node none c kids .nil) (ys:=r.flat++ys) rfl (VO w2 w3 w5 w6) (by rw[hd1,hfl];simp)] at hq;have hdk:=depM kids;have hdd:=depM r;have hcf:=CX kids;have hvl:(v.drop (at_+(Cj k).length+1).toNat).length=kids.flat.length+(r.flat.length+ys.length):=by rw[g2];simp
  rw[Af9] at hvl;have hrec:D5 (F+1) v (at_+(Cj k).length)=some ((kids.dep:Int)+1):=by
   rw[D5];unfold Ja;rw[Bm (by omega) g3,DM (by omega) hd1];have ha:=(M1 w2 w3).1;rw[Bd (by simp;omega),AK (by omega) (by omega)];obtain⟨o,ho1,ho2⟩:=ihk F F (at_+(Cj k).length) (at_+(Cj k).length+1) 0 0 _ none (r.flat++ys) c (DM (by omega) hd1) rfl hcN w6 (by rw[g2]) (by omega) (by omega) (by omega) (Afx 0) (Afx 0) (by omega) (by omega) (by omega);rw[Ct ho1,ho2];congr 2<;>omega
  have hb:=QJ (most:=most) (x:=x) hpc hm (by omega) hx hpN h0 (by omega) hlen hrec hq;obtain⟨o,ho1,ho2⟩:=ih (F+1) L i (at_+(Cj k).length+((Fo.node none c kids .nil).flat.length:Int)) (x+1) (max most ((kids.dep:Int)+1)) m k ys pc hpc hm hpN w4 (by
   have:=DT (by omega) g2;rw[hfl,AeZ,show at_+(Cj k).length+((kids.flat.length+1:Nat):Int)=at_+(Cj k).length+1+kids.flat.length from by omega];exact this) (by omega) (by rw[hfl,AeZ];omega) (by omega) (by omega) (by omega) (by omega) (by omega) (by omega)
  refine⟨o,QX hb ho1,?_⟩;rw[ho2,Fo.dep];congr 2<;>omega
theorem UZ (hA:Kh M v){F:Nat}{p:Int}{f:Fo}{ys:List Ac}(h0:0≤p)(h1:f.one=true)(hw:f.wf false none=true)(hd:v.drop p.toNat=f.flat++ys)(hF:3*M+6+f.flat.length<F):D5 F v p=some (f.dep:Int):=by
 have hM:=hA.hM;have hvM:=hA.hv
 cases f with
 | nil=>cases h1
 | cell k c r=>
  cases k with
  | some s=>cases h1
  | none=>
   cases r with
   | nil=>
    simp only[Fo.wf,AeI,Afe] at hw;obtain⟨F,rfl⟩:∃K,F=K+2:=⟨F-2,by omega⟩
    have hd':v.drop p.toNat=c::ys:=by simpa[Fo.flat,Cj] using hd
    rw[Mv h0 (by have:=(CB h0 hd').2.2;omega) hd' hw.1.1.2 hw.1.2];rfl
   | cell _ _ _=>cases h1
   | node _ _ _ _=>cases h1
 | node k c kids r=>
  cases k with
  | some s=>cases h1
  | none=>
   cases r with
   | nil=>
    simp only[Fo.wf,AeI,AeH] at hw;obtain⟨⟨⟨⟨⟨w1,w2⟩,w3⟩,w5⟩,w6⟩,w4⟩:=hw;have hd':v.drop p.toNat=c::(kids.flat++ys):=by simpa[Fo.flat,Cj] using hd
    obtain⟨g1,g2,g3⟩:=CB h0 hd';have hcN:=(hA.hc c (Afc g1)).2.2;have hcf:=CX kids;simp only[Fo.flat,Cj,AfF,AfD,AeZ] at hF;obtain⟨F,rfl⟩:∃K,F=K+1:=⟨F-1,by omega⟩
    rw[D5];unfold Ja;have ha:=(M1 w2 w3).1;rw[Bm h0 g3,DM h0 hd',Bd (by simp;omega),AK (by omega) (by omega)];obtain⟨o,ho1,ho2⟩:=Tn hA kids F F p (p+1) 0 0 _ none ys c (DM h0 hd') rfl hcN w6 g2 (by omega) (by omega) (by omega) (Afx 0) (Afx 0) (by omega) (by omega) (by omega);rw[Ct ho1,ho2];simp only[Fo.dep];congr 1<;>omega
   | cell _ _ _=>cases h1
   | node _ _ _ _=>cases h1
end
def XX (c:UInt8):Ai:=bif (decide (c=34)||decide (c=92)) then[92,c] else[c]
theorem XW {s:Ai}{k:Nat}{c:UInt8}(h:s[k]? =some c):PN (s.take (k+1))=PN (s.take k)++XX c:=by
 rw[List.take_add_one,h];simp[PN,List.flatMap_append,XX]
theorem Uo (s:Ai):(PN s).length≤3*s.length:=by
 rw[PM];have h1:s.count 34≤s.length:=List.count_le_length;have h2:s.count 92≤s.length:=List.count_le_length;omega
theorem UL {s:Ai}{x:Int}{c:UInt8}(h0:0≤x)(h:s[x.toNat]? =some c):List.take (Int.toNat (x+1)-Int.toNat x) (List.drop (Int.toNat x) s)=[c]:=by
 have hl:=(List.getElem?_eq_some_iff.1 h).1;have hc:=(List.getElem?_eq_some_iff.1 h).2;rw[show Int.toNat (x+1)-Int.toNat x=1 from by omega,List.drop_eq_getElem_cons hl,hc];rfl
theorem AdM {s:Ai}{x:Int}{c:UInt8}(h:s[x.toNat]? =some c):decide (BK s x=34)=decide (c=34):=by
 rw[S4 h,Afs,decide_eq_true_iff,decide_eq_true_iff,← UInt8.toNat_inj];show _↔c.toNat=34;omega
theorem AdL {s:Ai}{x:Int}{c:UInt8}(h:s[x.toNat]? =some c):decide (BK s x=92)=decide (c=92):=by
 rw[S4 h,Afs,decide_eq_true_iff,decide_eq_true_iff,← UInt8.toNat_inj];show _↔c.toNat=92;omega
theorem RC {s out:Ai}{x:Int}{c:UInt8}(h0:0≤x)(hx:x<(s.length:Int))(hs:s.length≤1152921504606846976)(ho:out.length≤3*s.length+1)(hc:s[x.toNat]? =some c):Dz s out x=some (.next (out++XX c,x+1)):=by
 unfold Dz XX;rw[Bl (AeQ hx),Bm h0 hx,AdM hc,AdL hc,UL h0 hc];have l1:(([92]:Ai).length:Int)=1:=rfl;have l2:(([c]:Ai).length:Int)=1:=rfl
 cases hq:(decide (c=34)||decide (c=92)) with
 | true=>
  have l3:((out++([92]:Ai)).length:Int)=out.length+1:=by rw[Afl,Af1,Int.natCast_add];rfl
  rw[Bl rfl,l1,l2,l3,AK (by omega) (by omega),AK (by omega) (by omega),DD (by omega) (by omega),DD (by omega) (by omega),AK (by omega) (by omega),Af2];rfl
 | false=>
  rw[Bd rfl,l2,AK (by omega) (by omega),DD (by omega) (by omega),DD (by omega) (by omega),AK (by omega) (by omega)];rfl
theorem M3 {R V:Type}(K:V→Option R)(v:V):BT K (.go v)=K v:=rfl
theorem T1 {R V:Type}(K:V→Option R)(r:R):BT K (.ret r)=some r:=rfl
theorem Tl {s out:Ai}{x:Int}(hx : ¬ x<(s.length:Int)):Dz s out x=some (.out (.go out)):=by
 unfold Dz;rw[Bd (AeJ hx)]
theorem Xq {out:Ai}(h:out.length≤4611686018427387904):Ee out=some (out++[34]):=by
 unfold Ee;have l1:(([34]:Ai).length:Int)=1:=rfl;rw[l1,AK (by omega) (by omega)]
theorem LJ {F:Nat}{s:Ai}(hF:s.length<F)(hs:s.length≤1152921504606846976):JB F s=some (LK s):=by
 obtain⟨o,h1,h2⟩:=KZ (body:=λσ=>Dz s σ.1 σ.2) (λσ=>0≤σ.2∧σ.2≤(s.length:Int)∧σ.1=34::PN (s.take σ.2.toNat)) (λσ=>s.length-σ.2.toNat)
  (λo=>BT (λν=>Ee ν) o=some (LK s)) (λσ ⟨h0,hl,ha⟩=>by
   obtain⟨out,x⟩:=σ;simp only at h0 hl ha;show(∃s',Dz s out x=_∧_)∨∃o,Dz s out x=_∧_;have hb:=Uo (s.take x.toNat);have hb2:(s.take x.toNat).length≤s.length:=by rw[Af8];omega
   have hol:out.length≤3*s.length+1:=by rw[ha,AeZ];omega
   by_cases hx:x<(s.length:Int)
   ·obtain⟨c,hc⟩:∃c,s[x.toNat]? =some c:=⟨s[x.toNat]'(by omega),AeN (by omega)⟩
    have a1:0≤x+1:=by omega
    have a2:x+1≤s.length:=by omega
    have a3:s.length-(x+1).toNat<s.length-x.toNat:=by omega
    have a4:out++XX c=34::PN (s.take (x+1).toNat):=by rw[show(x+1).toNat=x.toNat+1 from by omega,XW hc,ha];rfl
    exact .inl ⟨(out++XX c,x+1),RC h0 hx hs hol hc,⟨a1,a2,a4⟩,a3⟩
   ·have e:x.toNat=s.length:=by omega
    have hk:Ee out=some (out++[34]):=Xq (by omega);have hf:out++[34]=LK s:=by rw[ha,e,List.take_length];rfl
    exact .inr ⟨.go out,Tl hx,(M3 (λν=>Ee ν) out).trans (hk.trans (congrArg some hf))⟩) F ([34],0) ⟨Afx 0,by show(0:Int)≤s.length;omega,by show([34]:Ai)=34::PN (s.take 0);simp[PN]⟩ (by show s.length-0<F;omega)
 unfold JB;rw[Ct h1,h2]
section
variable {M : Nat} {v : List Ac}
theorem Aev (a b c d e:Ai):(((a++b)++c)++d)++e=a++(b++(c++d)++e):=by simp
theorem Aew (a b c d:Ai):((a++b)++c)++d=a++([]++(b++c)++d):=by simp
theorem Aex (a b c:Ai):(a++b)++c=a++(b++[]++c):=by simp
theorem Aey (a b:Ai):a++b=a++([]++[]++b):=by simp
theorem Abn (a:Ai)(c:UInt8):((a++[c]).length:Int)=a.length+1:=by rw[Afl,Af1,Int.natCast_add];rfl
theorem TN (a b:Ai):((a++b).length:Int)=a.length+b.length:=by rw[Afl,Int.natCast_add]
theorem QG {F:Nat}{i:Int}{rec:List Ac→Int→Option Ai}{out tx:Ai}{at_ x:Int}{m:Bool}{p q:Int}{pc:Ac}{key:Option Ai}{last:Option Ai}(hpc:Ax v i=pc)(hm:decide (pc.fKind=6)=m)(hx:x<pc.fN)(hx0:0≤x)(hpcN:pc.fN≤9223372036854775807)
  (ha0:0≤at_) (haM:at_<v.length) (hvM:(v.length:Int)≤1152921504606846976) (hk:Dw m last key=true) (hkey:∀s,key=some s→(Ax v at_).fStr=s∧s.length<F∧s.length≤1152921504606846976) (hp:p=bif m then at_+1 else at_) (hr:rec v p=some tx) (hq:DY F v p=some q)
  (hlen:((out++(IY (decide (x=0))++QY key++tx)).length:Int)≤4611686018427387904):EB F v i rec out at_ x=some (.next (out++(IY (decide (x=0))++QY key++tx),q,x+1)):=by
 have hb:(([44]:Ai).length:Int)=1:=rfl;have hd:(([58]:Ai).length:Int)=1:=rfl;have hx1:AX (BG .i64 (x+1)) (some (Stp.next (out++(IY (decide (x=0))++QY key++tx),q,x+1)):Option (Stp (Ai×Int×Int) (Out Ai Ai)))=some (Stp.next (out++(IY (decide (x=0))++QY key++tx),q,x+1)):=AK (by omega) (by omega);unfold EB;rw[hpc,Bl (AeQ hx),hm]
 cases ha:decide (x=0) with
 | true=>
  rw[ha] at hx1 hlen;simp only[AeH] at ha;rw[Bd (AeJ (by omega))]
  cases m with
  | true=>
   cases key with
   | none=>simp[Dw] at hk
   | some s=>
    obtain⟨e1,e2,e3⟩:=hkey s rfl;simp only[AeW] at hp;have e:((out++LK s)++[58])++tx=out++(IY true++QY (some s)++tx):=Aew _ _ _ _;rw[← e] at hx1 hlen ⊢;have h1:=TN ((out++LK s)++[58]) tx;have h2:=Abn (out++LK s) 58;have h3:=TN out (LK s);rw[Bl rfl,Bm ha0 haM,e1,LJ e2 e3,Ct rfl,AK (by omega) (by omega),hd,AK (by omega) (by omega),AK (by omega) (by omega),← hp,hr,Ct rfl,AK (by omega) (by omega),hq,Ct rfl,hx1]
  | false=>
   cases key with
   | some s=>simp[Dw] at hk
   | none=>
    simp only[AeM] at hp;have e:out++tx=out++(IY true++QY none++tx):=Aey _ _;rw[← e] at hx1 hlen ⊢;have h1:=TN out tx;rw[Bd rfl,← hp,hr,Ct rfl,AK (by omega) (by omega),hq,Ct rfl,hx1]
 | false=>
  rw[ha] at hx1 hlen;simp only[AeG] at ha;rw[Bl (AeQ (by omega))]
  cases m with
  | true=>
   cases key with
   | none=>simp[Dw] at hk
   | some s=>
    obtain⟨e1,e2,e3⟩:=hkey s rfl;simp only[AeW] at hp;have e:(((out++[44])++LK s)++[58])++tx=out++(IY false++QY (some s)++tx):=Aev _ _ _ _ _;rw[← e] at hx1 hlen ⊢;have h1:=TN (((out++[44])++LK s)++[58]) tx;have h2:=Abn ((out++[44])++LK s) 58;have h3:=TN (out++[44]) (LK s);have h4:=Abn out 44;rw[hb,AK (by omega) (by omega),Bl rfl,Bm ha0 haM,e1,LJ e2 e3,Ct rfl,AK (by omega) (by omega),hd,AK (by omega) (by omega),AK (by omega) (by omega),← hp,hr,Ct rfl,AK (by omega) (by omega),hq,Ct rfl,hx1]
  | false=>
   cases key with
   | some s=>simp[Dw] at hk
   | none=>
    simp only[AeM] at hp;have e:(out++[44])++tx=out++(IY false++QY none++tx):=Aex _ _ _;rw[← e] at hx1 hlen ⊢;have h1:=TN (out++[44]) tx;have h4:=Abn out 44;rw[hb,AK (by omega) (by omega),Bd rfl,← hp,hr,Ct rfl,AK (by omega) (by omega),hq,Ct rfl,hx1]
theorem Wb {i:Int}{pc:Ac}{out:Ai}(hpc:Ax v i=pc)(h:out.length≤4611686018427387904):Ij v i out=some (Yl pc out):=by
 unfold Ij Yl;have l1:(([123]:Ai).length:Int)=1:=rfl;have l2:(([91]:Ai).length:Int)=1:=rfl;have l3:(([125]:Ai).length:Int)=1:=rfl;have l4:(([93]:Ai).length:Int)=1:=rfl;have h1:=TN [123] out;have h2:=TN [91] out;rw[hpc]
 cases hk:decide (pc.fKind=6) with
 | true=>rw[Bl rfl,AK (by omega) (by omega),AK (by omega) (by omega)];rfl
 | false=>rw[Bd rfl,AK (by omega) (by omega),AK (by omega) (by omega)];rfl
theorem Pm {F:Nat}{p:Int}{c:Ac}{r:List Ac}(h0:0≤p)(hpM:p≤1152921504606846976)(hd:v.drop p.toNat=c::r)(hp:pl c=true)(hn:decide (0<c.fN)=false)(hs:c.fStr.length<F+1)(hs2:c.fStr.length≤1152921504606846976)(hi:BG .i64 c.fInt=true):HI (F+2) v p=some (NT c):=by
 obtain⟨g1,g2,g3⟩:=CB h0 hd;rw[HI];unfold Ng NT;rw[Bm h0 g3,DM h0 hd]
 cases k1:decide (c.fKind=1) with
 | true=>rw[Bl rfl];rfl
 | false=>
 rw[Bd rfl]
 cases k2:decide (c.fKind=2) with
 | true=>rw[Bl rfl];cases decide (c.fInt=1)<;>rfl
 | false=>
 rw[Bd rfl]
 cases k3:decide (c.fKind=3) with
 | true=>rw[Bl rfl,Db hi];rfl
 | false=>
 rw[Bd rfl]
 cases k4:decide (c.fKind=4) with
 | true=>rw[Bl rfl,LJ hs hs2,Ct rfl];rfl
 | false=>
 have hgo:EB (F+1) v p (HI (F+1)) [] (p+1) 0=some (.out (.go [])):=by
  unfold EB;rw[DM h0 hd,Bd hn]
 rw[Bd rfl,AK (by omega) (by omega),Ct (L9 (o:=.go []) hgo),M3,Wb (DM h0 hd) (by simp)];simp only[AeM,Yl]
 cases decide (c.fKind=6)<;>rfl
end
section
variable {M : Nat} {v : List Ac}
theorem Dl {α:Type}[Inhabited α](a:α):ov (some a)=a:=rfl
theorem Z7 {at_:Int}{k:Option Ai}{r:List Ac}(h0:0≤at_)(hA:Kh M v){F:Nat}(hF:M<F)(hd:v.drop at_.toNat=Cj k++r):∀s,k=some s→(Ax v at_).fStr=s∧s.length<F∧s.length≤1152921504606846976:=λs e=>by
 subst e;have hd':v.drop at_.toNat=⟨4,0,s,0⟩::r:=by simpa[Cj] using hd
 have h1:=DM h0 hd';have h2:=(hA.hc _ (Afc (CB h0 hd').1)).1;have hM:=hA.hM;simp only at h2;exact⟨by rw[h1],by omega,by omega⟩
theorem Tk (hA:Kh M v):∀(g:Fo) (F L:Nat) (i at_ x:Int) (out:Ai) (m:Bool) (last:Option Ai) (ys:List Ac) (pc:Ac),Ax v i=pc→decide (pc.fKind=6)=m→pc.fN≤9223372036854775807→g.wf m last=true→v.drop at_.toNat=g.flat++ys→0≤at_→at_≤v.length→pc.fN=x+g.cnt→0≤x→(out++g.txt (decide (x=0))).length≤4611686018427387904→g.cnt<L→3*M+5+g.flat.length<F→
  ∃o,BX (λσ=>EB F v i (HI F) σ.1 σ.2.1 σ.2.2) L (out,at_,x)=some o∧BT (λν=>Ij v i ν) o=some (Yl pc (out++g.txt (decide (x=0)))):=by
 have hM:=hA.hM;have hvM:=hA.hv;intro g
 induction g with
 | nil=>
  intro F L i at_ x out m last ys pc hpc hm hpN hw hd h0 h1 hN hx hlen hL hF;obtain⟨L,rfl⟩:∃K,L=K+1:=⟨L-1,by omega⟩
  have hgo:EB F v i (HI F) out at_ x=some (.out (.go out)):=by
   simp only[Fo.cnt] at hN;unfold EB;rw[hpc,Bd (AeJ (by omega))]
  refine⟨.go out,L9 hgo,?_⟩;simp only[Fo.txt,AfD] at hlen ⊢;rw[M3,Wb hpc hlen]
 | cell k c r ih=>
  intro F L i at_ x out m last ys pc hpc hm hpN hw hd h0 h1 hN hx hlen hL hF;simp only[Fo.wf,AeI,Afe] at hw;obtain⟨⟨⟨w1,w2⟩,w3⟩,w4⟩:=hw;simp only[Fo.flat,Af2,Af3] at hd;simp only[Fo.cnt] at hN hL;simp only[Fo.flat,Afl,AeZ] at hF;obtain⟨L,rfl⟩:∃K,L=K+1:=⟨L-1,by omega⟩
  obtain⟨F,rfl⟩:∃K,F=K+2:=⟨F-2,by omega⟩
  have hd1:=DT h0 hd;have hkl:=O6 w1;obtain⟨g1,g2,g3⟩:=CB (by omega) hd1;have hcM:=hA.hc c (Afc g1);have hp:at_+(Cj k).length=bif m then at_+1 else at_:=by rw[hkl];cases m<;>simp
  have hq:=hA.next (F:=F+2) (by omega) (p:=at_+(Cj k).length) (by omega) (by omega);rw[RO (f:=.cell none c .nil) (ys:=r.flat++ys) rfl (VP w2 w3) hd1] at hq;have e:out++(Fo.cell k c r).txt (decide (x=0))=(out++(IY (decide (x=0))++QY k++NT c))++r.txt (decide (x+1=0)):=by
   rw[AeJ (show ¬ x+1=0 by omega)];simp[Fo.txt]
  rw[e] at hlen ⊢;have hl2:((out++(IY (decide (x=0))++QY k++NT c)).length:Int)≤4611686018427387904:=by rw[Afl] at hlen;omega
  have hat:at_<v.length:=by omega
  have hb:=QG hpc hm (by omega) hx hpN h0 hat (by omega) w1 (Z7 h0 hA (F:=F+2) (by omega) hd) hp (Pm (F:=F) (by omega) (by omega) hd1 w2 w3 (by omega) (by omega) hcM.2.1) hq hl2;obtain⟨o,ho1,ho2⟩:=ih (F+2) L i (at_+(Cj k).length+((Fo.cell none c .nil).flat.length:Int)) (x+1) (out++(IY (decide (x=0))++QY k++NT c)) m k ys pc hpc hm hpN w4 (by rw[show(Fo.cell none c .nil).flat.length=1 from rfl];exact g2) (by omega) (by rw[show(Fo.cell none c .nil).flat.length=1 from rfl];omega) (by omega) (by omega) hlen (by omega) (by omega);exact⟨o,QX hb ho1,ho2⟩
 | node k c kids r ihk ih=>
  intro F L i at_ x out m last ys pc hpc hm hpN hw hd h0 h1 hN hx hlen hL hF;simp only[Fo.wf,AeI,AeH] at hw;obtain⟨⟨⟨⟨⟨w1,w2⟩,w3⟩,w5⟩,w6⟩,w4⟩:=hw;simp only[Fo.flat,Af2,Af3] at hd;simp only[Fo.cnt] at hN hL;simp only[Fo.flat,Afl,AeZ] at hF;obtain⟨L,rfl⟩:∃K,L=K+1:=⟨L-1,by omega⟩
  obtain⟨F,rfl⟩:∃K,F=K+1:=⟨F-1,by omega⟩
  have hd1:=DT h0 hd;have hkl:=O6 w1;obtain⟨g1,g2,g3⟩:=CB (by omega) hd1;have hcN:=(hA.hc c (Afc g1)).2.2;have hp:at_+(Cj k).length=bif m then at_+1 else at_:=by rw[hkl];cases m<;>simp
  have hq:=hA.next (F:=F+1) (by omega) (p:=at_+(Cj k).length) (by omega) (by omega);have hfl:(Fo.node none c kids .nil).flat=c::kids.flat:=by simp[Fo.flat,Cj]
  rw[RO (f:=.node none c kids .nil) (ys:=r.flat++ys) rfl (VO w2 w3 w5 w6) (by rw[hd1,hfl];simp)] at hq;have hcf:=CX kids;have hvl:(v.drop (at_+(Cj k).length+1).toNat).length=kids.flat.length+(r.flat.length+ys.length):=by rw[g2];simp
  rw[Af9] at hvl;have e:out++(Fo.node k c kids r).txt (decide (x=0))=(out++(IY (decide (x=0))++QY k++Yl c (kids.txt true)))++r.txt (decide (x+1=0)):=by
   rw[AeJ (show ¬ x+1=0 by omega)];simp[Fo.txt]
  rw[e] at hlen ⊢;have hl2:((out++(IY (decide (x=0))++QY k++Yl c (kids.txt true))).length:Int)≤4611686018427387904:=by rw[Afl] at hlen;omega
  have hl3:(kids.txt true).length≤4611686018427387904:=by
   have:=S3 c (kids.txt true);rw[Afl,Afl] at hl2;omega
  have hat:at_<v.length:=by omega
  have hrec:HI (F+1) v (at_+(Cj k).length)=some (Yl c (kids.txt true)):=by
   rw[HI];unfold Ng;have ha:=(M1 w2 w3).1;rw[Bm (by omega) g3,DM (by omega) hd1,Bd (AeJ (by omega)),Bd (AeJ (by omega)),Bd (AeJ (by omega)),Bd (AeJ (by omega)),AK (by omega) (by omega)];obtain⟨o,ho1,ho2⟩:=ihk F F (at_+(Cj k).length) (at_+(Cj k).length+1) 0 [] _ none (r.flat++ys) c (DM (by omega) hd1) rfl hcN w6 (by rw[g2]) (by omega) (by omega) (by omega) (Afx 0) hl3 (by omega) (by omega);rw[Ct ho1,ho2];rfl
  have hb:=QG hpc hm (by omega) hx hpN h0 hat (by omega) w1 (Z7 h0 hA (F:=F+1) (by omega) hd) hp hrec hq hl2;obtain⟨o,ho1,ho2⟩:=ih (F+1) L i (at_+(Cj k).length+((Fo.node none c kids .nil).flat.length:Int)) (x+1) (out++(IY (decide (x=0))++QY k++Yl c (kids.txt true))) m k ys pc hpc hm hpN w4 (by
   have:=DT (by omega) g2;rw[hfl,AeZ,show at_+(Cj k).length+((kids.flat.length+1:Nat):Int)=at_+(Cj k).length+1+kids.flat.length from by omega];exact this) (by omega) (by rw[hfl,AeZ];omega) (by omega) (by omega) hlen (by omega) (by omega)
  exact⟨o,QX hb ho1,ho2⟩
theorem YP (hA:Kh M v){F:Nat}{p:Int}{f:Fo}{ys:List Ac}(h0:0≤p)(h1:f.one=true)(hw:f.wf false none=true)(hd:v.drop p.toNat=f.flat++ys)(hF:3*M+6+f.flat.length<F)(hlen:(f.txt true).length≤4611686018427387904):HI F v p=some (f.txt true):=by
 have hM:=hA.hM;have hvM:=hA.hv
 cases f with
 | nil=>cases h1
 | cell k c r=>
  cases k with
  | some s=>cases h1
  | none=>
   cases r with
   | nil=>
    simp only[Fo.wf,AeI,Afe] at hw;obtain⟨F,rfl⟩:∃K,F=K+2:=⟨F-2,by omega⟩
    have hd':v.drop p.toNat=c::ys:=by simpa[Fo.flat,Cj] using hd
    have hcM:=hA.hc c (Afc (CB h0 hd').1);rw[Pm h0 (by have:=(CB h0 hd').2.2;omega) hd' hw.1.1.2 hw.1.2 (by omega) (by omega) hcM.2.1];simp[Fo.txt,IY,QY]
   | cell _ _ _=>cases h1
   | node _ _ _ _=>cases h1
 | node k c kids r=>
  cases k with
  | some s=>cases h1
  | none=>
   cases r with
   | nil=>
    simp only[Fo.wf,AeI,AeH] at hw;obtain⟨⟨⟨⟨⟨w1,w2⟩,w3⟩,w5⟩,w6⟩,w4⟩:=hw;have hd':v.drop p.toNat=c::(kids.flat++ys):=by simpa[Fo.flat,Cj] using hd
    obtain⟨g1,g2,g3⟩:=CB h0 hd';have hcN:=(hA.hc c (Afc g1)).2.2;have hcf:=CX kids;simp only[Fo.flat,Cj,AfF,AfD,AeZ] at hF;have et:(Fo.node none c kids .nil).txt true=Yl c (kids.txt true):=by simp[Fo.txt,IY,QY]
    rw[et] at hlen ⊢;have hbl:=S3 c (kids.txt true);obtain⟨F,rfl⟩:∃K,F=K+1:=⟨F-1,by omega⟩
    rw[HI];unfold Ng;have ha:=(M1 w2 w3).1;rw[Bm h0 g3,DM h0 hd',Bd (AeJ (by omega)),Bd (AeJ (by omega)),Bd (AeJ (by omega)),Bd (AeJ (by omega)),AK (by omega) (by omega)];obtain⟨o,ho1,ho2⟩:=Tk hA kids F F p (p+1) 0 [] _ none ys c (DM h0 hd') rfl hcN w6 g2 (by omega) (by omega) (by omega) (Afx 0) (by show(kids.txt true).length≤_;omega) (by omega) (by omega);rw[Ct ho1,ho2];rfl
   | cell _ _ _=>cases h1
   | node _ _ _ _=>cases h1
theorem Xx {F:Nat}{K:Option Int}(hF:v.length<F)(hv:v.length≤1152921504606846976):Bv (BX (λσ=>Gb v σ) F 0) (BT λ_=>K)=bif v.any Lr then some 2 else K:=by
 obtain⟨o,h1,h2⟩:=KZ (body:=λσ=>Gb v σ) (λx=>0≤x∧x≤(v.length:Int)∧(v.take x.toNat).any Lr=false) (λx=>v.length-x.toNat)
  (λo=>BT (λ_=>K) o=bif v.any Lr then some 2 else K) (λx ⟨h0,hl,ha⟩=>by
   by_cases hx:x<(v.length:Int)
   ·obtain⟨c,hc⟩:∃c,v[x.toNat]? =some c:=⟨v[x.toNat]'(by omega),AeN (by omega)⟩
    have hat:Ax v x=c:=by simp[Ax,hc]
    have ho:(decide (c.fKind=3)&&(decide (c.fInt<(-1000000000000))||decide (1000000000000<c.fInt)))=Lr c:=by
     unfold Lr
     cases decide (c.fKind=3) with
     | false=>rfl
     | true=>
      rw[AeP,AeP,Afs];simp only[Afj,AeH,Afe,Afk,AeG];omega
    have hb:Gb v x=Bz (Lr c) (some (.out (.ret 2))) (some (.next (x+1))):=by
     unfold Gb;rw[Bl (AeQ hx),Bm h0 hx,hat,ho,AK (by omega) (by omega)]
    cases hq:Lr c with
    | true=>
     refine .inr ⟨.ret 2,hb.trans (Bl hq),?_⟩;have:v.any Lr=true:=List.any_eq_true.2 ⟨c,Afc hc,hq⟩;rw[T1,this];rfl
    | false=>
     have a3:(v.take (x+1).toNat).any Lr=false:=by
      rw[show(x+1).toNat=x.toNat+1 from by omega,List.take_add_one,hc,List.any_append,ha];simp[hq]
     exact .inl ⟨x+1,hb.trans (Bd hq),⟨by omega,by omega,a3⟩,by omega⟩
   ·refine .inr ⟨.go (),by unfold Gb;rw[Bd (AeJ hx)],?_⟩;rw[show x.toNat=v.length from by omega,List.take_length] at ha;rw[M3,ha];rfl) F 0 ⟨Afx 0,by omega,by simp⟩ (by simpa using hF)
 rw[Ct h1,h2]
theorem Xw {F:Nat}{K:Option Int}(hF:v.length<F)(hv:v.length≤1152921504606846976):Bv (BX (λσ=>Ga v σ) F 0) (BT λ_=>K)=bif v.any JV then some 3 else K:=by
 obtain⟨o,h1,h2⟩:=KZ (body:=λσ=>Ga v σ) (λx=>0≤x∧x≤(v.length:Int)∧(v.take x.toNat).any JV=false) (λx=>v.length-x.toNat)
  (λo=>BT (λ_=>K) o=bif v.any JV then some 3 else K) (λx ⟨h0,hl,ha⟩=>by
   by_cases hx:x<(v.length:Int)
   ·obtain⟨c,hc⟩:∃c,v[x.toNat]? =some c:=⟨v[x.toNat]'(by omega),AeN (by omega)⟩
    have hat:Ax v x=c:=by simp[Ax,hc]
    have hb:Ga v x=Bz (JV c) (some (.out (.ret 3))) (some (.next (x+1))):=by
     unfold Ga;rw[Bl (AeQ hx),Bm h0 hx,hat,AK (by omega) (by omega)];rfl
    cases hq:JV c with
    | true=>
     refine .inr ⟨.ret 3,hb.trans (Bl hq),?_⟩;have:v.any JV=true:=List.any_eq_true.2 ⟨c,Afc hc,hq⟩;rw[T1,this];rfl
    | false=>
     have a3:(v.take (x+1).toNat).any JV=false:=by
      rw[show(x+1).toNat=x.toNat+1 from by omega,List.take_add_one,hc,List.any_append,ha];simp[hq]
     exact .inl ⟨x+1,hb.trans (Bd hq),⟨by omega,by omega,a3⟩,by omega⟩
   ·refine .inr ⟨.go (),by unfold Ga;rw[Bd (AeJ hx)],?_⟩;rw[show x.toNat=v.length from by omega,List.take_length] at ha;rw[M3,ha];rfl) F 0 ⟨Afx 0,by omega,by simp⟩ (by simpa using hF)
 rw[Ct h1,h2]
theorem Sr:decide (JU v 0=v.length)=(whole v).isSome:=by
 unfold JU whole;rw[show v.drop (0:Int).toNat=v from rfl]
 cases hp:Ji v with
 | none=>simp
 | some q=>
  obtain⟨f,ys⟩:=q;have h1:=(KV hp).1;have hl:v.length=f.flat.length+ys.length:=by rw[h1];simp
  cases ys with
  | nil=>simp at hl ⊢;omega
  | cons c r=>simp at hl ⊢;omega
theorem Xy (hA:Kh M v)(hM:M≤2000000){F:Nat}(hF:4*M+6<F):HC F v=some (GH v):=by
 have hvM:=hA.hv;unfold HC;rw[Va (hA.rf (AeR M)) (λc hc=>(hA.hc c hc).2.2) (by omega),Ct rfl,Sr];unfold GH
 cases hwh:whole v with
 | none=>rfl
 | some f=>
  obtain⟨h1,h2,h3⟩:=OP hwh;rw[Bd (p:=!(some f).isSome) rfl]
  change _=some (Ab7 f)
  have hl:v.length=f.flat.length:=by rw[h1]
  have hc:∀c∈f.flat,c.fStr.length≤M∧BG .i64 c.fInt=true∧c.fN≤9223372036854775807:=λc hc=>hA.hc c (by rw[h1];exact hc);have hb:=Rq hM h2 (by omega) hc;have htl:((f.txt true).length:Int)=f.byt:=by rw[Mk f false none true h2,Wi h3];simp
  have hd0:v.drop (0:Int).toNat=f.flat++[]:=by rw[AfD];exact h1
  rw[Xx (by omega) (by omega)];unfold Ab7 Jc;rw[UZ hA (Afx 0) h3 h2 hd0 (by omega),Db (by simp[imp]),Xw (by omega) (by omega)];unfold Jb;rw[YP hA (Afx 0) h3 h2 hd0 (by omega) (by omega),Ct rfl];rw[Dl,hl,← h1];have a1:decide ((200:Int)<(v.length:Int))=decide (200<v.length):=by rw[Afs];simp;omega
  have a2:decide ((8:Int)<(f.dep:Int))=decide (8<f.dep):=by rw[Afs];simp;omega
  have a3:decide ((4000:Int)<((f.txt true).length:Int))=decide (4000<(f.txt true).length):=by rw[Afs];simp;omega
  rw[a1,a2,a3]
  cases v.any Lr<;>cases v.any JV<;>cases decide (200<v.length)<;>cases decide (8<f.dep)<;>cases decide (4000<(f.txt true).length)<;>rfl
end
section
variable {M : Nat}
end
section
variable {M : Nat}
end
def YA (v:List Ac):Bool:=!decide (300<v.length)&&v.all λc=>!decide (300<c.fStr.length)
def Zi (c:Ac):Bool:=BG .i64 c.fKind&&BG .i64 c.fInt&&okS c.fStr&&BG .i64 c.fN
theorem Kh.of {v:List Ac}(hs:YA v=true)(hc:v.all Zi=true):Kh 300 v:=by
 unfold YA at hs;simp only[AeI,Afe,AeG,Afw] at hs hc;refine⟨by decide,by omega,λc h=>?_⟩;obtain h1:=hs.2 c h;obtain h2:=hc c h;unfold Zi at h2;simp only[AeI] at h2;exact⟨by omega,h2.1.1.2,(IF h2.2).2⟩
section
variable {M : Nat}
end
theorem CD {α:Type}[Inhabited α]{l:List α}{i:Nat}(h:i<l.length):Ax l (i:Int)=l[i]:=by simp[Ax,h]
theorem El {α:Type}(p:Bool)(a b:α):Bz p (some a) (some b)=some (bif p then a else b):=by cases p<;>rfl
theorem DC {α:Type}(a b:Option α):Bz true a b=a:=rfl
theorem Cd {α:Type}(a b:Option α):Bz false a b=b:=rfl
theorem Cg {α:Type}(x:Option α):AX true x=x:=rfl
theorem Sd (a:Bool):imp false a=true:=rfl
theorem C9 (a:Bool):imp a true=true:=by cases a<;>rfl
theorem Bq {α β:Type}(a:α)(k:α→Option β):Bv (some a) k=k a:=rfl
theorem Vn {S O:Type}{body:S→Option (Stp S O)}{n:Nat}{s s':S}(h:body s=some (.next s')):BX body (n+1) s=BX body n s':=by rw[BX,h]
theorem RW {S O:Type}{body:S→Option (Stp S O)}{n:Nat}{s:S}{o:O}(h:body s=some (.out o)):BX body (n+1) s=some o:=by rw[BX,h]
theorem Abk {α R U:Type}{l:List α}{p:α→Bool}{ret:Nat→R}{body:Int→Option (Stp Int (Out R U))}{u:U}(hb:∀(i:Nat) (h:i<l.length),body (i:Int)=Bz (p l[i]) (some (.out (.ret (ret i)))) (some (.next ((i:Int)+1))))(he:body (l.length:Int)=some (.out (.go u))) :
  ∀(d n i:Nat),i+d=l.length→d<n→BX body n (i:Int)=some (match (l.drop i).findIdx? p with | some j=>.ret (ret (i+j)) | none=>.go u):=by
 intro d
 induction d with
 | zero=>
  intro n i h hn;obtain⟨n,rfl⟩:∃m,n=m+1:=⟨n-1,by omega⟩
  obtain rfl:i=l.length:=by omega
  rw[BX,he,List.drop_length];rfl
 | succ d ih=>
  intro n i h hn;obtain⟨n,rfl⟩:∃m,n=m+1:=⟨n-1,by omega⟩
  have hi:i<l.length:=by omega
  rw[BX,hb i hi,List.drop_eq_getElem_cons hi,List.findIdx?_cons]
  cases hp:p l[i] with
  | true=>simp[Bz]
  | false=>
   have:=ih n (i+1) (by omega) (by omega);simp only[Cd];refine this.trans ?_
   cases(List.drop (i+1) l).findIdx? p with
   | none=>rfl
   | some j=>simp only[Option.map_some,AeK,Afh];rw[show i+1+j=i+(j+1) by omega]
theorem GO {α R U:Type}{l:List α}{p:α→Bool}{ret:Nat→R}{body:Int→Option (Stp Int (Out R U))}{u:U}{F:Nat}(hF:l.length<F)(hb:∀(i:Nat) (h:i<l.length),body (i:Int)=Bz (p l[i]) (some (.out (.ret (ret i)))) (some (.next ((i:Int)+1))))(he:body (l.length:Int)=some (.out (.go u))) :
  BX body F 0=some (match l.findIdx? p with | some j=>.ret (ret j) | none=>.go u):=by
 have h:=Abk hb he l.length F 0 (by omega) hF;rw[List.drop_zero] at h;refine h.trans ?_
 cases l.findIdx? p with
 | none=>rfl
 | some j=>simp only[Afu]
def Se {α:Type}(l:List α)(p:α→Bool):Int:=match l.findIdx? p with
 | some j=>(j:Int)
 | none=>-1
theorem ER {α:Type}(l:List α)(p:α→Bool):decide (0≤Se l p)=l.any p:=by
 unfold Se
 cases h:l.findIdx? p with
 | none=>
  have:l.any p=false:=by
   rw[List.any_eq_false];intro x hx;simpa using List.findIdx?_eq_none_iff.1 h x hx
  rw[this];rfl
 | some j=>
  obtain⟨hj,h1,_⟩:=List.findIdx?_eq_some_iff_getElem.1 h;rw[List.any_eq_true.2 ⟨l[j],List.getElem_mem hj,h1⟩];exact AeQ (Int.natCast_nonneg j)
theorem Nx {α:Type}{l:List α}{p:α→Bool}{body:Int→Option (Stp Int (Out Int Unit))}{F:Nat}(hF:l.length<F)(hb:∀(i:Nat) (h:i<l.length),body (i:Int)=Bz (p l[i]) (some (.out (.ret (i:Int)))) (some (.next ((i:Int)+1))))(he:body (l.length:Int)=some (.out (.go ()))) :
  Bv (BX body F 0) (BT λ_=>some (-1))=some (Se l p):=by
 rw[GO hF (ret:=λj:Nat=>(j:Int)) hb he,Bq];unfold Se
 cases l.findIdx? p<;>rfl
def Pi {α β R:Type}(g:Nat→β→α→Out R β):Nat→β→List α→Out R β
 | _,acc,[]=>.go acc
 | i,acc,x::r=>match g i acc x with
  | .ret q=>.ret q
  | .go b=>Pi g (i+1) b r
def Adu {R β U:Type}(f:β→U):Out R β→Out R U
 | .ret q=>.ret q
 | .go b=>.go (f b)
def Ad6 {S R U β:Type}(mk:β→S):Out R β→Stp S (Out R U)
 | .ret q=>.out (.ret q)
 | .go b=>.next (mk b)
theorem Zy {α β R S U:Type}{l:List α}{mk:Nat→β→S}{body:S→Option (Stp S (Out R U))}{fin:β→U}(g:Nat→β→α→Out R β)(P:Nat→β→Prop)
  (hb:∀(i:Nat) (h:i<l.length) (acc:β),P i acc→body (mk i acc)=some (Ad6 (mk (i+1)) (g i acc l[i]))∧∀b,g i acc l[i] = .go b→P (i+1) b)
  (he:∀acc,P l.length acc→body (mk l.length acc)=some (.out (.go (fin acc)))) :
  ∀(d i n:Nat) (acc:β),i+d=l.length→d<n→P i acc→BX body n (mk i acc)=some (Adu fin (Pi g i acc (l.drop i)))∧∀b,Pi g i acc (l.drop i) = .go b→P l.length b:=by
 intro d
 induction d with
 | zero=>
  intro i n acc h hn hP;obtain⟨n,rfl⟩:∃m,n=m+1:=⟨n-1,by omega⟩
  obtain rfl:i=l.length:=by omega
  rw[BX,he _ hP,List.drop_length];exact⟨rfl,λb hb=>by cases hb;exact hP⟩
 | succ d ih=>
  intro i n acc h hn hP;obtain⟨n,rfl⟩:∃m,n=m+1:=⟨n-1,by omega⟩
  have hi:i<l.length:=by omega
  obtain⟨h1,h2⟩:=hb i hi acc hP;rw[BX,h1,List.drop_eq_getElem_cons hi,Pi]
  cases hg:g i acc l[i] with
  | ret q=>exact⟨rfl,λb hb=>by cases hb⟩
  | go b=>exact ih (i+1) n b (by omega) (by omega) (h2 b hg)
theorem Wu {α β R S U:Type}{l:List α}{mk:Nat→β→S}{body:S→Option (Stp S (Out R U))}{fin:β→U}(g:Nat→β→α→Out R β)(P:Nat→β→Prop)
  (hb:∀(i:Nat) (h:i<l.length) (acc:β),P i acc→body (mk i acc)=some (Ad6 (mk (i+1)) (g i acc l[i]))∧∀b,g i acc l[i] = .go b→P (i+1) b)
  (he:∀acc,P l.length acc→body (mk l.length acc)=some (.out (.go (fin acc)))) {F:Nat} (hF:l.length<F) {a:β} (hP:P 0 a) :
  BX body F (mk 0 a)=some (Adu fin (Pi g 0 a l))∧∀b,Pi g 0 a l = .go b→P l.length b:=by
 have h:=Zy (fin:=fin) g P hb he l.length 0 F a (by omega) hF hP;rw[List.drop_zero] at h;exact h
theorem Qw (s w:Ai):DQ s w=some (N2 s w):=by
 unfold DQ I6 N2;have:imp (decide ((w.length:Int)≤(s.length:Int))) (IR (w.length:Int) (s.length:Int))=true:=by
  cases hd:decide ((w.length:Int)≤(s.length:Int)) with
  | false=>rfl
  | true=>simp only[imp];rw[Abx (by omega) (by simpa using hd)];rfl
 rw[Db this,show Int.toNat (w.length:Int)=w.length from by omega];simp[Bv]
theorem Kq {s x:Ai}(h:s.length≤1000000000)(hx:x.length≤1000):G9 s x=some (D4 s x):=by
 unfold G9 D4;have e:decide (x.length≤s.length)=decide ((x.length:Int)≤(s.length:Int)):=by simp
 rw[e]
 cases hd:decide ((x.length:Int)≤(s.length:Int)) with
 | false=>rfl
 | true=>
  have hd':(x.length:Int)≤(s.length:Int):=Afy hd;rw[GP (by omega) (by omega),Abx (by omega) (by omega),C9,Cg,Cg,show Int.toNat ((s.length:Int)-(x.length:Int))=s.length-x.length from by omega]
theorem PF {s:Ai}(h:s.length≤1000000000):E3 s=some (J9 s [42]):=by
 unfold E3 J8 HL J9;rw[Kq h (by decide),Bq]
 cases hs:D4 s [42] with
 | false=>rfl
 | true=>
  have hl:(1:Int)≤(s.length:Int):=by have:=Vw hs;simp only[Af1] at this;omega
  rw[DC,show(([42]:Ai).length:Int)=1 from rfl,AK (by omega) (by omega),DD (by omega) (by omega),show Int.toNat ((s.length:Int)-1)=s.length-1 from by omega];rfl
theorem TW {s:Ai}(h:s.length≤1000000000):LA s=some (D4 s [42]):=by
 unfold LA Lg;rw[Kq h (by decide)];rfl
theorem NU {s:Ai}(h:s.length≤1000000000):Js s=some (HN s):=by
 unfold Js;rw[PF h,TW h];simp only[Option.isSome_some,C9,Cg,Dl];rfl
theorem TX {q:Ai}(h:q.length≤1000000000)(s:Ai):KB q s=some (JK q s):=by
 unfold KB JK;rw[NU h,Bq]
 cases HN q with
 | false=>rfl
 | true=>
  simp only[AeL,Cd,AeP];rw[TW h,Bq]
  cases D4 q [42] with
  | false=>rfl
  | true=>
   rw[DC,PF h,Bq,Qw];rfl
structure MX (s:Aj):Prop where
 a:s.fActions.length≤2000000
 r:s.fResources.length≤2000000
 sa:∀x∈s.fActions,x.length≤1000000000
 sr:∀x∈s.fResources,x.length≤1000000000
abbrev FB:Nat:=5000000
theorem Rg {l:List Ai}(hl:l.length≤2000000)(hs:∀x∈l,x.length≤1000000000):N3 FB l=some (l.any λx=>!HN x):=by
 unfold N3 Wx;have:=Nx (l:=l) (p:=λx=>!HN x) (F:=FB) (body:=It l) (by show l.length<5000000;omega) (λi h=>by
  unfold It M0;rw[Bl (AeQ (by omega)),Bm (by omega) (by omega),CD h,NU (hs _ (List.getElem_mem h)),Bq,Bq,AK (by omega) (by omega)]) (by unfold It;rw[Bd (AeJ (by omega))])
 unfold K9;rw[this,Bq,ER]
theorem Vx {l:List Ai}(hl:l.length≤2000000)(hs:∀x∈l,x.length≤1000000000)(s:Ai):ME FB l s=some (l.any λx=>JK x s):=by
 unfold ME Sc;have:=Nx (l:=l) (p:=λx=>JK x s) (F:=FB) (body:=Hg l s) (by show l.length<5000000;omega) (λi h=>by
  unfold Hg O2;rw[Bl (AeQ (by omega)),Bm (by omega) (by omega),CD h,TX (hs _ (List.getElem_mem h)),Bq,Bq,AK (by omega) (by omega)]) (by unfold Hg;rw[Bd (AeJ (by omega))])
 unfold Jp;rw[this,Bq,ER]
theorem QM {l:List Ai}(hl:l.length≤2000000)(hs:∀x∈l,x.length≤1000000000)(s:Ai):GM FB l s=some (l.any λx=>JK x s):=by
 unfold GM;rw[Vx hl hs];rfl
def XL (l:List Ai):Bool:=decide ((l.length:Int)<1)||decide (8<(l.length:Int))
def No (s:Aj):Int:=bif XL s.fActions||XL s.fResources then 3 else bif (s.fActions.any λx=>!HN x)||(s.fResources.any λx=>!HN x) then 4 else 0
theorem Pw {s:Aj}(h:MX s):Gw FB s=some (No s):=by
 unfold Gw Il Ik No;rw[GO (l:=[s.fActions,s.fResources]) (p:=XL) (ret:=λ_=>(3:Int)) (u:=()) (body:=G1 s) (by show 2<5000000;omega) (λi hi=>by
  unfold G1;rw[Bl (AeQ (by omega)),Bm (by omega) (by omega),CD hi,AK (by simp at hi;omega) (by simp at hi;omega)];rfl) (by unfold G1;rw[Bd (AeJ (by omega))]),Bq]
 have e2:∀x∈[s.fActions,s.fResources],N3 FB x=some (x.any λx=>!HN x):=by
  intro x hx;simp only[Af4,List.not_mem_nil,or_false] at hx;rcases hx with rfl | rfl
  ·exact Rg h.a h.sa
  ·exact Rg h.r h.sr
 rw[GO (l:=[s.fActions,s.fResources]) (p:=λl=>l.any λx=>!HN x) (ret:=λ_=>(4:Int)) (u:=()) (body:=G0 FB s) (by show 2<5000000;omega) (λi hi=>by
  unfold G0;rw[Bl (AeQ (by omega)),Bm (by omega) (by omega),CD hi,e2 _ (List.getElem_mem hi),Bq,AK (by simp at hi;omega) (by simp at hi;omega)]) (by unfold G0;rw[Bd (AeJ (by omega))]),Bq]
 simp only[List.findIdx?_cons,List.findIdx?_nil]
 cases XL s.fActions<;>cases XL s.fResources<;>cases(s.fActions.any λx=>!HN x)<;>cases(s.fResources.any λx=>!HN x)<;>rfl
def Q0 (allow:Bool)(action resource:Ai)(x:Aj):Bool:=(x.fAllow ==allow)&&(decide (No x=0)&&((x.fActions.any λy=>JK y action)&&(x.fResources.any λy=>JK y resource)))
theorem Ve {x:Aj}(h:MX x)(allow:Bool)(action resource:Ai):Mz FB x allow action resource=some (Q0 allow action resource x):=by
 unfold Mz;rw[Pw h,QM h.a h.sa,QM h.r h.sr];simp only[Option.isSome_some,C9,Cg,Dl];rfl
def YY (l:List Aj)(action resource:Ai):BA:=
 bif l.any (Q0 false action resource) then⟨false,Se l (Q0 false action resource)⟩ else⟨l.any (Q0 true action resource),Se l (Q0 true action resource)⟩
theorem TQ {l:List Aj}(hl:l.length≤2000000)(h:∀x∈l,MX x)(allow:Bool)(action resource:Ai):TR FB l allow action resource=some (Se l (Q0 allow action resource)):=by
 unfold TR K8;exact Nx (l:=l) (p:=Q0 allow action resource) (F:=FB) (body:=Is FB l allow action resource) (by show l.length<5000000;omega) (λi hi=>by
  unfold Is;rw[Bl (AeQ (by omega)),Bm (by omega) (by omega),CD hi,Ve (h _ (List.getElem_mem hi)),Bq,AK (by omega) (by omega)]) (by unfold Is;rw[Bd (AeJ (by omega))])
theorem Ty {l:List Aj}(hl:l.length≤2000000)(h:∀x∈l,MX x)(action resource:Ai):Kw FB l action resource=some (YY l action resource):=by
 unfold Kw Pv YY;rw[TQ hl h,TQ hl h];simp only[Bq,ER,El]
def Lt (n low high:Int):Bool:=decide (low≤n)&&decide (n≤high)
def L0 (bits:Int):Int:=HE .i64 1 (32-bits)-1
theorem Ti {bits:Int}(h:Lt bits 0 32=true):0≤L0 bits∧L0 bits≤4294967295:=by
 unfold Lt at h;simp only[AeI,AeH] at h;have key:∀k:Nat,k<33→0≤L0 (k:Int)∧L0 (k:Int)≤4294967295:=by decide +kernel
 have:=key bits.toNat (by omega)
 rwa [show((bits.toNat:Nat):Int)=bits from by omega] at this
theorem QS {bits:Int}(h:Lt bits 0 32=true):Eg bits=some (L0 bits):=by
 have h1:=Ti h;unfold Lt at h;simp only[AeI,AeH] at h;unfold Eg;rw[AK (by omega) (by omega),Db (AeQ (by omega)),AK (by unfold L0 at h1;omega) (by unfold L0 at h1;omega)];rfl
def Ol (q:AI):Bool:=!Lt q.fAddr 0 4294967295||(!Lt q.fBits 0 32||(!Lt q.fLow 1 65535||!Lt q.fHigh q.fLow 65535))
def HP (q:AI):Int:=bif Ol q then 2 else bif !decide (Sg .i64 q.fAddr (L0 q.fBits)=0) then 1 else 0
theorem RR (n a b:Int):D9 n a b=some (Lt n a b):=rfl
theorem P5 (q:AI):DA q=some (HP q):=by
 unfold DA HP;simp only[RR,Option.isSome_some,C9,Cg,Dl];rw[show((!Lt q.fAddr 0 4294967295)||((!Lt q.fBits 0 32)||((!Lt q.fLow 1 65535)||(!Lt q.fHigh q.fLow 65535))))=Ol q from rfl]
 cases hb:Ol q with
 | true=>rfl
 | false=>
  have h1:Lt q.fBits 0 32=true:=by
   unfold Ol at hb;simp only[Afg,Aft] at hb;exact hb.2.1
  rw[Cd,QS h1,Bq,El];rfl
def RP (addr port:Int)(q:AI):Bool:=decide (HP q=0)&&(Lt addr q.fAddr (q.fAddr+L0 q.fBits)&&Lt port q.fLow q.fHigh)
theorem XA {q:AI}(h:HP q=0):Lt q.fAddr 0 4294967295=true∧Lt q.fBits 0 32=true:=by
 unfold HP at h
 cases hb:Ol q with
 | true=>rw[hb] at h;cases h
 | false=>
  unfold Ol at hb;simp only[Afg,Aft] at hb;exact⟨hb.1,hb.2.1⟩
theorem RQ (q:AI)(addr port:Int):Jl q addr port=some (RP addr port q):=by
 unfold Jl RP;rw[P5];have e:decide (ov (some (HP q))=0)=decide (HP q=0):=rfl;rw[e]
 cases hd:decide (HP q=0) with
 | false=>simp only[Sd,Cg,AeT,Option.isSome_some]
 | true=>
  simp only[Option.isSome_some,C9,Cg,RR,Dl];obtain⟨h1,h2⟩:=XA (Afy hd);have h3:=Ti h2;unfold Lt at h1;simp only[AeI,AeH] at h1;rw[QS h2];simp only[Option.isSome_some,C9,Cg,Dl];rw[GP (by omega) (by omega)];simp only[C9,Cg]
def Zr (l:List AI)(addr port:Int):BA:=match l.findIdx? (RP addr port) with
 | some j=>⟨(Ax l (j:Int)).fAllow,j⟩
 | none=>⟨false,-1⟩
theorem TE {l:List AI}(hl:l.length≤2000000)(addr port:Int):H8 FB l addr port=some (Zr l addr port):=by
 unfold H8 Zr;rw[GO (l:=l) (p:=RP addr port) (ret:=λj:Nat=>(⟨(Ax l (j:Int)).fAllow,(j:Int)⟩:BA)) (u:=()) (body:=EN l addr port) (by show l.length<5000000;omega) (λi hi=>by
  unfold EN;rw[Bl (AeQ (by omega)),Bm (by omega) (by omega),CD hi,RQ,Bq,AK (by omega) (by omega)]) (by unfold EN;rw[Bd (AeJ (by omega))]),Bq]
 cases l.findIdx? (RP addr port)<;>rfl
def Cl:Ai→List Ai
 | []=>[[]]
 | c::r=>bif decide (c=46) then[]::Cl r else match Cl r with
  | p::ps=>(c::p)::ps
  | []=>[]
theorem JA:∀s:Ai,(Cl s).length=Lib.countByte s 46+1
 | []=>rfl
 | c::r=>by
  have ih:=JA r;unfold Lib.countByte at *;rw[Cl,List.count_cons]
  by_cases hc:c=46
  ·subst hc;simp[ih]
  ·rw[AeJ hc,AeM];have:(c ==46)=false:=by simp[hc]
   rw[this]
   cases h:Cl r with
   | nil=>rw[h] at ih;simp at ih
   | cons p ps=>rw[h] at ih;simpa using ih
theorem Ne:∀{s:Ai},0≤Lib.indexByte s 46→Cl s=s.take (Lib.indexByte s 46).toNat::Cl (s.drop ((Lib.indexByte s 46).toNat+1))
 | [],h=>by simp[Lib.indexByte] at h
 | c::r,h=>by
  unfold Lib.indexByte at h ⊢
  by_cases hc:c=46
  ·subst hc;simp[Cl]
  ·have h1:(c ==46)=false:=by simp[hc]
   rw[h1] at h ⊢;simp only[AeK,Afh] at h ⊢;have hg:=(N1 r 46).1;have h2:(Lib.indexByte r 46 == -1)=false:=by
    by_cases h3:Lib.indexByte r 46 = -1
    ·rw[h3] at h;simp at h
    ·simp[h3]
   rw[h2] at h ⊢;simp only[AeK,Afh] at h ⊢;have h3:0≤Lib.indexByte r 46:=by simp at h2;omega
   have ih:=Ne h3;rw[Cl,AeJ hc,AeM,ih,show Int.toNat (Lib.indexByte r 46+1)=(Lib.indexByte r 46).toNat+1 from by omega];simp
theorem Nd:∀{s:Ai},Lib.indexByte s 46<0→Cl s=[s]
 | [],h=>rfl
 | c::r,h=>by
  unfold Lib.indexByte at h
  by_cases hc:c=46
  ·subst hc;simp at h
  ·have h1:(c ==46)=false:=by simp[hc]
   rw[h1] at h;simp only[AeK,Afh] at h;have hg:=(N1 r 46).1;have h3:Lib.indexByte r 46<0:=by
    by_cases h4:Lib.indexByte r 46 = -1
    ·omega
    ·rw[show(Lib.indexByte r 46 == -1)=false from by simp[h4]] at h;simp at h;omega
   rw[Cl,AeJ hc,AeM,Nd h3]
theorem Xo (x:Ai):Ph x=some (Lib.indexByte x 46):=by
 unfold Ph Ww
 by_cases h:([46]:Ai)=x
 ·subst h;rfl
 ·rw[Bd (AeJ h),Bm (by decide) (by decide),Bq];rfl
theorem Aaj {α β:Type}(a:α)(f:α→Option β):Ln a f=f a:=rfl
theorem UP (s:Ai)(hs:s.length≤1000000000):∀(k:Nat) (x:Ai) (dn:List Ai) (n:Nat),(Cl x).length=k+1→dn.length+k=Lib.countByte s 46→k<n→x.length≤1000000000→
  Bv (BX (λσ=>CU s σ.1 σ.2.1 σ.2.2) n (x,(dn.length:Int),dn++List.replicate (k+1) ([]:Ai))) (BT λν=>Eb ν.1 ν.2.1 ν.2.2)=some (dn++Cl x):=by
 have hc:Lib.countByte s 46≤s.length:=List.count_le_length;have hmin:min ((Lib.countByte s 46:Int)+1) ((s.length:Int)+1)-1=(Lib.countByte s 46:Int):=by omega
 intro k
 induction k with
 | zero=>
  intro x dn n hl hk hn hx;obtain⟨n,rfl⟩:∃m,n=m+1:=⟨n-1,by omega⟩
  have h0:Lib.indexByte x 46<0:=by
   by_cases h:0≤Lib.indexByte x 46
   ·have:=Ne h;rw[this] at hl;have h2:=JA (x.drop ((Lib.indexByte x 46).toNat+1));simp only[AeZ] at hl;omega
   ·omega
  have hbody:CU s x (dn.length:Int) (dn++List.replicate 1 ([]:Ai))=some (.out (.go (x,(dn.length:Int),dn++List.replicate 1 ([]:Ai)))):=by
   unfold CU;rw[hmin,Bd (AeJ (by omega))]
  rw[RW (body:=λσ=>CU s σ.1 σ.2.1 σ.2.2) hbody,Bq];show Eb x (dn.length:Int) (dn++List.replicate 1 ([]:Ai))=_;unfold Eb;rw[Aaj];have e1:List.set (dn++List.replicate 1 ([]:Ai)) (Int.toNat (dn.length:Int)) x=dn++[x]:=by
   rw[show Int.toNat (dn.length:Int)=dn.length from by omega];simp[List.set_append]
  rw[e1,Bm (by omega) (by simp;omega),AK (by omega) (by omega),DD (by omega) (by simp),Nd h0,show Int.toNat ((dn.length:Int)+1)=(dn++[x]).length from by simp,List.take_length]
 | succ k ih=>
  intro x dn n hl hk hn hx;obtain⟨n,rfl⟩:∃m,n=m+1:=⟨n-1,by omega⟩
  have h0:0≤Lib.indexByte x 46:=by
   by_cases h:0≤Lib.indexByte x 46
   ·exact h
   ·rw[Nd (by omega)] at hl;simp at hl
  have hb:=(N1 x 46).2;have e:=Ne h0;rw[e] at hl;simp only[AeZ] at hl;have hd:(Cl (x.drop ((Lib.indexByte x 46).toNat+1))).length=k+1:=by omega
  have e1:List.set (dn++List.replicate (k+1+1) ([]:Ai)) (Int.toNat (dn.length:Int)) (List.take (Int.toNat (Lib.indexByte x 46+0)) x)=(dn++[x.take (Lib.indexByte x 46).toNat])++List.replicate (k+1) ([]:Ai):=by
   rw[show Int.toNat (dn.length:Int)=dn.length from by omega,show Lib.indexByte x 46+0=Lib.indexByte x 46 from by omega];rw[List.replicate_succ];simp[List.set_append]
  have hbody:CU s x (dn.length:Int) (dn++List.replicate (k+1+1) ([]:Ai))=some (.next (x.drop ((Lib.indexByte x 46).toNat+1),((dn++[x.take (Lib.indexByte x 46).toNat]).length:Int),(dn++[x.take (Lib.indexByte x 46).toNat])++List.replicate (k+1) ([]:Ai))):=by
   unfold CU;rw[hmin,Bl (AeQ (by omega)),Xo,Bq,Bd (AeJ (by omega)),AK (by omega) (by omega),DD (by omega) (by omega),Bm (by omega) (by simp;omega)];rw[Aaj,e1,AK (by omega) (by omega),DD (by omega) (by omega),AK (by omega) (by omega)];rw[show Int.toNat (Lib.indexByte x 46+1)=(Lib.indexByte x 46).toNat+1 from by omega,show((dn.length:Int)+1)=((dn++[x.take (Lib.indexByte x 46).toNat]).length:Int) from by simp]
  have:=ih (x.drop ((Lib.indexByte x 46).toNat+1)) (dn++[x.take (Lib.indexByte x 46).toNat]) n hd (by simp;omega) (by omega) (by rw[Af9];omega);rw[Vn (body:=λσ=>CU s σ.1 σ.2.1 σ.2.2) hbody];refine this.trans ?_;rw[e];simp
theorem Xn {s:Ai}(hs:s.length≤2000000):Pg FB s=some (Cl s):=by
 have hc:Lib.countByte s 46≤s.length:=List.count_le_length;unfold Pg MP;rw[AK (by omega) (by omega),AK (by omega) (by omega),Db (show Eh 16 _=true from AeQ (by omega)),Db (AeQ (by omega)),AK (by omega) (by omega)];have:=UP s (by omega) (Lib.countByte s 46) s [] FB (JA s) (by simp) (by show Lib.countByte s 46<5000000;omega) (by omega);rw[show Int.toNat (min ((Lib.countByte s 46:Int)+1) ((s.length:Int)+1))=Lib.countByte s 46+1 from by omega];rw[show Bv (BX (λσ=>CU s σ.1 σ.2.1 σ.2.2) FB (s,0,List.replicate (Lib.countByte s 46+1) ([]:Ai))) (BT λν=>Eb ν.1 ν.2.1 ν.2.2)=some (Cl s) from this,Bq]
theorem Ii:∀{s:Ai} {p:Ai},p∈Cl s→p.length≤s.length
 | [],p,h=>by simp[Cl] at h;subst h;simp
 | c::r,p,h=>by
  rw[Cl] at h
  by_cases hc:c=46
  ·rw[AeQ hc,AeW] at h;rcases List.mem_cons.1 h with rfl | h
   ·simp
   ·have:=Ii h;simp;omega
  ·rw[AeJ hc,AeM] at h
   cases hr:Cl r with
   | nil=>rw[hr] at h;cases h
   | cons q qs=>
    rw[hr] at h;rcases List.mem_cons.1 h with rfl | h
    ·have:=Ii (s:=r) (p:=q) (by rw[hr];simp);simp;omega
    ·have:=Ii (s:=r) (p:=p) (by rw[hr];simp[h]);simp;omega
theorem Ry {n:Nat}(h:n<9223372036854775808):IntKind.i64.wrap (n:Int)=(n:Int):=by
 rw[IntKind.wrap_i64];omega
theorem PE {a k:Nat}(h:a*2 ^ k<9223372036854775808)(hk:k≤64):HE .i64 (a:Int) (k:Int)=((a*2 ^ k:Nat):Int):=by
 unfold HE;have e:(a:Int)*2 ^ k=((a*2 ^ k:Nat):Int):=by simp
 rw[show min (Int.toNat (k:Int)) (IntKind.bits .i64)=k from by show min (Int.toNat (k:Int)) 64=k;omega,e,Ry h]
theorem Sf {a b:Nat}(ha:a<4611686018427387904)(hb:b<4611686018427387904):UA .i64 (a:Int) (b:Int)=((a||| b:Nat):Int):=by
 unfold UA;have h1:a||| b<4611686018427387904:=Nat.or_lt_two_pow (n:=62) ha hb;rw[show(IntKind.bits .i64)=64 from rfl,BitVec.ofInt_natCast,BitVec.ofInt_natCast,BitVec.toNat_or,BitVec.toNat_ofNat,BitVec.toNat_ofNat,Nat.mod_eq_of_lt (by omega),Nat.mod_eq_of_lt (by omega)];exact Ry (by omega)
theorem Vh {a b k:Nat}(h:b<2 ^ k):a*2 ^ k||| b=a*2 ^ k+b:=by
 have:=Nat.shiftLeft_add_eq_or_of_lt h a;rw[Nat.shiftLeft_eq] at this;exact this.symm
theorem or4 {a b c d:Nat}(ha:a<256)(hb:b<256)(hc:c<256)(hd:d<256) :
  UA .i64 (UA .i64 (UA .i64 (HE .i64 (a:Int) 24) (HE .i64 (b:Int) 16)) (HE .i64 (c:Int) 8)) (d:Int)=(((a*256+b)*256+c)*256+d:Nat):=by
 rw[show(24:Int)=((24:Nat):Int) from rfl,show(16:Int)=((16:Nat):Int) from rfl,show(8:Int)=((8:Nat):Int) from rfl];rw[PE (by omega) (by omega),PE (by omega) (by omega),PE (by omega) (by omega)];have e1:a*2 ^ 24||| b*2 ^ 16=a*2 ^ 24+b*2 ^ 16:=Vh (by omega);rw[Sf (by omega) (by omega),e1,Sf (by omega) (by omega)];have e2:(a*2 ^ 24+b*2 ^ 16)||| c*2 ^ 8=(a*2 ^ 24+b*2 ^ 16)+c*2 ^ 8:=by
  have:=Vh (a:=a*2 ^ 8+b) (b:=c*2 ^ 8) (k:=16) (by omega);rw[show(a*2 ^ 8+b)*2 ^ 16=a*2 ^ 24+b*2 ^ 16 from by omega] at this;exact this
 rw[e2,Sf (by omega) (by omega)];have e3:(a*2 ^ 24+b*2 ^ 16+c*2 ^ 8)||| d=(a*2 ^ 24+b*2 ^ 16+c*2 ^ 8)+d:=by
  have:=Vh (a:=a*2 ^ 16+b*2 ^ 8+c) (b:=d) (k:=8) (by omega);rw[show(a*2 ^ 16+b*2 ^ 8+c)*2 ^ 8=a*2 ^ 24+b*2 ^ 16+c*2 ^ 8 from by omega] at this;exact this
 rw[e3];have e4:a*2 ^ 24+b*2 ^ 16+c*2 ^ 8+d=((a*256+b)*256+c)*256+d:=by omega
 rw[e4]
def Ke (p:Ai):Bool:=decide (Cq p=0)&&Lt (B6 p) 0 255
def Y0 (l:List Ai):Int:=l.foldl (λa p=>256*a+B6 p) 0
def MV (s:Ai):Int×Int:=bif decide ((Cl s).length=4)&&(Cl s).all Ke then(Y0 (Cl s),0) else(0,1)
theorem R9 {α β R:Type}(ok:α→Bool)(f:Nat→β→α→β)(q:R):∀(l:List α) (i:Nat) (a:β),l.all ok=false→Pi (λi acc x=>bif ok x then Out.go (f i acc x) else Out.ret q) i a l=Out.ret q
 | [],i,a,h=>by simp at h
 | x::l,i,a,h=>by
  rw[Pi]
  cases hx:ok x with
  | false=>rfl
  | true=>
   rw[List.all_cons,hx,AeP] at h;exact R9 ok f q l (i+1) _ h
theorem RS {s:Ai}(hs:s.length≤2000000):Jm FB s=some (MV s):=by
 unfold Jm MV;rw[Xn hs,Bq];have hm:∀p∈Cl s,p.length≤2000000:=λp hp=>Nat.le_trans (Ii hp) hs;generalize Cl s=l at hm
 by_cases h4:l.length=4
 ·rw[Bd (by rw[AeQ (by omega)];rfl),AeQ h4,AeP];have hr:=(Wu (l:=l) (mk:=λi acc=>((i:Int),acc)) (body:=λσ=>DB l σ.1 σ.2) (fin:=λacc:List Int=>acc)
   (λi acc p=>bif Ke p then(.go (acc.set i (B6 p)):Out (Int×Int) (List Int)) else .ret (0,1)) (λ_ acc=>acc.length=4) (λi h acc hP=>by
    refine⟨?_,λb hb=>?_⟩
    ·unfold DB;simp only;rw[Bl (AeQ (by omega)),Bm (by omega) (by omega),CD h,Db (show Eh 1 l[i].length=true from AeQ (by have:=hm _ (List.getElem_mem h);omega))];simp only[RR,Option.isSome_some,C9,Cg,Dl];unfold Ke
     cases decide (Cq l[i]=0) with
     | false=>rfl
     | true=>
      cases hi:Lt (B6 l[i]) 0 255 with
      | false=>rfl
      | true=>
       simp only[AeL,Bool.or_self,Cd,Bool.and_self,AeW];rw[Bm (by omega) (by omega),Bm (by omega) (by omega),AK (by omega) (by omega),show Int.toNat (i:Int)=i from by omega];rfl
    ·cases ho:Ke l[i] with
     | false=>rw[ho] at hb;cases hb
     | true=>rw[ho] at hb;simp only[AeW,Out.go.injEq] at hb;subst hb;simpa using hP) (λacc hP=>by unfold DB;rw[Bd (AeJ (by omega))]) (F:=FB) (by show l.length<5000000;omega) (a:=List.replicate 4 (0:Int)) rfl).1
  rw[show BX (λσ=>DB l σ.1 σ.2) FB (0,List.replicate 4 (0:Int))=_ from hr,Bq]
  cases ha:l.all Ke with
  | false=>
   have e:=R9 Ke (λ(i:Nat) (acc:List Int) p=>acc.set i (B6 p)) ((0:Int),(1:Int)) l 0 (List.replicate 4 0) ha;rw[e];rfl
  | true=>
   match l,h4,ha with
   | [p0,p1,p2,p3],_,ha=>
    simp only[List.all_cons,List.all_nil,AeX,AeI] at ha;obtain⟨h0,h1,h2,h3⟩:=ha;simp only[Pi,h0,h1,h2,h3,AeW];have bd:∀p,Ke p=true→∃m:Nat,m<256∧B6 p=(m:Int):=λp hp=>by
     unfold Ke Lt at hp;simp only[AeI,AeH] at hp;exact⟨(B6 p).toNat,by omega,by omega⟩
    obtain⟨m0,b0,e0⟩:=bd p0 h0;obtain⟨m1,b1,e1⟩:=bd p1 h1;obtain⟨m2,b2,e2⟩:=bd p2 h2;obtain⟨m3,b3,e3⟩:=bd p3 h3;rw[e0,e1,e2,e3];show Gd [(m0:Int),(m1:Int),(m2:Int),(m3:Int)]=some (Y0 [p0,p1,p2,p3],0);unfold Gd Y0;rw[Bm (by decide) (by decide),Bm (by decide) (by simp),Bm (by decide) (by decide),Bm (by decide) (by simp),Bm (by decide) (by decide),Bm (by decide) (by simp),Bm (by decide) (by decide),Bm (by decide) (by simp)];rw[show Ax [(m0:Int),(m1:Int),(m2:Int),(m3:Int)] 0=(m0:Int) from rfl,show Ax [(m0:Int),(m1:Int),(m2:Int),(m3:Int)] 1=(m1:Int) from rfl,show Ax [(m0:Int),(m1:Int),(m2:Int),(m3:Int)] 2=(m2:Int) from rfl,show Ax [(m0:Int),(m1:Int),(m2:Int),(m3:Int)] 3=(m3:Int) from rfl,or4 b0 b1 b2 b3];simp only[List.foldl,e0,e1,e2,e3]
    congr 2
    omega
 ·rw[Bl (by rw[AeJ (by omega)];rfl),AeJ h4];rfl
theorem ZA (x:Ai):TS x=some (Lib.indexByte x 58):=by
 unfold TS
 by_cases h:([58]:Ai)=x
 ·subst h;rfl
 ·rw[Bd (AeJ h),Bm (by decide) (by decide)];rfl
theorem AaG {s:Ai}(hs:s.length≤1000000000):YI s=some (V6 s 58,Su s 58,AbB s 58):=by
 have hb:=N1 s 58;unfold YI VX V6 Su AbB;rw[ZA,Bq]
 by_cases h:0≤Lib.indexByte s 58
 ·rw[Bl (AeQ h),DD (by omega) (by omega),AK (by omega) (by omega),DD (by omega) (by omega),Af6 h,Af6 h,AeQ h];rfl
 ·rw[Bd (AeJ h),Afz h,Afz h,AeJ h];rfl
theorem Ab9 (s:Ai):(V6 s 58).length≤s.length∧(Su s 58).length≤s.length:=by
 unfold V6 Su;constructor
 ·split
  ·rw[Af8];omega
  ·exact Afm _
 ·split
  ·rw[Af9];omega
  ·simp
def JO (s:Ai)(is:Bool):Int×Int×Bool:=((MV (V6 s 58)).1,B6 (Su s 58),is&&(AbB s 58&&(decide ((MV (V6 s 58)).2=0)&&(decide (Cq (Su s 58)=0)&&(decide (1≤B6 (Su s 58))&&decide (B6 (Su s 58)≤65535))))))
theorem MO {v:List Ac}(h:0<v.length)(hs:(Ax v 0).fStr.length≤2000000):Gg FB v=some (JO (Ax v 0).fStr (decide ((Ax v 0).fKind=4))):=by
 unfold Gg Lu;have hc:=Ab9 (Ax v 0).fStr;rw[Bm (by omega) (by omega),Bq];simp only;rw[AaG (by omega),Bq];simp only;rw[RS (by omega),Bq,Db (show Eh 1 _=true from AeQ (by omega))];rfl
def CA (g:Nat→Int):Nat→Nat→Int
 | _,0=>0
 | i,k+1=>bif decide (g i=0) then CA g (i+1) k else g i
theorem Vo {U:Type}{N:Nat}{g:Nat→Int}{body:Int→Option (Stp Int (Out Int U))}{u:U}(hb:∀i:Nat,i<N→body (i:Int)=Bz (!decide (g i=0)) (some (.out (.ret (g i)))) (some (.next ((i:Int)+1))))(he:body (N:Int)=some (.out (.go u))) :
  ∀(k n i:Nat),i+k=N→k<n→BX body n (i:Int)=some (bif decide (CA g i k=0) then .go u else .ret (CA g i k)):=by
 intro k
 induction k with
 | zero=>
  intro n i h hn;obtain⟨n,rfl⟩:∃m,n=m+1:=⟨n-1,by omega⟩
  obtain rfl:i=N:=by omega
  rw[BX,he];rfl
 | succ k ih=>
  intro n i h hn;obtain⟨n,rfl⟩:∃m,n=m+1:=⟨n-1,by omega⟩
  rw[BX,hb i (by omega),CA]
  cases hg:decide (g i=0) with
  | true=>exact ih n (i+1) (by omega) (by omega)
  | false=>simp only[AeU,DC,AeM,hg]
theorem G2 {R:Type}{N:Nat}{g:Nat→Int}{body:Int→Option (Stp Int (Out Int Unit))}{F:Nat}{K:Option Int}(hF:N<F)(hb:∀i:Nat,i<N→body (i:Int)=Bz (!decide (g i=0)) (some (.out (.ret (g i)))) (some (.next ((i:Int)+1))))(he:body (N:Int)=some (.out (.go ()))) :
  Bv (BX body F 0) (BT λ_=>K)=bif decide (CA g 0 N=0) then K else some (CA g 0 N):=by
 have:=Vo (u:=()) hb he N F 0 (by omega) hF;rw[show BX body F 0=_ from this,Bq]
 cases decide (CA g 0 N=0)<;>rfl
theorem AcG {R U:Type}{N:Nat}{p:Nat→Bool}{c:R}{body:Int→Option (Stp Int (Out R U))}{u:U}{F:Nat}(hF:N<F)(hb:∀i:Nat,i<N→body (i:Int)=Bz (p i) (some (.out (.ret c))) (some (.next ((i:Int)+1))))(he:body (N:Int)=some (.out (.go u))) :
  BX body F 0=some (bif (List.range N).any p then .ret c else .go u):=by
 rw[GO (l:=List.range N) (p:=p) (ret:=λ_=>c) (u:=u) (by simpa using hF) (λi h=>by
  rw[List.getElem_range];exact hb i (by simpa using h)) (by simpa using he)]
 cases h:(List.range N).findIdx? p with
 | none=>
  have:(List.range N).any p=false:=by
   rw[List.any_eq_false];intro x hx;simpa using List.findIdx?_eq_none_iff.1 h x hx
  rw[this];rfl
 | some j=>
  obtain⟨hj,h1,_⟩:=List.findIdx?_eq_some_iff_getElem.1 h;rw[List.any_eq_true.2 ⟨_,List.getElem_mem hj,h1⟩];rfl
def Qd (a b:Int):Int:=bif decide (a=0) then b else a
theorem Im (a b:Int):(bif decide (a=0) then some b else some a:Option Int)=some (Qd a b):=by unfold Qd;cases decide (a=0)<;>rfl
theorem Aaa {a:Int}{x:Option Int}{b:Int}(h:x=some b):Bz (!decide (a=0)) (some a) x=some (Qd a b):=by
 rw[h];unfold Qd;cases decide (a=0)<;>rfl
theorem OB {α U:Type}{p:Bool}{c:Int}(hc:c≠0)(x:Option (Stp α (Out Int U))):Bz p (some (.out (.ret c))) x=Bz (!decide ((bif p then c else 0)=0)) (some (.out (.ret (bif p then c else 0)))) x:=by
 cases p with
 | true=>rw[show(bif true then c else 0)=c from rfl,AeJ hc];rfl
 | false=>rfl
def GZ (op:Ai):Option (List Nat)×Bool:=
 bif decide (op=[103,101,116]) then(some [88],true) else bif decide (op=[100,101,108,101,116,101]) then(some [88],true) else bif decide (op=[112,117,116]) then(some [88,0],true) else bif decide (op=[115,101,110,100]) then(some [89,0],true) else bif decide (op=[116,105,109,101,114]) then(some [89,90,0],true) else bif decide (op=[115,105,103,110,97,108]) then(some [88,91],true) else bif decide (op=[115,101,99,114,101,116]) then(some [89],true) else bif decide (op=[102,101,116,99,104]) then(some [92,0],true) else bif decide (op=[110,111,119]) then(some [],false) else bif decide (op=[108,111,103]) then(some [0],false) else(none,false)
theorem NX (op:Ai):Ju op=some (GZ op):=by
 unfold Ju GZ;simp only[El]
theorem LB {α:Type}(P:α→Prop){p:Bool}{a b:α}(ha:P a)(hb:P b):P (bif p then a else b):=by cases p<;>assumption
theorem Tc (op:Ai)(P:Option (List Nat)×Bool→Prop)(h1:P (some [88],true))(h2:P (some [88,0],true))(h3:P (some [89,0],true))(h4:P (some [89,90,0],true))(h5:P (some [88,91],true))(h6:P (some [89],true))(h7:P (some [92,0],true))(h8:P (some [],false))(h9:P (some [0],false))(h0:P (none,false)):P (GZ op):=by
 unfold GZ;exact LB P h1 (LB P h1 (LB P h2 (LB P h3 (LB P h4 (LB P h5 (LB P h6 (LB P h7 (LB P h8 (LB P h9 h0)))))))))
theorem UM (op:Ai):∀s,(GZ op).1=some s→∀k∈s,k=0∨k=88∨k=89∨k=90∨k=91∨k=92:=by
 refine Tc op (λt=>∀s,t.1=some s→∀k∈s,k=0∨k=88∨k=89∨k=90∨k=91∨k=92) ?_ ?_ ?_ ?_ ?_ ?_ ?_ ?_ ?_ ?_<;>intro s hs<;>cases hs<;>simp
structure AcA (a:AV):Prop where
 t:a.fTenant.length≤2000000
 o:a.fOps.length≤2000000
 p:a.fPolicy.length≤2000000
 st:∀x∈a.fPolicy,MX x
 n:a.fNet.length≤2000000
def X8 (a:AV)(i:Nat):Int:=bif Option.isNone (GZ (Ax a.fOps (i:Int))).1 then 4 else 0
def Of (a:AV)(i:Nat):Int:=bif decide (0<(i:Int))&&(DX (Ax a.fOps (i:Int)) (Ax a.fOps ((i:Int)-1))||decide (Ax a.fOps (i:Int)=Ax a.fOps ((i:Int)-1))) then 11 else 0
def JW (n:Int):Bool:=decide (0≤n)&&decide (n≤1073741824)
def Aap (a:AV):Int:=
 bif !Cv a.fTenant||!Cv a.fFunction then 4 else
 Qd (CA (X8 a) 0 a.fOps.length) (Qd (CA (Of a) 0 a.fOps.length) (bif decide (32<(a.fPolicy.length:Int))||decide (32<(a.fNet.length:Int)) then 3 else
 Qd (CA (λi=>No (Ax a.fPolicy (i:Int))) 0 a.fPolicy.length) (Qd (CA (λi=>HP (Ax a.fNet (i:Int))) 0 a.fNet.length) (bif !JW a.fNow then 2 else 0))))
theorem V1 {a:AV}(h:AcA a):JN FB a=some (Aap a):=by
 have h0:=h.o;have h1:=h.p;have h2:=h.n;have e5:G3 a=some (bif !JW a.fNow then 2 else 0):=by
  unfold G3 GR;rw[Bq];exact El _ _ _
 have e4:G4 FB a=some (Qd (CA (λi=>HP (Ax a.fNet (i:Int))) 0 a.fNet.length) (bif !JW a.fNow then 2 else 0)):=by
  unfold G4;rw[G2 (R:=Unit) (N:=a.fNet.length) (g:=λi=>HP (Ax a.fNet (i:Int))) (K:=G3 a) (by show a.fNet.length<5000000;omega) (λi hi=>by
   unfold Hj;rw[Bl (AeQ (by omega)),Bm (by omega) (by omega),P5,Bq,AK (by omega) (by omega)]) (by unfold Hj;rw[Bd (AeJ (by omega))]),e5]
  exact Im _ _
 have e3:G5 FB a=some (bif decide (32<(a.fPolicy.length:Int))||decide (32<(a.fNet.length:Int)) then 3 else Qd (CA (λi=>No (Ax a.fPolicy (i:Int))) 0 a.fPolicy.length) (Qd (CA (λi=>HP (Ax a.fNet (i:Int))) 0 a.fNet.length) (bif !JW a.fNow then 2 else 0))):=by
  unfold G5;rw[G2 (R:=Unit) (N:=a.fPolicy.length) (g:=λi=>No (Ax a.fPolicy (i:Int))) (K:=G4 FB a) (by show a.fPolicy.length<5000000;omega) (λi hi=>by
   unfold Hk;have hm:MX (Ax a.fPolicy (i:Int)):=by rw[CD hi];exact h.st _ (List.getElem_mem hi)
   rw[Bl (AeQ (by omega)),Bm (by omega) (by omega),Pw hm,Bq,AK (by omega) (by omega)]) (by unfold Hk;rw[Bd (AeJ (by omega))]),e4,Im,El]
 have e2:G6 FB a=some (Qd (CA (Of a) 0 a.fOps.length) (bif decide (32<(a.fPolicy.length:Int))||decide (32<(a.fNet.length:Int)) then 3 else Qd (CA (λi=>No (Ax a.fPolicy (i:Int))) 0 a.fPolicy.length) (Qd (CA (λi=>HP (Ax a.fNet (i:Int))) 0 a.fNet.length) (bif !JW a.fNow then 2 else 0)))):=by
  unfold G6;rw[G2 (R:=Unit) (N:=a.fOps.length) (g:=Of a) (K:=G5 FB a) (by show a.fOps.length<5000000;omega) (λi hi=>by
   unfold Hl;have hk:imp (decide (0<(i:Int))) (Ch (i:Int) (a.fOps.length:Int))=true:=by rw[Oj (by omega) (by omega)];exact C9 _
   have hk2:imp (decide (0<(i:Int))) (BG .i64 ((i:Int)-1))=true:=by rw[GP (by omega) (by omega)];exact C9 _
   have hk3:imp (decide (0<(i:Int))) (Ch ((i:Int)-1) (a.fOps.length:Int))=true:=by
    by_cases h3:0<(i:Int)
    ·rw[Oj (by omega) (by omega)];exact C9 _
    ·rw[AeJ h3];rfl
   rw[Bl (AeQ (by omega)),hk,hk2,hk3,Cg,Cg,Cg,AK (by omega) (by omega),OB (by decide)];rfl) (by unfold Hl;rw[Bd (AeJ (by omega))]),e3,Im]
 unfold JN Aap;rw[G2 (R:=Unit) (N:=a.fOps.length) (g:=X8 a) (K:=G6 FB a) (by show a.fOps.length<5000000;omega) (λi hi=>by
  unfold Hm;rw[Bl (AeQ (by omega)),Bm (by omega) (by omega),NX,Bq,AK (by omega) (by omega),OB (by decide)];rfl) (by unfold Hm;rw[Bd (AeJ (by omega))]),e2,Im,El]
def Vy (l:List Ai)(x:Ai):Bool:=l.any λy=>decide (x=y)
theorem US {l:List Ai}(hl:l.length≤2000000)(x:Ai):Mn FB l x=some (Vy l x):=by
 unfold Mn Mm H3;rw[Nx (l:=l) (p:=λy=>decide (x=y)) (F:=FB) (body:=E8 l x) (by show l.length<5000000;omega) (λi h=>by
  unfold E8;rw[Bl (AeQ (by omega)),Bm (by omega) (by omega),CD h,AK (by omega) (by omega)]) (by unfold E8;rw[Bd (AeJ (by omega))]),Bq,ER]
 rfl
abbrev MB:Nat:=1048576
structure VE (q:AQ):Prop where
 l:q.fArgs.length≤2000000
 v:∀v∈q.fArgs,Kh MB v
theorem VE.at {q:AQ}(h:VE q){i:Nat}(hi:i<q.fArgs.length):Kh MB (Ax q.fArgs (i:Int)):=by rw[CD hi];exact h.v _ (List.getElem_mem hi)
theorem AaA {v:List Ac}(h:Kh MB v):J7 FB v=some (GH v):=Xg h (by decide) (by decide)
theorem XR {q:AQ}(h:VE q):HF FB q.fArgs=some (q.fArgs.any λv=>!decide (GH v=0)):=by
 have hl:=h.l;unfold HF Wy KA;rw[Nx (l:=q.fArgs) (p:=λv=>!decide (GH v=0)) (F:=FB) (body:=Iu FB q.fArgs) (by show q.fArgs.length<5000000;omega) (λi hi=>by
  unfold Iu Lk;rw[Bl (AeQ (by omega)),Bm (by omega) (by omega),CD hi,AaA (h.v _ (List.getElem_mem hi)),Bq,Bq,AK (by omega) (by omega)]) (by unfold Iu;rw[Bd (AeJ (by omega))]),Bq,ER]
theorem I0 {v:List Ac}(h:GH v=0):0<v.length:=by
 cases v with
 | nil=>exact absurd h (by decide)
 | cons c r=>simp
def Ek (k:Nat)(v:List Ac):Bool:=
 bif decide (k=88) then decide ((Ax v 0).fKind=4)&&Jq (Ax v 0).fStr else bif decide (k=89) then decide ((Ax v 0).fKind=4)&&Cv (Ax v 0).fStr else bif decide (k=90) then decide ((Ax v 0).fKind=3)&&JW (Ax v 0).fInt else
 bif decide (k=91) then decide (1<(v.length:Int))&&(decide ((Ax v 0).fKind=5)&&decide ((Ax v 1).fKind=4)) else(JO (Ax v 0).fStr (decide ((Ax v 0).fKind=4))).2.2
theorem Sj {v:List Ac}(h:0<v.length):Lu v=some ((Ax v 0).fStr,decide ((Ax v 0).fKind=4)):=by
 unfold Lu;rw[Bm (by omega) (by omega)]
theorem Kh.str {v:List Ac}(h:Kh MB v)(h0:0<v.length):(Ax v 0).fStr.length≤1048576:=by
 have:=(h.hc _ (List.getElem_mem h0)).1
 rwa [← CD h0] at this
theorem Ab3 {k:Nat}{v:List Ac}(hv:Kh MB v)(h0:0<v.length)(hk:k=88∨k=89∨k=90∨k=91∨k=92):Uh FB k v=some (Ek k v):=by
 have hs:=hv.str h0;have e1:ZK v=some (decide ((Ax v 0).fKind=4)&&Jq (Ax v 0).fStr):=by unfold ZK;rw[Sj h0];rfl
 have e2:Uf v=some (decide ((Ax v 0).fKind=4)&&Cv (Ax v 0).fStr):=by unfold Uf;rw[Sj h0];rfl
 have e3:PK v=some (decide ((Ax v 0).fKind=3)&&JW (Ax v 0).fInt):=by
  unfold PK GR;rw[Bm (by omega) (by omega),Option.isSome_some,C9,Cg];rfl
 have e4:Iy v=some (decide (1<(v.length:Int))&&(decide ((Ax v 0).fKind=5)&&decide ((Ax v 1).fKind=4))):=by
  unfold Iy
  by_cases h1:1<(v.length:Int)
  ·rw[Oj (by omega) (by omega),Oj (by omega) (by omega)];simp only[C9,Cg]
  ·rw[AeJ h1];rfl
 have e5:Ix FB v=some (JO (Ax v 0).fStr (decide ((Ax v 0).fKind=4))).2.2:=by
  unfold Ix;rw[MO h0 (by omega)];rfl
 unfold Uh Ek;rw[e1,e2,e3,e4,e5];rcases hk with rfl | rfl | rfl | rfl | rfl<;>rfl
def HB (s:List Nat)(l:List (List Ac)):Bool:=!(List.range s.length).any λi=>!decide (Ax s (i:Int)=0)&&!Ek (Ax s (i:Int)) (Ax l (i:Int))
theorem XS {s:List Nat}{q:AQ}(h:VE q)(hl:s.length=q.fArgs.length)(hs:∀k∈s,k=0∨k=88∨k=89∨k=90∨k=91∨k=92)(hv:∀v∈q.fArgs,GH v=0):KD FB s q.fArgs=some (HB s q.fArgs):=by
 have hl2:=h.l;unfold KD Jv HB;rw[AcG (N:=s.length) (p:=λi:Nat=>!decide (Ax s (i:Int)=0)&&!Ek (Ax s (i:Int)) (Ax q.fArgs (i:Int))) (c:=false) (u:=()) (body:=Hh FB s q.fArgs) (by show s.length<5000000;omega) (λi hi=>by
  unfold Hh;have hi2:i<q.fArgs.length:=by omega
  have h0:0<(Ax q.fArgs (i:Int)).length:=I0 (hv _ (by rw[CD hi2];exact List.getElem_mem hi2));rw[Bl (AeQ (by omega)),Bm (by omega) (by omega),Oj (by omega) (by omega),C9,Cg];rcases (hs (Ax s (i:Int)) (by rw[CD hi];exact List.getElem_mem hi)) with hz | hz
  ·have h8:(!decide (Ax s (i:Int)=0))=false:=by rw[hz];rfl
   have h9:∀b,imp (!decide (Ax s (i:Int)=0)) b=true:=λb=>by rw[h8];exact Sd b
   rw[h9,Cg,AK (by omega) (by omega),h8,AeT,AeT]
  ·rw[Ab3 (h.at hi2) h0 hz,Option.isSome_some,C9,Cg,AK (by omega) (by omega),Dl]) (by unfold Hh;rw[Bd (AeJ (by omega))]),Bq]
 cases(List.range s.length).any λi=>!decide (Ax s (i:Int)=0)&&!Ek (Ax s (i:Int)) (Ax q.fArgs (i:Int))<;>rfl
def AaM (t op n:Ai):Ai:=(((t++([47]:Ai))++op)++([47]:Ai))++n
theorem JM {t op n:Ai}(h1:t.length≤2000000)(h2:op.length≤2000000)(h3:n.length≤2000000):Dm t op n=some (AaM t op n):=by
 unfold Dm;have e:(([47]:Ai).length:Int)=1:=rfl;rw[AK (by rw[e];omega) (by rw[e];omega),AK (by simp;omega) (by simp;omega),AK (by simp;omega) (by simp;omega),AK (by simp;omega) (by simp;omega)];rfl
def Ye (q:AQ)(s:List Nat):Bool:=!decide ((q.fArgs.length:Int)=(s.length:Int))||((q.fArgs.any λv=>!decide (GH v=0))||!HB s q.fArgs)
def SC (q:AQ):Bool:=decide (q.fOp=([102,101,116,99,104]:Ai))
def Jn (q:AQ):Ai:=(Ax (Ax q.fArgs 0) 0).fStr
def Abc (a:AV)(q:AQ):Bool:=(Zr a.fNet (JO (Jn q) (decide ((Ax (Ax q.fArgs 0) 0).fKind=4))).1 (JO (Jn q) (decide ((Ax (Ax q.fArgs 0) 0).fKind=4))).2.1).fAllowed
def Aem (a:AV)(q:AQ):Bool:=(YY a.fPolicy q.fOp (AaM a.fTenant q.fOp (Jn q))).fAllowed
def AbJ (a:AV)(q:AQ):Int:=
 Qd (Aap a) (match (GZ q.fOp).1 with
  | none=>4
  | some s=>bif !Vy a.fOps q.fOp then 12 else bif Ye q s then 7 else
   bif (GZ q.fOp).2&&!Aem a q then 12 else bif SC q&&!Abc a q then 12 else 0)
theorem UN {op:Ai}{s:List Nat}(h:(GZ op).1=some s)(hn:(GZ op).2=true∨op=([102,101,116,99,104]:Ai)):0<s.length:=by
 have key:(GZ op).2=true→∀s,(GZ op).1=some s→0<s.length:=by
  refine Tc op (λt=>t.2=true→∀s,t.1=some s→0<s.length) ?_ ?_ ?_ ?_ ?_ ?_ ?_ ?_ ?_ ?_<;>intro h s hs<;>cases hs<;>first | decide | cases h
 rcases hn with hn | rfl
 ·exact key hn s h
 ·exact key (by decide) s h
theorem AbU {op:Ai}{s:List Nat}(h:(GZ op).1=some s):op.length≤6:=by
 by_cases hl:op.length≤6
 ·exact hl
 ·exfalso;have hne:∀w:Ai,w.length≤6→decide (op=w)=false:=λw hw=>AeJ (λe=>by subst e;omega);unfold GZ at h;rw[hne _ (by decide),hne _ (by decide),hne _ (by decide),hne _ (by decide),hne _ (by decide),hne _ (by decide),hne _ (by decide),hne _ (by decide),hne _ (by decide),hne _ (by decide)] at h
  cases h
theorem RL {op:Ai}{s:List Nat}(h:(GZ op).1=some s):op=[103,101,116]∨op=[100,101,108,101,116,101]∨op=[112,117,116]∨op=[115,101,110,100]∨op=[116,105,109,101,114]∨op=[115,105,103,110,97,108]∨op=[115,101,99,114,101,116]∨op=[102,101,116,99,104]∨op=[110,111,119]∨op=[108,111,103]:=by
 by_cases h1:op=[103,101,116]
 ·simp[h1]
 by_cases h2:op=[100,101,108,101,116,101]
 ·simp[h2]
 by_cases h3:op=[112,117,116]
 ·simp[h3]
 by_cases h4:op=[115,101,110,100]
 ·simp[h4]
 by_cases h5:op=[116,105,109,101,114]
 ·simp[h5]
 by_cases h6:op=[115,105,103,110,97,108]
 ·simp[h6]
 by_cases h7:op=[115,101,99,114,101,116]
 ·simp[h7]
 by_cases h8:op=[102,101,116,99,104]
 ·simp[h8]
 by_cases h9:op=[110,111,119]
 ·simp[h9]
 by_cases ha:op=[108,111,103]
 ·simp[ha]
 exfalso;unfold GZ at h;rw[AeJ h1,AeJ h2,AeJ h3,AeJ h4,AeJ h5,AeJ h6,AeJ h7,AeJ h8,AeJ h9,AeJ ha] at h
 cases h
theorem Ui {a:AV}{q:AQ}(ha:AcA a)(hq:VE q):CI FB a q=some (AbJ a q):=by
 have hl:=hq.l;have hn:=ha.t;unfold CI AbJ;rw[V1 ha,Bq];refine Aaa ?_;rw[NX,Bq]
 cases ht:(GZ q.fOp).1 with
 | none=>rfl
 | some s=>
  rw[show Option.isNone (some s)=false from rfl,Cd,US ha.o,Bq];simp only
  cases hh:Vy a.fOps q.fOp with
  | false=>rfl
  | true=>
   rw[AeL,Cd,Option.isSome_some,Cg];unfold Ye;simp only[Hi,Afq,Option.isSome_some,Cg,Dl,XR hq,C9,AeM,AeL]
   by_cases h1:(q.fArgs.length:Int)=(s.length:Int)
   ·simp only[h1,decide_true,AeL,AeU,AeS]
    cases h2:(q.fArgs.any λv=>!decide (GH v=0)) with
    | true=>rfl
    | false=>
     have hv:∀v∈q.fArgs,GH v=0:=by
      intro v hv;rw[List.any_eq_false] at h2;simpa using h2 v hv
     rw[XS hq (by omega) (UM _ s ht) hv];simp only[Option.isSome_some,C9,Cg,Dl,AeL,AeS]
     cases h3:HB s q.fArgs with
     | false=>rfl
     | true=>
      rw[AeL,Cd,AeM];have h0:(GZ q.fOp).2=true∨q.fOp=([102,101,116,99,104]:Ai)→0<q.fArgs.length∧0<(Ax q.fArgs 0).length:=λhx=>by
       have hs:=UN ht hx;have hp:0<q.fArgs.length:=by omega
       exact⟨hp,I0 (hv _ (by rw[show(0:Int)=((0:Nat):Int) from rfl,CD hp];exact List.getElem_mem hp))⟩
      have hF:decide (q.fOp=([102,101,116,99,104]:Ai))=SC q:=rfl;have hfe:∀hx:q.fOp=([102,101,116,99,104]:Ai),(Bv (Gg FB (Ax q.fArgs 0)) λhb=>Bv (H8 FB a.fNet hb.1 hb.2.1) λhd=>Bz (!hd.fAllowed) (some 12) (some 0):Option Int)=some (bif !Abc a q then 12 else 0):=λhx=>by
       obtain⟨hp,hp2⟩:=h0 (.inr hx);rw[MO hp2 (by have:=(hq.at hp).str hp2;simpa using Nat.le_trans this (by decide)),Bq,TE ha.n,Bq,El];rfl
      have hF2:(Bz (SC q) (Bv (Gg FB (Ax q.fArgs 0)) λhb=>Bv (H8 FB a.fNet hb.1 hb.2.1) λhd=>Bz (!hd.fAllowed) (some 12) (some 0)) (some 0):Option Int)=some (bif SC q&&!Abc a q then 12 else 0):=by
       cases hf:SC q with
       | false=>rfl
       | true=>rw[DC,hfe (Afy hf)];rfl
      rw[hF]
      cases hm:(GZ q.fOp).2 with
      | false=>
       rw[Cd];simp only[AeT,AeM]
       cases hf:SC q with
       | false=>rfl
       | true=>
        have hx:=Afy hf;obtain⟨hp,hp2⟩:=h0 (.inr hx);rw[DC,Bm (by omega) (by omega),hfe hx];rfl
      | true=>
       obtain⟨hp,hp2⟩:=h0 (.inl hm);have hsl:(Ax (Ax q.fArgs 0) 0).fStr.length≤1048576:=(hq.at hp).str hp2;rw[DC,Bm (by omega) (by omega),Sj hp2,Bq,JM hn (Nat.le_trans (AbU ht) (by decide)) (Nat.le_trans hsl (by decide)),Bq,Ty ha.p ha.st,Bq,hF2];simp only[AeP,El];rfl
   ·simp only[h1,decide_false];rfl
structure ItA (l:List BS):Prop where
 len:l.length≤2000000
 v:∀x∈l,Kh MB x.fValue
def AaX (y:Ac):Bool:=(BG .i64) y.fKind&&(BG .i64) y.fInt&&IL y.fStr&&(BG .i64) y.fN
def AaW (y:Aj):Bool:=(λ_=>true) y.fAllow&&(λys:(List Ai)=>ys.all IL&&decide (ys.length≤1048576)) y.fActions&&(λys:(List Ai)=>ys.all IL&&decide (ys.length≤1048576)) y.fResources
def Adx (y:AI):Bool:=(λ_=>true) y.fAllow&&(BG .i64) y.fAddr&&(BG .i64) y.fBits&&(BG .i64) y.fLow&&(BG .i64) y.fHigh
def AaV (y:AV):Bool:=IL y.fTenant&&IL y.fFunction&&(λys:(List Ai)=>ys.all IL&&decide (ys.length≤1048576)) y.fOps&&(λys:(List Aj)=>ys.all AaW&&decide (ys.length≤1048576)) y.fPolicy&&(λys:(List AI)=>ys.all Adx&&decide (ys.length≤1048576)) y.fNet&&(BG .i64) y.fNow
def Adw (y:BS):Bool:=IL y.fKey&&(λys:(List Ac)=>ys.all AaX&&decide (ys.length≤1048576)) y.fValue&&(BG .i64) y.fVersion
def AaU (y:AQ):Bool:=IL y.fOp&&(λys:(List (List Ac))=>ys.all (λys:(List Ac)=>ys.all AaX&&decide (ys.length≤1048576))&&decide (ys.length≤1048576)) y.fArgs
theorem Jj {s:Ai}(h:IL s=true):s.length≤1048576:=Afy h
theorem Kh.ofB {v:List Ac}(h:(v.all AaX&&decide (v.length≤1048576))=true):Kh MB v:=by
 simp only[AeI,AeH,Afw] at h;refine⟨by decide,h.2,λc hc=>?_⟩;have:=h.1 c hc;unfold AaX at this;simp only[AeI] at this;exact⟨Jj this.1.2,this.1.1.2,(IF this.2).2⟩
theorem OZ {l:List Ai}(h:(l.all IL&&decide (l.length≤1048576))=true):l.length≤2000000∧∀x∈l,x.length≤1000000000:=by
 simp only[AeI,AeH,Afw] at h;exact⟨by omega,λx hx=>by have:=Jj (h.1 x hx);omega⟩
theorem MX.ofB {s:Aj}(h:AaW s=true):MX s:=by
 unfold AaW at h;rw[AeI,AeI] at h;have h1:=OZ h.1.2;have h2:=OZ h.2;exact⟨h1.1,h2.1,h1.2,h2.2⟩
theorem AcA.ofB {a:AV}(h:AaV a=true):AcA a∧BG .i64 a.fNow=true:=by
 unfold AaV at h;rw[AeI,AeI,AeI,AeI,AeI] at h;obtain⟨⟨⟨⟨⟨h1,h2⟩,h3⟩,h4⟩,h5⟩,h6⟩:=h;have h4':a.fPolicy.all AaW=true∧a.fPolicy.length≤1048576:=by simpa[AeI] using h4
 have h5':a.fNet.all Adx=true∧a.fNet.length≤1048576:=by simpa[AeI] using h5
 exact⟨⟨by have:=Jj h1;omega,(OZ h3).1,by omega,λx hx=>MX.ofB (List.all_eq_true.1 h4'.1 x hx),by omega⟩,h6⟩
theorem ItA.ofB {l:List BS}(h:(l.all Adw&&decide (l.length≤1048576))=true):ItA l:=by
 rw[AeI] at h;refine⟨by have:=Afy h.2;omega,λx hx=>?_⟩;have:=List.all_eq_true.1 h.1 x hx;unfold Adw at this;rw[AeI,AeI] at this;exact Kh.ofB this.1.2
theorem VE.ofB {q:AQ}(h:AaU q=true):VE q:=by
 unfold AaU at h;rw[AeI] at h;have h2:=h.2;rw[AeI] at h2;exact⟨by have:=Afy h2.2;omega,λv hv=>Kh.ofB (List.all_eq_true.1 h2.1 v hv)⟩
theorem AcA.fnB {a:AV}(h:AaV a=true):a.fFunction.length≤2000000:=by
 unfold AaV at h;rw[AeI,AeI,AeI,AeI,AeI] at h;have:=Jj h.1.1.1.1.2;omega
theorem VE.opB {q:AQ}(h:AaU q=true):q.fOp.length≤2000000:=by
 unfold AaU at h;rw[AeI] at h;have:=Jj h.1;omega
theorem Rc (c:Int):IM c=some (CY c):=by
 unfold IM C6 O8 MC CY Cb CC;simp only[Bq,El]
 congr 1
 generalize decide (97≤c)=a1;generalize decide (c≤122)=a2;generalize decide (65≤c)=a3;generalize decide (c≤90)=a4;generalize(decide (48≤c)&&decide (c≤57))=a5;generalize decide (c=45)=a6;generalize decide (c=95)=a7;generalize decide (c=46)=a8;generalize decide (c=58)=a9;generalize decide (c=47)=a0
 cases a1<;>cases a2<;>cases a3<;>cases a4<;>cases a5<;>first | rfl | (cases a6<;>cases a7<;>cases a8<;>cases a9<;>cases a0<;>rfl)
theorem LC {f:Nat→UInt8→Bool}{g:UInt8→Bool}(h:∀k u,f k u=g u):∀(l:List UInt8) (k:Nat),Bh f k l=l.all g
 | [],k=>rfl
 | u::l,k=>by rw[Bh,h,LC h l,List.all_cons]
theorem Aan {s:Ai}{i:Nat}(h:i<s.length):BK s (i:Int)=(s[i].toNat:Int):=JQ (AeN h)
theorem KG {α:Type}(l:List α)(p:α→Bool):(l.findIdx? p).isNone=l.all λx=>!p x:=by
 cases h:l.findIdx? p with
 | none=>
  rw[Option.isNone_none];refine(List.all_eq_true.2 λx hx=>?_).symm;have:=List.findIdx?_eq_none_iff.1 h x hx;simpa using this
 | some j=>
  obtain⟨hj,h1,_⟩:=List.findIdx?_eq_some_iff_getElem.1 h;rw[Option.isNone_some];refine(List.all_eq_false.2 ⟨l[j],List.getElem_mem hj,?_⟩).symm;simp[h1]
theorem MA (s:Ai):Ib FB s=some (HN s):=by
 unfold Ib
 cases hc:(decide ((s.length:Int)<1)||decide ((64:Int)<s.length)) with
 | true=>rw[DC,Wg hc]
 | false=>
  have hc2:=hc;simp only[Afg,AeG] at hc2;rw[Cd,Aen hc];have hl:(s.take (s.length-1)).length=s.length-1:=by rw[Af8];omega
  have h1:BK s ((s.length:Int)-1)=BK s ((s.length-1:Nat):Int):=by rw[show((s.length-1:Nat):Int)=(s.length:Int)-1 from by omega]
  rw[GO (l:=s.take (s.length-1)) (p:=λu=>!CY (u.toNat:Int)) (ret:=λ_=>false) (u:=()) (body:=Ei s) (by show _<5000000;omega) (λi h=>by
   unfold Ei;rw[AK (by omega) (by omega),Bl (AeQ (by omega)),Bm (by omega) (by omega),Rc,Bq,AK (by omega) (by omega),Aan (by omega),List.getElem_take]) (by
   unfold Ei;rw[AK (by omega) (by omega),Bd (AeJ (by omega))]),Bq]
  unfold GQ;rw[AK (by omega) (by omega),Bm (by omega) (by omega),Rc,Option.isSome_some,Cg,Dl,LC (g:=λu=>CY (u.toNat:Int)) PD];have e:=KG (s.take (s.length-1)) λu=>!CY (u.toNat:Int);simp only[Bool.not_not] at e;rw[← e]
  cases(s.take (s.length-1)).findIdx? λu=>!CY (u.toNat:Int)<;>rfl
theorem Zb {p:Ai}(h:HN p=true):1≤p.length∧p.length≤64:=by
 cases hc:(decide ((p.length:Int)<1)||decide ((64:Int)<p.length)) with
 | true=>rw[Wg hc] at h;cases h
 | false=>
  simp only[Afg,AeG] at hc;omega
theorem Si (q s:Ai):Jt FB q s=some (JK q s):=by
 unfold Jt;rw[MA,Bq]
 cases hp:HN q with
 | false=>rw[Abi hp];rfl
 | true=>
  have hl:=Zb hp;rw[AeL,Cd];unfold Sh MD;rw[AK (by omega) (by omega),Bm (by omega) (by omega),Adt hl.1,Bq]
  cases ho:D4 q [42] with
  | false=>rw[Cd,XH hp ho]
  | true=>
   rw[DC,AK (by omega) (by omega),DD (by omega) (by omega),AbF,XI hp ho];rw[Db,Bq]
   cases hd:decide ((((List.take (Int.toNat ((q.length:Int)-1)) q).length:Nat):Int)≤(s.length:Int)) with
   | false=>rfl
   | true=>rw[Abx (by omega) (Afy hd)];rfl
theorem RX {α:Type}{l:List α}[Inhabited α]{p:α→Bool}{c:Bool}{body:Int→Option (Stp Int (Out Bool Unit))}(hl:l.length≤2000000)(hb:∀(i:Nat) (h:i<l.length),body (i:Int)=Bz (p l[i]) (some (.out (.ret c))) (some (.next ((i:Int)+1))))(he:body (l.length:Int)=some (.out (.go ()))) :
  Bv (BX body FB 0) (BT λ_=>some (!c))=some (bif l.any p then c else !c):=by
 rw[GO (l:=l) (p:=p) (ret:=λ_=>c) (u:=()) (by show l.length<5000000;omega) hb he,Bq,← ER];unfold Se
 cases l.findIdx? p with
 | none=>rfl
 | some j=>show some c=_;rw[AeQ (Int.natCast_nonneg j)];rfl
theorem Kv {l:List Ai}(hl:l.length≤2000000):C5 FB l=some (!l.any λx=>!HN x):=by
 have:=RX (l:=l) (p:=λx=>!HN x) (c:=false) (body:=D2 FB l) hl (λi h=>by
  unfold D2;rw[Bl (AeQ (by omega)),Bm (by omega) (by omega),CD h,MA,Bq,AK (by omega) (by omega)]) (by unfold D2;rw[Bd (AeJ (by omega))])
 unfold C5 EH;refine this.trans ?_
 cases l.any λx=>!HN x<;>rfl
theorem QL {l:List Ai}(hl:l.length≤2000000)(s:Ai):GL FB l s=some (l.any λx=>JK x s):=by
 have:=RX (l:=l) (p:=λx=>JK x s) (c:=true) (body:=He FB l s) hl (λi h=>by
  unfold He;rw[Bl (AeQ (by omega)),Bm (by omega) (by omega),CD h,Si,Bq,AK (by omega) (by omega)]) (by unfold He;rw[Bd (AeJ (by omega))])
 unfold GL Jd;refine this.trans ?_
 cases l.any λx=>JK x s<;>rfl
theorem NQ {s:Aj}(h:MX s):Et FB s=some (No s):=by
 unfold Et No XL;rw[Kv h.a,Kv h.r];simp only[Option.isSome_some,C9,Cg,Dl,Bool.not_not,Bool.or_assoc,El]
theorem Qr {x:Aj}(h:MX x)(action resource:Ai):EI FB x action resource=some (decide (No x=0)&&((x.fActions.any λy=>JK y action)&&(x.fResources.any λy=>JK y resource))):=by
 unfold EI;rw[NQ h,QL h.a,QL h.r];simp only[Option.isSome_some,C9,Cg,Dl];rfl
theorem NP {l:List Aj}(hl:l.length≤2000000)(h:∀x∈l,MX x)(allow:Bool)(action resource:Ai):Je FB l allow action resource=some (Se l (Q0 allow action resource)):=by
 unfold Je H7;exact Nx (l:=l) (p:=Q0 allow action resource) (F:=FB) (body:=EJ FB l allow action resource) (by show l.length<5000000;omega) (λi hi=>by
  unfold EJ Q0;rw[Bl (AeQ (by omega)),Bm (by omega) (by omega),CD hi,Qr (h _ (List.getElem_mem hi)),Option.isSome_some,C9,Cg,Dl,AK (by omega) (by omega)]) (by unfold EJ;rw[Bd (AeJ (by omega))])
theorem RI {l:List Aj}(hl:l.length≤2000000)(h:∀x∈l,MX x)(action resource:Ai):Jf FB l action resource=some (YY l action resource):=by
 unfold Jf YY;rw[NP hl h,NP hl h];simp only[Bq,ER,El]
def Kc (k:Nat):Nat:=2 ^ (32-k)
theorem UO:∀k:Nat,k<33→Cz FB (k:Int)=some ((Kc k:Nat):Int)∧L0 (k:Int)=(Kc k:Int)-1∧0<Kc k∧Kc k*2 ^ k=4294967296:=by decide +kernel
theorem TY {a k:Nat}(ha:a<9223372036854775808)(hk:k≤62):Sg .i64 (a:Int) ((2 ^ k-1:Nat):Int)=((a % 2 ^ k:Nat):Int):=by
 have h0:2 ^ k≤2 ^ 62:=Nat.pow_le_pow_right (by decide) hk;have hm:a % 2 ^ k<2 ^ k:=Nat.mod_lt _ (Nat.two_pow_pos k);unfold Sg;rw[show(IntKind.bits .i64)=64 from rfl,BitVec.ofInt_natCast,BitVec.ofInt_natCast,BitVec.toNat_and,BitVec.toNat_ofNat,BitVec.toNat_ofNat,Nat.mod_eq_of_lt (by omega),Nat.mod_eq_of_lt (by omega),Nat.and_two_pow_sub_one_eq_mod];exact Ry (by omega)
theorem WM {q:AI}(h:Lt q.fBits 0 32=true):∃k:Nat,k<33∧q.fBits=(k:Int):=by
 unfold Lt at h;simp only[AeI,AeH] at h;exact⟨q.fBits.toNat,by omega,by omega⟩
theorem WO {n:Int}(h:Lt n 0 4294967295=true):∃a:Nat,a≤4294967295∧n=(a:Int):=by
 unfold Lt at h;simp only[AeI,AeH] at h;exact⟨n.toNat,by omega,by omega⟩
theorem AbG (q:AI):((!(decide (0≤q.fAddr)&&decide (q.fAddr≤4294967295)))||(decide (q.fBits<0)||(decide (32<q.fBits)||((!(decide (1≤q.fLow)&&decide (q.fLow≤65535)))||((!(decide (1≤q.fHigh)&&decide (q.fHigh≤65535)))||decide (q.fHigh<q.fLow))))))=Ol q:=by
 unfold Ol Lt;rw[Afs];simp only[Afj,Afe,Afk,AeH,AeG];omega
theorem JE (q:AI):D8 FB q=some (HP q):=by
 unfold D8 C0 Dr HP;simp only[Option.isSome_some,C9,Cg,Dl];rw[AbG]
 cases hb:Ol q with
 | true=>rfl
 | false=>
  have hb2:=hb;unfold Ol at hb2;simp only[Afg,Aft] at hb2;obtain⟨k,hk,e⟩:=WM hb2.2.1;obtain⟨a,ha,e2⟩:=WO hb2.1;obtain⟨h1,h2,h3,h4⟩:=UO k hk;rw[Cd,AeM,e,e2,h1,Bq,h2];have hz:((Kc k:Nat):Int)≠0:=by omega
  have ea:Sg .i64 (a:Int) ((Kc k:Int)-1)=((a % Kc k:Nat):Int):=by
   have:=TY (a:=a) (k:=32-k) (by omega) (by omega);rw[show((Kc k:Nat):Int)-1=((2 ^ (32-k)-1:Nat):Int) from by show((2 ^ (32-k):Nat):Int)-1=_;have:=Nat.two_pow_pos (32-k);omega];exact this
  rw[ea,Db (by rw[AeJ hz];rfl),El,Int.tmod_eq_emod_of_nonneg (by omega)];rfl
theorem Vk {q:AI}(h:HP q=0):∃ (k a m:Nat),k<33∧q.fBits=(k:Int)∧q.fAddr=(a:Int)∧a=Kc k*m∧a+Kc k≤4294967296∧1≤q.fLow∧q.fLow≤q.fHigh∧q.fHigh≤65535:=by
 have h0:=JE q;unfold HP at h
 cases hb:Ol q with
 | true=>rw[hb] at h;cases h
 | false=>
  have hb2:=hb;unfold Ol at hb2;simp only[Afg,Aft] at hb2;obtain⟨k,hk,e⟩:=WM hb2.2.1;obtain⟨a,ha,e2⟩:=WO hb2.1;obtain⟨h1,h2,h3,h4⟩:=UO k hk;have hp:=hb2.2.2;unfold Lt at hp;simp only[AeI,AeH] at hp;rw[hb,AeM,e,e2,h2] at h;have ea:Sg .i64 (a:Int) ((Kc k:Int)-1)=((a % Kc k:Nat):Int):=by
   have:=TY (a:=a) (k:=32-k) (by omega) (by omega);rw[show((Kc k:Nat):Int)-1=((2 ^ (32-k)-1:Nat):Int) from by show((2 ^ (32-k):Nat):Int)-1=_;have:=Nat.two_pow_pos (32-k);omega];exact this
  rw[ea] at h;have hm:a % Kc k=0:=by
   by_cases hm:((a % Kc k:Nat):Int)=0
   ·omega
   ·rw[AeJ hm] at h;cases h
  obtain⟨m,hm⟩:=Nat.dvd_of_mod_eq_zero hm;refine⟨k,a,m,hk,e,e2,hm,?_,by omega,by omega,by omega⟩;have hlt:m<2 ^ k:=by
   have h5:Kc k*m<Kc k*2 ^ k:=by rw[← hm,h4];omega
   exact Nat.lt_of_mul_lt_mul_left h5
  have h6:Kc k*(m+1)≤Kc k*2 ^ k:=Nat.mul_le_mul_left _ hlt;rw[h4,Nat.mul_add,Nat.mul_one,← hm] at h6;exact h6
theorem Po (q:AI)(addr port:Int):H5 FB q addr port=some (RP addr port q):=by
 unfold H5 RP;rw[JE];have e0:decide (ov (some (HP q))=0)=decide (HP q=0):=rfl;rw[e0];unfold C0 Dr;simp only[Option.isSome_some,C9,Cg,Dl]
 by_cases hz:HP q=0
 ·rw[AeQ hz,AeL,AeS,AeP];obtain⟨k,a,m,hk,e,e2,e3,h5,h6,h7,h8⟩:=Vk hz;obtain⟨h1,h2,h3,h4⟩:=UO k hk;rw[e,e2,h1,h2]
  cases hc:((!(decide (0≤addr)&&decide (addr≤4294967295)))||(!(decide (1≤port)&&decide (port≤65535)))) with
  | true=>
   rw[DC]
   congr 1
   unfold Lt
   symm
   rw[Afk,Afk,Afk];simp only[Afj,Afe,Afk,AeG] at hc;simp only[AeG];omega
  | false=>
   simp only[Afg,Aft,AeI,AeH] at hc;obtain⟨b,rfl⟩:∃b:Nat,addr=(b:Int):=⟨addr.toNat,by omega⟩
   have hzz:((Kc k:Nat):Int)≠0:=by omega
   rw[Cd,Option.isSome_some,Cg,Dl,Db (by rw[AeJ hzz];rfl)];rw[Int.tdiv_eq_ediv_of_nonneg (by omega),Int.tdiv_eq_ediv_of_nonneg (by omega)];rw[show((b:Int)/((Kc k:Nat):Int))=((b/Kc k:Nat):Int) from rfl,show((a:Int)/((Kc k:Nat):Int))=((a/Kc k:Nat):Int) from rfl];have d1:b/Kc k≤b:=Nat.div_le_self _ _;have d2:a/Kc k≤a:=Nat.div_le_self _ _;have z1:(0:Int)≤((b/Kc k:Nat):Int):=Int.natCast_nonneg _;have z2:(0:Int)≤((a/Kc k:Nat):Int):=Int.natCast_nonneg _;rw[AK (by omega) (by omega),AK (by omega) (by omega)]
   congr 1
   unfold Lt;have e4:a/Kc k=m:=by rw[e3];exact Nat.mul_div_cancel_left m h3
   have key:decide (((b/Kc k:Nat):Int)=((a/Kc k:Nat):Int))=(decide ((a:Int)≤(b:Int))&&decide ((b:Int)≤(a:Int)+(((Kc k:Nat):Int)-1))):=by
    rw[Afs,AeI,AeH,AeH,AeH,e4];have hd:=Nat.div_add_mod b (Kc k);have hm:=Nat.mod_lt b h3;constructor
    ·intro h;have h':b/Kc k=m:=by omega
     rw[h',← e3] at hd;omega
    ·intro h;have h9:Kc k*m≤b:=by omega
     have ha:b<Kc k*(m+1):=by rw[Nat.mul_add,Nat.mul_one,← e3];omega
     have:b/Kc k=m:=by
      refine Nat.le_antisymm (Nat.le_of_lt_succ ((Nat.div_lt_iff_lt_mul h3).2 (by rw[Nat.mul_comm];exact ha))) ((Nat.le_div_iff_mul_le h3).2 (by rw[Nat.mul_comm];exact h9))
     omega
   rw[key]
 ·rw[AeJ hz];rfl
theorem Qp {l:List AI}(hl:l.length≤2000000)(addr port:Int):Ha FB l addr port=some (Zr l addr port):=by
 unfold Ha Zr;rw[GO (l:=l) (p:=RP addr port) (ret:=λj:Nat=>(⟨(Ax l (j:Int)).fAllow,(j:Int)⟩:BA)) (u:=()) (body:=DF FB l addr port) (by show l.length<5000000;omega) (λi hi=>by
  unfold DF;rw[Bl (AeQ (by omega)),Bm (by omega) (by omega),Po,Bq,AK (by omega) (by omega),CD hi]) (by unfold DF;rw[Bd (AeJ (by omega))]),Bq]
 cases l.findIdx? (RP addr port)<;>rfl
def ixE (s:Ai)(c:UInt8):Nat:=if 0≤Lib.indexByte s c then(Lib.indexByte s c).toNat else s.length
theorem Z9 (u:UInt8)(r:Ai)(c:UInt8):ixE (u::r) c=if u=c then 0 else ixE r c+1:=by
 have hg:=(N1 r c).1;unfold ixE;rw[Lib.indexByte]
 by_cases hu:u=c
 ·subst hu;simp
 ·have h1:(u ==c)=false:=by simp[hu]
  rw[h1,Afz hu];simp only[AeK,Afh]
  by_cases h2:Lib.indexByte r c = -1
  ·rw[h2];simp
  ·have h3:(Lib.indexByte r c == -1)=false:=by simp[h2]
   rw[h3];simp only[AeK,Afh];rw[Af6 (by omega),Af6 (by omega)];omega
theorem Tb (u k:UInt8):decide ((u.toNat:Int)=(k.toNat:Int))=decide (u=k):=
 decide_eq_decide.2 ⟨λh=>UInt8.toNat_inj.1 (by omega),λh=>by rw[h]⟩
theorem AcZ (u:UInt8):decide ((u.toNat:Int)=58)=decide (u=58):=Tb u 58
theorem Aad (u:UInt8):decide ((u.toNat:Int)=46)=decide (u=46):=Tb u 46
theorem Acc {s:Ai}{i:Nat}{u:UInt8}{r:Ai}(h:s.drop i=u::r):i<s.length∧BK s (i:Int)=(u.toNat:Int)∧s.drop (i+1)=r:=by
 have hl:i<s.length:=by
  by_cases hl:i<s.length
  ·exact hl
  ·rw[List.drop_of_length_le (by omega)] at h;cases h
 rw[List.drop_eq_getElem_cons hl] at h;injection h with h1 h2
 exact⟨hl,by rw[Aan hl,h1],h2⟩
theorem Acb {s:Ai}{i:Nat}(h:s.drop i=[])(hi:i≤s.length):i=s.length:=by
 have:=congrArg List.length h;rw[Af9,Af7] at this;omega
theorem NN {s:Ai}(hs:s.length≤2000000):∀(r:Ai) (i n:Nat),s.drop i=r→i≤s.length→r.length<n→BX (λσ=>D1 s σ) n (i:Int)=some (.go ((i+ixE r 58:Nat):Int))
 | [],i,n+1,h,hi,hn=>by
  have hl:=Acb h hi;rw[BX];unfold D1;rw[AeJ (by omega : ¬ (i:Int)<(s.length:Int)),Sd,Cg,AeT,Cd];rfl
 | u::r,i,n+1,h,hi,hn=>by
  obtain⟨hl,hb,hr⟩:=Acc h;rw[BX];unfold D1;rw[Oj (by omega) (by omega),C9,Cg,AeQ (by omega:(i:Int)<(s.length:Int)),AeP,hb,AcZ,Z9]
  by_cases hu:u=58
  ·rw[AeQ hu,Af6 hu];rfl
  ·rw[AeJ hu,Afz hu,AeU,DC,AK (by omega) (by omega)];have:=NN hs r (i+1) n hr (by omega) (by simpa using hn);refine this.trans ?_;rw[show i+1+ixE r 58=i+(ixE r 58+1) from by omega]
 | r,i,0,h,hi,hn=>by omega
def TP (p:Ai):List Ai→List Ai
 | q::qs=>(p++q)::qs
 | []=>[]
theorem QD (r:Ai):Cl r≠[]:=λh=>by have:=JA r;rw[h] at this;simp at this
theorem QZ (r:Ai):TP [] (Cl r)=Cl r:=by
 cases h:Cl r with
 | nil=>exact absurd h (QD r)
 | cons q qs=>rfl
theorem Ku {s:Ai}(hs:s.length≤2000000):∀(r:Ai) (i st n:Nat) (out:List Ai),s.drop i=r→st≤i→i≤s.length→out.length≤st→r.length<n→
  Bv (BX (λσ=>Dk s 46 σ.1 σ.2.1 σ.2.2) n (out,(st:Int),(i:Int))) (BT λν=>Hc s ν.1 ν.2)=some (out++TP ((s.drop st).take (i-st)) (Cl r))
 | [],i,st,n+1,out,h,h1,hi,ho,hn=>by
  have hl:=Acb h hi;rw[RW (body:=λσ=>Dk s 46 σ.1 σ.2.1 σ.2.2) (o:=.go (out,(st:Int))) (show Dk s 46 out (st:Int) (i:Int)=_ from by unfold Dk;rw[Bd (AeJ (by omega))]),Bq];show Hc s out (st:Int)=_;unfold Hc;rw[DD (by omega) (by omega),Db (show Eh 16 _=true from AeQ (by simp only[Af1];omega)),show Int.toNat (st:Int)=st from by omega];rw[List.take_of_length_le (by rw[Af9];omega)];simp[Cl,TP]
 | u::r,i,st,n+1,out,h,h1,hi,ho,hn=>by
  obtain⟨hl,hb,hr⟩:=Acc h
  by_cases hu:u=46
  ·have hbody:Dk s 46 out (st:Int) (i:Int)=some (.next (out++[(s.drop st).take (i-st)],((i+1:Nat):Int),((i+1:Nat):Int))):=by
    unfold Dk Hd;rw[Bl (AeQ (by omega)),Bm (by omega) (by omega),hb,Aad,AeQ hu,DC,DD (by omega) (by omega),DD (by omega) (by omega),Db (show Eh 16 _=true from AeQ (by simp only[Af1];omega)),AK (by omega) (by omega),AK (by omega) (by omega)];rw[show Int.toNat (i:Int)-Int.toNat (st:Int)=i-st from by omega,show Int.toNat (st:Int)=st from by omega];rfl
   rw[Vn (body:=λσ=>Dk s 46 σ.1 σ.2.1 σ.2.2) hbody];refine(Ku hs r (i+1) (i+1) n _ hr (Afm _) (by omega) (by simp;omega) (by simpa using hn)).trans ?_;have e:Cl (u::r)=[]::Cl r:=by rw[Cl,hu];rfl
   rw[e,Nat.sub_self,List.take_zero,QZ];simp[TP]
  ·have hbody:Dk s 46 out (st:Int) (i:Int)=some (.next (out,(st:Int),((i+1:Nat):Int))):=by
    unfold Dk Hd;rw[Bl (AeQ (by omega)),Bm (by omega) (by omega),hb,Aad,AeJ hu,Cd,AK (by omega) (by omega)];rfl
   rw[Vn (body:=λσ=>Dk s 46 σ.1 σ.2.1 σ.2.2) hbody];refine(Ku hs r (i+1) st n out hr (by omega) (by omega) ho (by simpa using hn)).trans ?_;have e:(s.drop st).take (i+1-st)=(s.drop st).take (i-st)++[u]:=by
    rw[show i+1-st=(i-st)+1 from by omega,List.take_add_one];have:(s.drop st)[i-st]? =some u:=by
     rw[List.getElem?_drop,show st+(i-st)=i from by omega];have:=congrArg (λl:Ai=>l[0]?) h;simpa using this
    rw[this];rfl
   rw[e,Cl,AeJ hu,AeM]
   cases h2:Cl r with
   | nil=>exact absurd h2 (QD r)
   | cons q qs=>simp[TP]
 | r,i,st,0,out,h,h1,hi,ho,hn=>by omega
theorem X4 {s:Ai}(hs:s.length≤2000000):Pq FB s 46=some (Cl s):=by
 unfold Pq;refine(Ku hs s 0 0 FB [] rfl (Afm _) (Afv _) (Afm _) (by show s.length<5000000;omega)).trans ?_;rw[Nat.sub_self,List.take_zero,QZ,AfF]
theorem Tg {α β R:Type}(ok:α→Bool)(f:β→α→β)(q:R):∀(l:List α) (i:Nat) (a:β),l.all ok=true→Pi (λ_ acc x=>bif ok x then Out.go (f acc x) else Out.ret q) i a l=Out.go (l.foldl f a)
 | [],i,a,h=>rfl
 | x::l,i,a,h=>by
  rw[List.all_cons,AeI] at h;rw[Pi,h.1];exact Tg ok f q l (i+1) _ h.2
theorem YX:∀i:Nat,i<4→(256:Int) ^ i≤16777216∧0<(256:Int) ^ i:=by decide
theorem Ad8 (p:Ai):((!decide (Cq p=0))||(decide (B6 p<0)||decide (255<B6 p))) = !Ke p:=by
 unfold Ke Lt;rw[Afs];simp only[Afj,Afe,Afk,AeH,AeG];omega
theorem Pp {s:Ai}(hs:s.length≤2000000):H6 FB s=some (MV s):=by
 unfold H6 MV;rw[X4 hs,Bq];have hm:∀p∈Cl s,p.length≤2000000:=λp hp=>Nat.le_trans (Ii hp) hs;generalize Cl s=l at hm
 by_cases h4:l.length=4
 ·rw[Bd (by rw[AeQ (by omega)];rfl),AeQ h4,AeP];have hr:=(Wu (l:=l) (mk:=λi acc=>(acc,(i:Int))) (body:=λσ=>Dd l σ.1 σ.2) (fin:=λacc:Int=>acc)
   (λ_ acc p=>bif Ke p then(.go (256*acc+B6 p):Out (Int×Int) Int) else .ret (0,1)) (λi acc=>0≤acc∧acc<256 ^ i) (λi h acc hP=>by
    have hp:=YX i (by omega);rw[Int.pow_succ];generalize(256:Int) ^ i=w at hP hp ⊢;refine⟨?_,λb hb=>?_⟩
    ·unfold Dd;simp only;rw[Bl (AeQ (by omega)),Bm (by omega) (by omega),CD h,Db (show Eh 1 l[i].length=true from AeQ (by have:=hm _ (List.getElem_mem h);omega)),Ad8]
     cases ho:Ke l[i] with
     | false=>rfl
     | true=>
      have hv:=ho;unfold Ke Lt at hv;simp only[AeI,AeH] at hv;rw[AeL,Cd,AK (by omega) (by omega),AK (by omega) (by omega),AK (by omega) (by omega)];rfl
    ·cases ho:Ke l[i] with
     | false=>rw[ho] at hb;cases hb
     | true=>
      rw[ho] at hb;simp only[AeW,Out.go.injEq] at hb;unfold Ke Lt at ho;simp only[AeI,AeH] at ho;subst hb;omega) (λacc hP=>by unfold Dd;rw[Bd (AeJ (by omega))]) (F:=FB) (by show l.length<5000000;omega) (a:=(0:Int)) (by decide)).1
  rw[show BX (λσ=>Dd l σ.1 σ.2) FB (0,0)=_ from hr,Bq]
  cases ha:l.all Ke with
  | false=>rw[R9 Ke (λ(_:Nat) (acc:Int) p=>256*acc+B6 p) ((0:Int),(1:Int)) l 0 0 ha];rfl
  | true=>rw[Tg Ke (λ(acc:Int) p=>256*acc+B6 p) ((0:Int),(1:Int)) l 0 0 ha];rfl
 ·rw[Bl (by rw[AeJ (by omega)];rfl),AeJ h4];rfl
def ZX (s:Ai):Int×Int×Bool:=bif (JO s true).2.2 then((JO s true).1,(JO s true).2.1,true) else(0,0,false)
theorem Kt {s:Ai}(hs:s.length≤2000000):EF FB s=some (ZX s):=by
 have hb:=N1 s 58;unfold EF;rw[show(0:Int)=((0:Nat):Int) from rfl,NN hs s 0 FB rfl (Afv _) (by show s.length<5000000;omega),Bq,Afu];show DO FB s _=_;unfold DO ZX JO V6 Su AbB ixE
 by_cases h:0≤Lib.indexByte s 58
 ·rw[Af6 h,Af6 h,Af6 h,AeQ h,AeP,AeP];rw[Bd (AeJ (by omega)),DD (by omega) (by omega),Pp (by rw[Af8];omega),Bq,AK (by omega) (by omega),DD (by omega) (by omega)];rw[show Int.toNat ((((Lib.indexByte s 58).toNat:Nat):Int))=(Lib.indexByte s 58).toNat from by omega,show Int.toNat ((((Lib.indexByte s 58).toNat:Nat):Int)+1)=(Lib.indexByte s 58+1).toNat from by omega];rw[Db (show Eh 1 _=true from AeQ (by rw[Af9];omega))];generalize s.drop (Lib.indexByte s 58+1).toNat=p;have e:((!decide ((MV (s.take (Lib.indexByte s 58).toNat)).2=0))||((!decide (Cq p=0))||(decide (B6 p<1)||decide (65535<B6 p)))) = !(decide ((MV (s.take (Lib.indexByte s 58).toNat)).2=0)&&(decide (Cq p=0)&&(decide (1≤B6 p)&&decide (B6 p≤65535)))):=by
   rw[Afs];simp only[Afj,Afe,Afk,AeH,AeG];omega
  rw[e]
  cases decide ((MV (s.take (Lib.indexByte s 58).toNat)).2=0)&&(decide (Cq p=0)&&(decide (1≤B6 p)&&decide (B6 p≤65535)))<;>rfl
 ·rw[Afz h,AeJ h,Bl (AeQ (by omega))];rfl
theorem Rd {l:List Ai}(hl:l.length≤2000000)(s:Ai):Re FB l s=some (Vy l s):=by
 have:=RX (l:=l) (p:=λy=>decide (y=s)) (c:=true) (body:=Iv l s) hl (λi h=>by
  unfold Iv;rw[Bl (AeQ (by omega)),Bm (by omega) (by omega),CD h,AK (by omega) (by omega)]) (by unfold Iv;rw[Bd (AeJ (by omega))])
 unfold Re KC Vy;refine this.trans ?_;have e:(λy=>decide (s=y))=λy:Ai=>decide (y=s):=by funext y;exact decide_eq_decide.2 eq_comm
 rw[e]
 cases l.any λy=>decide (y=s)<;>rfl
theorem Gt {α:Type}(p:Bool)(x:α)(b:Bool)(y:Option α×Bool):(bif p then((some x:Option α),b) else y).1.isSome=(p||y.1.isSome):=by cases p<;>rfl
theorem JT (op:Ai):Gc FB op=some (GZ op).1.isSome:=by
 unfold Gc;rw[Rd (by decide),Bq]
 congr 1
 unfold GZ Vy;rw[Gt,Gt,Gt,Gt,Gt,Gt,Gt,Gt,Gt,Gt];simp only[List.any_cons,List.any_nil,AeY];generalize decide (op=[103,101,116])=a1;generalize decide (op=[112,117,116])=a2;generalize decide (op=[100,101,108,101,116,101])=a3
 cases a1<;>cases a2<;>cases a3<;>first | rfl | simp
theorem AbR {v:List Ac}(h:Kh MB v):HC FB v=some (GH v):=Xy h (by decide) (by decide)
theorem QK {v:List Ac}(hv:Kh MB v):Nj FB v=some (bif decide (GH v=0)&&decide ((Ax v 0).fKind=4) then((Ax v 0).fStr,true) else([],false)):=by
 unfold Nj;rw[AbR hv,Option.isSome_some,Cg];have e0:decide (ov (some (GH v))=0)=decide (GH v=0):=rfl;rw[e0]
 by_cases h:GH v=0
 ·have hp:=I0 h;rw[AeQ h,Oj (by omega) (by omega),C9,Cg,AeL,AeS,AeP,Cg]
  cases decide ((Ax v 0).fKind=4)<;>rfl
 ·rw[AeJ h];rfl
theorem Tq {s:Ai}(hs:s.length≤2000000)(op:Ai):H4 FB op s=some (bif decide (op=[103,101,116])||(decide (op=[112,117,116])||(decide (op=[100,101,108,101,116,101])||decide (op=[115,105,103,110,97,108]))) then Jq s else bif decide (op=[102,101,116,99,104]) then(JO s true).2.2 else Cv s):=by
 unfold H4;rw[Db (show Eh 1 s.length=true from AeQ (by omega)),Db (show Eh 1 s.length=true from AeQ (by omega)),Kt hs,Bq];have e:(ZX s).2.2=(JO s true).2.2:=by unfold ZX;cases(JO s true).2.2<;>rfl
 rw[e,El,El]
theorem AcF {v:List Ac}(h:GH v=0):decide (0<(Ax v 0).fN)=decide (1<(v.length:Int)):=by
 unfold GH at h
 cases hw:whole v with
 | none=>rw[hw] at h;cases h
 | some f=>
  obtain⟨h1,h2,h3⟩:=OP hw;subst h1
  cases f with
  | nil=>cases h3
  | cell k c r=>cases k with
   | some _=>cases h3
   | none=>cases r with
    | nil=>
     simp only[Fo.wf,AeI,Afe,AeG] at h2;have h4 : ¬ 0<c.fN:=h2.1.2;show decide (0<c.fN)=decide (1<((1:Nat):Int));rw[AeJ h4];rfl
    | cell _ _ _=>cases h3
    | node _ _ _ _=>cases h3
  | node k c kids r=>cases k with
   | some _=>cases h3
   | none=>cases r with
    | nil=>
     simp only[Fo.wf,AeI,AeH] at h2;obtain⟨⟨⟨⟨⟨w1,w2⟩,w3⟩,w5⟩,w6⟩,w4⟩:=h2;have hc:=CX kids;show decide (0<c.fN)=decide (1<(((Fo.node none c kids .nil).flat.length:Nat):Int));rw[AeQ w3,AeQ];simp only[Fo.flat,Cj,AfF,AfD,AeZ];omega
    | cell _ _ _=>cases h3
    | node _ _ _ _=>cases h3
theorem ZV (s:Ai)(b:Bool):(JO s b).2.2=(b&&(JO s true).2.2):=by unfold JO;cases b<;>rfl
theorem V4 {q:AQ}(hq:VE q)(hp:0<q.fArgs.length)(he:GH (Ax q.fArgs 0)=0)(hn:(decide (q.fOp=([110,111,119]:Ai))||decide (q.fOp=([108,111,103]:Ai)))=false){k:Nat}
  (hk:(decide ((Ax (Ax q.fArgs 0) 0).fKind=4)&&(bif decide (q.fOp=[103,101,116])||(decide (q.fOp=[112,117,116])||(decide (q.fOp=[100,101,108,101,116,101])||decide (q.fOp=[115,105,103,110,97,108]))) then Jq (Jn q) else bif decide (q.fOp=[102,101,116,99,104]) then(JO (Jn q) true).2.2 else Cv (Jn q)))=Ek k (Ax q.fArgs 0))
  {b:Bool} (hb:Ek k (Ax q.fArgs 0)=true→(Bz (decide (q.fOp=([116,105,109,101,114]:Ai))) (AX (Ch 1 (q.fArgs.length:Int))<|AX (Ch 0 ((Ax q.fArgs 1).length:Int))<|some ((decide (((Ax (Ax q.fArgs 1) 0).fKind)=3))&&((decide (0≤((Ax (Ax q.fArgs 1) 0).fInt)))&&(decide (((Ax (Ax q.fArgs 1) 0).fInt)≤1073741824))))) (AX (imp (!(!decide (q.fOp=([115,105,103,110,97,108]:Ai)))) (Ch 1 (q.fArgs.length:Int)))<|AX (imp (!(!decide (q.fOp=([115,105,103,110,97,108]:Ai)))) ((Ev (Ax q.fArgs 1)).isSome))<|some ((!decide (q.fOp=([115,105,103,110,97,108]:Ai)))||(ov (Ev (Ax q.fArgs 1))))):Option Bool)=some b) :
  D0 FB q=some (Ek k (Ax q.fArgs 0)&&b):=by
 have hA:Kh MB (Ax q.fArgs 0):=by have:=hq.at (i:=0) hp;exact this
 have hl:=I0 he;have hs:=hA.str hl;unfold D0;rw[hn,Cd,Bm (by omega) (by omega),QK hA,Bq,AeQ he,AeP]
 cases hk4:decide ((Ax (Ax q.fArgs 0) 0).fKind=4) with
 | false=>
  rw[hk4,AeT] at hk;rw[← hk];rfl
 | true=>
  rw[hk4,AeP] at hk;rw[AeW];simp only;rw[Tq (s:=(Ax (Ax q.fArgs 0) 0).fStr) (by omega),Option.isSome_some,C9,Cg,Dl];rw[show(Ax (Ax q.fArgs 0) 0).fStr=Jn q from rfl,hk]
  cases hd:Ek k (Ax q.fArgs 0) with
  | false=>rfl
  | true=>
   rw[show((!true)||(!true))=false from rfl,Cd,hb hd,AeP]
theorem Ut (v:List Ac):Ek 88 v=(decide ((Ax v 0).fKind=4)&&Jq (Ax v 0).fStr):=rfl
theorem WB (v:List Ac):Ek 89 v=(decide ((Ax v 0).fKind=4)&&Cv (Ax v 0).fStr):=rfl
theorem Aca (v:List Ac):Ek 92 v=(decide ((Ax v 0).fKind=4)&&(JO (Ax v 0).fStr true).2.2):=ZV _ _
theorem nn (a:Bool):(!!a)=a:=by cases a<;>rfl
theorem Ac0 (k:Nat)(hk:decide (k=0)=false)(l:List (List Ac)):HB [k] l=Ek k (Ax l 0):=by
 show(!((!decide (k=0)&&!Ek k (Ax l 0))||false))=_;rw[hk];cases Ek k (Ax l 0)<;>rfl
theorem Acz (k:Nat)(hk:decide (k=0)=false)(l:List (List Ac)):HB [k,0] l=Ek k (Ax l 0):=by
 show(!((!decide (k=0)&&!Ek k (Ax l 0))||((!decide (0=0)&&!Ek 0 (Ax l 1))||false)))=_;rw[hk];cases Ek k (Ax l 0)<;>rfl
theorem AaL (k j:Nat)(hk:decide (k=0)=false)(hj:decide (j=0)=false)(l:List (List Ac)):HB [k,j] l=(Ek k (Ax l 0)&&Ek j (Ax l 1)):=by
 show(!((!decide (k=0)&&!Ek k (Ax l 0))||((!decide (j=0)&&!Ek j (Ax l 1))||false)))=_;rw[hk,hj];cases Ek k (Ax l 0)<;>cases Ek j (Ax l 1)<;>rfl
theorem Acy (k j:Nat)(hk:decide (k=0)=false)(hj:decide (j=0)=false)(l:List (List Ac)):HB [k,j,0] l=(Ek k (Ax l 0)&&Ek j (Ax l 1)):=by
 show(!((!decide (k=0)&&!Ek k (Ax l 0))||((!decide (j=0)&&!Ek j (Ax l 1))||((!decide (0=0)&&!Ek 0 (Ax l 2))||false))))=_;rw[hk,hj];cases Ek k (Ax l 0)<;>cases Ek j (Ax l 1)<;>rfl
theorem Ab6 {q:AQ}(hq:VE q){s:List Nat}(ht:(GZ q.fOp).1=some s)(hl:q.fArgs.length=s.length)(hv:∀v∈q.fArgs,GH v=0):D0 FB q=some (HB s q.fArgs):=by
 have he:∀i:Nat,i<q.fArgs.length→GH (Ax q.fArgs (i:Int))=0:=λi hi=>hv _ (by rw[CD hi];exact List.getElem_mem hi);have go1:∀k:Nat,decide (k=0)=false→∀b:Bool,(s=[k]∨s=[k,0])→(decide (q.fOp=([110,111,119]:Ai))||decide (q.fOp=([108,111,103]:Ai)))=false→decide (q.fOp=([116,105,109,101,114]:Ai))=false→decide (q.fOp=([115,105,103,110,97,108]:Ai))=false→
   (decide ((Ax (Ax q.fArgs 0) 0).fKind=4)&&(bif decide (q.fOp=[103,101,116])||(decide (q.fOp=[112,117,116])||(decide (q.fOp=[100,101,108,101,116,101])||decide (q.fOp=[115,105,103,110,97,108]))) then Jq (Jn q) else bif decide (q.fOp=[102,101,116,99,104]) then(JO (Jn q) true).2.2 else Cv (Jn q)))=Ek k (Ax q.fArgs 0)→D0 FB q=some (HB s q.fArgs):=by
  intro k hk b hs h1 h2 h3 h4;have hp:0<q.fArgs.length:=by rcases hs with rfl | rfl<;>simp at hl<;>omega
  rw[V4 hq hp (he 0 hp) h1 h4 (b:=true) (λ_=>by rw[h2,h3];rfl),AeX];rcases hs with rfl | rfl
  ·rw[Ac0 k hk]
  ·rw[Acz k hk]
 rcases RL ht with e | e | e | e | e | e | e | e | e | e
 ·have hs:s=[88]:=by rw[e] at ht;cases ht;rfl
  exact go1 88 rfl true (.inl hs) (by rw[e];rfl) (by rw[e];rfl) (by rw[e];rfl) (by rw[e,Ut];rfl)
 ·have hs:s=[88]:=by rw[e] at ht;cases ht;rfl
  exact go1 88 rfl true (.inl hs) (by rw[e];rfl) (by rw[e];rfl) (by rw[e];rfl) (by rw[e,Ut];rfl)
 ·have hs:s=[88,0]:=by rw[e] at ht;cases ht;rfl
  exact go1 88 rfl true (.inr hs) (by rw[e];rfl) (by rw[e];rfl) (by rw[e];rfl) (by rw[e,Ut];rfl)
 ·have hs:s=[89,0]:=by rw[e] at ht;cases ht;rfl
  exact go1 89 rfl true (.inr hs) (by rw[e];rfl) (by rw[e];rfl) (by rw[e];rfl) (by rw[e,WB];rfl)
 ·have hs:s=[89,90,0]:=by rw[e] at ht;cases ht;rfl
  subst hs;have hl3:q.fArgs.length=3:=hl;rw[Acy 89 90 rfl rfl];have h1:=he 1 (by omega);have hp1:0<(Ax q.fArgs 1).length:=I0 h1;refine V4 hq (by omega) (he 0 (by omega)) (by rw[e];rfl) (by rw[e,WB];rfl) (λ_=>?_);rw[Bl (by rw[e];rfl),Bm (by omega) (by omega),Bm (by omega) (by omega)];rfl
 ·have hs:s=[88,91]:=by rw[e] at ht;cases ht;rfl
  subst hs;have hl3:q.fArgs.length=2:=hl;rw[AaL 88 91 rfl rfl];have h1:=he 1 (by omega);have hp1:0<(Ax q.fArgs 1).length:=I0 h1;refine V4 hq (by omega) (he 0 (by omega)) (by rw[e];rfl) (by rw[e,Ut];rfl) (λ_=>?_);have hlist:Ev (Ax q.fArgs 1)=some (Ek 91 (Ax q.fArgs 1)):=by
   unfold Ev;have e2:=AcF (v:=Ax q.fArgs 1) h1;rw[Bm (by omega) (by omega),e2];show _=some (decide (1<((Ax q.fArgs 1).length:Int))&&(decide ((Ax (Ax q.fArgs 1) 0).fKind=5)&&decide ((Ax (Ax q.fArgs 1) 1).fKind=4)))
   by_cases h5:1<((Ax q.fArgs 1).length:Int)
   ·rw[AeQ h5,Oj (by omega) (by omega),C9,C9,Cg]
    cases decide ((Ax (Ax q.fArgs 1) 0).fKind=5)<;>rfl
   ·rw[AeJ h5,Sd,C9,Cg]
    cases decide ((Ax (Ax q.fArgs 1) 0).fKind=5)<;>rfl
  rw[Bd (by rw[e];rfl),hlist,show decide (q.fOp=([115,105,103,110,97,108]:Ai))=true from AeQ e,Oj (by omega) (by omega),C9,Option.isSome_some,C9,Cg,Cg,Dl];rfl
 ·have hs:s=[89]:=by rw[e] at ht;cases ht;rfl
  exact go1 89 rfl true (.inl hs) (by rw[e];rfl) (by rw[e];rfl) (by rw[e];rfl) (by rw[e,WB];rfl)
 ·have hs:s=[92,0]:=by rw[e] at ht;cases ht;rfl
  exact go1 92 rfl true (.inr hs) (by rw[e];rfl) (by rw[e];rfl) (by rw[e];rfl) (by rw[e,Aca];rfl)
 ·have hs:s=[]:=by rw[e] at ht;cases ht;rfl
  subst hs;unfold D0;rw[e];rfl
 ·have hs:s=[0]:=by rw[e] at ht;cases ht;rfl
  subst hs;unfold D0;rw[e];rfl
theorem Vc {q:AQ}(hq:VE q){s:List Nat}(ht:(GZ q.fOp).1=some s):Mx FB q=some (!Ye q s):=by
 have hl:=hq.l;have hm:Oy q.fOp=some (s.length:Int):=by
  rcases RL ht with e | e | e | e | e | e | e | e | e | e<;>(rw[e] at ht ⊢;cases ht;rfl)
 unfold Mx Ye;rw[hm,Bq]
 cases hx:decide ((q.fArgs.length:Int)=(s.length:Int)) with
 | false=>rfl
 | true=>
  rw[AeL,Cd,AeS];have hf:=GO (l:=q.fArgs) (p:=λv=>!decide (GH v=0)) (ret:=λ_=>false) (u:=()) (F:=FB) (body:=EE FB q) (by show q.fArgs.length<5000000;omega) (λi h=>by
   unfold EE;rw[Bl (AeQ (by omega)),Bm (by omega) (by omega),AbR (hq.at h),Bq,AK (by omega) (by omega),CD h]) (by unfold EE;rw[Bd (AeJ (by omega))])
  rw[show BX (λσ=>EE FB q σ) FB 0=_ from hf,Bq];have e1:=KG q.fArgs λv=>!decide (GH v=0);have e2:(q.fArgs.any λv=>!decide (GH v=0)) = !(q.fArgs.findIdx? λv=>!decide (GH v=0)).isNone:=by
   rw[e1,List.not_all_eq_any_not];simp only[Bool.not_not]
  rw[e2]
  cases hfi:q.fArgs.findIdx? λv=>!decide (GH v=0) with
  | some j=>rfl
  | none=>
   have hv:∀v∈q.fArgs,GH v=0:=λv hv=>by
    have:=List.findIdx?_eq_none_iff.1 hfi v hv;simpa using this
   show D0 FB q=_;rw[Ab6 hq ht (by have:=Afy hx;omega) hv,Option.isNone_none,AeL,AeS,Bool.not_not]
theorem Zz {U:Type}{N:Nat}{g:Nat→Int}{body:Int→Option (Stp Int (Out Int U))}{u:U}(hb:∀i:Nat,1≤i→i<N→body (i:Int)=Bz (!decide (g i=0)) (some (.out (.ret (g i)))) (some (.next ((i:Int)+1))))(he:body (N:Int)=some (.out (.go u))) :
  ∀(k n i:Nat),1≤i→i+k=N→k<n→BX body n (i:Int)=some (bif decide (CA g i k=0) then .go u else .ret (CA g i k)):=by
 intro k
 induction k with
 | zero=>
  intro n i h1 h hn;obtain⟨n,rfl⟩:∃m,n=m+1:=⟨n-1,by omega⟩
  obtain rfl:i=N:=by omega
  rw[BX,he];rfl
 | succ k ih=>
  intro n i h1 h hn;obtain⟨n,rfl⟩:∃m,n=m+1:=⟨n-1,by omega⟩
  rw[BX,hb i h1 (by omega),CA]
  cases hg:decide (g i=0) with
  | true=>exact ih n (i+1) (by omega) (by omega) (by omega)
  | false=>simp only[AeU,DC,AeM,hg]
theorem X3 {a:AV}(h:AcA a)(hfl:a.fFunction.length≤2000000):EG FB a=some (Aap a):=by
 have h0:=h.o;have h1:=h.p;have h2:=h.n;have ht:=h.t;have e5:CN a=some (bif !JW a.fNow then 2 else 0):=by
  unfold CN JW;rw[El];have:(decide (a.fNow<0)||decide (1073741824<a.fNow)) = !(decide (0≤a.fNow)&&decide (a.fNow≤1073741824)):=by
   rw[Afs];simp only[Afj,Afe,Afk,AeH,AeG];omega
  rw[this]
 have e4:CO FB a=some (Qd (CA (λi=>HP (Ax a.fNet (i:Int))) 0 a.fNet.length) (bif !JW a.fNow then 2 else 0)):=by
  unfold CO;rw[G2 (R:=Unit) (N:=a.fNet.length) (g:=λi=>HP (Ax a.fNet (i:Int))) (K:=CN a) (by show a.fNet.length<5000000;omega) (λi hi=>by
   unfold Di;rw[Bl (AeQ (by omega)),Bm (by omega) (by omega),JE,Bq,AK (by omega) (by omega)]) (by unfold Di;rw[Bd (AeJ (by omega))]),e5]
  exact Im _ _
 have e3:Dh FB a=some (bif decide (32<(a.fPolicy.length:Int))||decide (32<(a.fNet.length:Int)) then 3 else Qd (CA (λi=>No (Ax a.fPolicy (i:Int))) 0 a.fPolicy.length) (Qd (CA (λi=>HP (Ax a.fNet (i:Int))) 0 a.fNet.length) (bif !JW a.fNow then 2 else 0))):=by
  unfold Dh;rw[G2 (R:=Unit) (N:=a.fPolicy.length) (g:=λi=>No (Ax a.fPolicy (i:Int))) (K:=CO FB a) (by show a.fPolicy.length<5000000;omega) (λi hi=>by
   unfold Dj;have hm:MX (Ax a.fPolicy (i:Int)):=by rw[CD hi];exact h.st _ (List.getElem_mem hi)
   rw[Bl (AeQ (by omega)),Bm (by omega) (by omega),NQ hm,Bq,AK (by omega) (by omega)]) (by unfold Dj;rw[Bd (AeJ (by omega))]),e4,Im,El]
 have e2:CP FB a=some (Qd (CA (Of a) 0 a.fOps.length) (bif decide (32<(a.fPolicy.length:Int))||decide (32<(a.fNet.length:Int)) then 3 else Qd (CA (λi=>No (Ax a.fPolicy (i:Int))) 0 a.fPolicy.length) (Qd (CA (λi=>HP (Ax a.fNet (i:Int))) 0 a.fNet.length) (bif !JW a.fNow then 2 else 0)))):=by
  unfold CP;have hend:BW a (a.fOps.length:Int)=some (.out (.go ())):=by unfold BW;rw[Bd (AeJ (by omega))]
  rw[e3];rcases Nat.eq_zero_or_pos a.fOps.length with hz | hz
  ·have hb1:BW a 1=some (.out (.go ())):=by unfold BW;rw[Bd (AeJ (by omega))]
   rw[RW (n:=4999999) (body:=λσ=>BW a σ) hb1,Bq,hz];rfl
  ·obtain⟨m,hm⟩:∃m,a.fOps.length=m+1:=⟨a.fOps.length-1,by omega⟩
   have hf:CA (Of a) 0 a.fOps.length=CA (Of a) 1 m:=by
    rw[hm,CA];have:Of a 0=0:=rfl;rw[this];rfl
   rw[hf,show BX (λσ=>BW a σ) FB 1=some (bif decide (CA (Of a) 1 m=0) then .go () else .ret (CA (Of a) 1 m)) from ?_,Bq]
   ·cases hd:decide (CA (Of a) 1 m=0) with
    | true=>rw[Afy hd];rfl
    | false=>unfold Qd;rw[hd];rfl
   ·refine Zz (g:=Of a) (N:=a.fOps.length) (λi h1 hi=>?_) hend m FB 1 (Afm _) (by omega) (by show m<5000000;omega);unfold BW;rw[Bl (AeQ (by omega)),Bm (by omega) (by omega),AK (by omega) (by omega),Bm (by omega) (by omega),AK (by omega) (by omega),OB (by decide)];unfold Of;rw[AeQ (by omega:0<(i:Int)),AeP]
 have hnm:∀i:Nat,i<a.fOps.length→CQ FB a (i:Int)=Bz (!decide (X8 a i=0)) (some (.out (.ret (X8 a i)))) (some (.next ((i:Int)+1))):=λi hi=>by
  unfold CQ X8;rw[Bl (AeQ (by omega)),Bm (by omega) (by omega),JT,Bq,AK (by omega) (by omega),OB (by decide)]
  cases(GZ (Ax a.fOps (i:Int))).1<;>rfl
 unfold EG Aap;rw[Db (show Eh 1 a.fTenant.length=true from AeQ (by omega))];have hfn:imp (!!Cv a.fTenant) (Eh 1 a.fFunction.length)=true:=by
  rw[show Eh 1 a.fFunction.length=true from AeQ (by omega)];exact C9 _
 rw[hfn,Cg];rw[G2 (R:=Unit) (N:=a.fOps.length) (g:=X8 a) (K:=CP FB a) (by show a.fOps.length<5000000;omega) hnm (by unfold CQ;rw[Bd (AeJ (by omega))]),e2,Im,El]
set_option maxRecDepth 100000 in
theorem RZ:Ir 5000000=some true:=by decide +kernel
theorem RB {t op n:Ai}(h1:t.length≤2000000)(h2:op.length≤2000000)(h3:n.length≤2000000):IC t op n=some (AaM t op n):=JM h1 h2 h3
theorem Vl {q:AQ}{s:List Nat}(ht:(GZ q.fOp).1=some s)(hl:q.fArgs.length=s.length)(hr:HB s q.fArgs=true)(hn:(decide (q.fOp=([110,111,119]:Ai))||decide (q.fOp=([108,111,103]:Ai)))=false) :
  (GZ q.fOp).2=true∧0<q.fArgs.length∧decide ((Ax (Ax q.fArgs 0) 0).fKind=4)=true∧(SC q=true→(JO (Jn q) true).2.2=true):=by
 have h0:∀k:Nat,decide (k=0)=false→(∃r,s=k::r)→Ek k (Ax q.fArgs 0)=true:=λk hk ⟨r,e⟩=>by
  subst e;unfold HB at hr;rw[Afe,List.any_eq_false] at hr;have h1:=hr 0 (by simp);have h2 : ¬ (!decide (k=0)&&!Ek k (Ax q.fArgs 0))=true:=h1;rw[hk] at h2
  cases hd:Ek k (Ax q.fArgs 0) with
  | true=>rfl
  | false=>rw[hd] at h2;exact absurd rfl h2
 have k8:Ek 88 (Ax q.fArgs 0)=true→decide ((Ax (Ax q.fArgs 0) 0).fKind=4)=true:=λh=>by rw[Ut,AeI] at h;exact h.1
 have k9:Ek 89 (Ax q.fArgs 0)=true→decide ((Ax (Ax q.fArgs 0) 0).fKind=4)=true:=λh=>by rw[WB,AeI] at h;exact h.1
 rcases RL ht with e | e | e | e | e | e | e | e | e | e
 ·have hs:s=[88]:=by rw[e] at ht;cases ht;rfl
  exact⟨by rw[e];rfl,by rw[hl,hs];decide,k8 (h0 88 rfl ⟨_,hs⟩),λh=>by unfold SC at h;rw[e] at h;cases h⟩
 ·have hs:s=[88]:=by rw[e] at ht;cases ht;rfl
  exact⟨by rw[e];rfl,by rw[hl,hs];decide,k8 (h0 88 rfl ⟨_,hs⟩),λh=>by unfold SC at h;rw[e] at h;cases h⟩
 ·have hs:s=[88,0]:=by rw[e] at ht;cases ht;rfl
  exact⟨by rw[e];rfl,by rw[hl,hs];decide,k8 (h0 88 rfl ⟨_,hs⟩),λh=>by unfold SC at h;rw[e] at h;cases h⟩
 ·have hs:s=[89,0]:=by rw[e] at ht;cases ht;rfl
  exact⟨by rw[e];rfl,by rw[hl,hs];decide,k9 (h0 89 rfl ⟨_,hs⟩),λh=>by unfold SC at h;rw[e] at h;cases h⟩
 ·have hs:s=[89,90,0]:=by rw[e] at ht;cases ht;rfl
  exact⟨by rw[e];rfl,by rw[hl,hs];decide,k9 (h0 89 rfl ⟨_,hs⟩),λh=>by unfold SC at h;rw[e] at h;cases h⟩
 ·have hs:s=[88,91]:=by rw[e] at ht;cases ht;rfl
  exact⟨by rw[e];rfl,by rw[hl,hs];decide,k8 (h0 88 rfl ⟨_,hs⟩),λh=>by unfold SC at h;rw[e] at h;cases h⟩
 ·have hs:s=[89]:=by rw[e] at ht;cases ht;rfl
  exact⟨by rw[e];rfl,by rw[hl,hs];decide,k9 (h0 89 rfl ⟨_,hs⟩),λh=>by unfold SC at h;rw[e] at h;cases h⟩
 ·have hs:s=[92,0]:=by rw[e] at ht;cases ht;rfl
  have h9:=h0 92 rfl ⟨_,hs⟩;rw[Aca,AeI] at h9;exact⟨by rw[e];rfl,by rw[hl,hs];decide,h9.1,λ_=>h9.2⟩
 ·rw[e] at hn;cases hn
 ·rw[e] at hn;cases hn
theorem Qm {a:AV}{q:AQ}(ha:AcA a)(hfl:a.fFunction.length≤2000000)(hq:VE q):Cp FB a q=some (AbJ a q):=by
 have hn:=ha.t;unfold Cp AbJ;rw[X3 ha hfl,Bq];refine Aaa ?_;rw[JT,Bq]
 cases ht:(GZ q.fOp).1 with
 | none=>rfl
 | some s=>
  rw[Option.isSome_some,AeL,Cd,Rd ha.o,Bq];simp only
  cases hh:Vy a.fOps q.fOp with
  | false=>rfl
  | true=>
   rw[AeL,Cd,AeM,Vc hq ht,Bq,Bool.not_not]
   cases hb:Ye q s with
   | true=>rfl
   | false=>
    rw[Cd,AeM]
    cases hnl:(decide (q.fOp=([110,111,119]:Ai))||decide (q.fOp=([108,111,103]:Ai))) with
    | true=>
     rw[DC];rcases Afj _ _▸hnl with e | e
     ·have e:=Afy e;unfold SC;rw[e];rfl
     ·have e:=Afy e;unfold SC;rw[e];rfl
    | false=>
     unfold Ye at hb;rw[Afg,Afg,Aft,Aft,AeH] at hb;obtain⟨b1,b2,b3⟩:=hb;have hv:∀v∈q.fArgs,GH v=0:=by
      intro v hv;rw[List.any_eq_false] at b2;simpa using b2 v hv
     obtain⟨n1,n2,n3,n4⟩:=Vl ht (by omega) b3 hnl;have hA:Kh MB (Ax q.fArgs 0):=by have:=hq.at (i:=0) n2;exact this
     have he:GH (Ax q.fArgs 0)=0:=hv _ (by rw[show(0:Int)=((0:Nat):Int) from rfl,CD n2];exact List.getElem_mem n2);have hs:=hA.str (I0 he);rw[Cd,Bm (by omega) (by omega),QK hA,Bq,AeQ he,n3,n1];simp only[Bool.and_self,AeW,AeP];rw[show(Ax (Ax q.fArgs 0) 0).fStr=Jn q from rfl] at hs ⊢;rw[RB hn (Nat.le_trans (AbU ht) (by decide)) (Nat.le_trans hs (by decide)),Bq,RI ha.p ha.st,Bq];have hF:(Bz (decide (q.fOp=([102,101,116,99,104]:Ai))) (Bv (EF FB (Jn q)) λhd=>Bv (Ha FB a.fNet hd.1 hd.2.1) λhg=>Bz (!hg.fAllowed) (some 12) (some 0)) (some 0):Option Int)=some (bif SC q&&!Abc a q then 12 else 0):=by
      cases hf:SC q with
      | false=>rw[show decide (q.fOp=([102,101,116,99,104]:Ai))=false from hf];rfl
      | true=>
       have e2:=n4 hf;rw[show decide (q.fOp=([102,101,116,99,104]:Ai))=true from hf,DC,Kt (Nat.le_trans hs (by decide)),Bq];unfold ZX;rw[e2,AeW,Qp ha.n,Bq,El,AeP];rfl
     rw[hF,El];rfl
theorem RY {a:AV}{q:AQ}{name:Ai}(ha:AcA a)(hfl:a.fFunction.length≤2000000)(hq:VE q)(ho:q.fOp.length≤2000000)(hn:name.length≤2000000):K7 FB a q name=some true:=by
 have ht:=ha.t;have e1:(([47]:Ai).length:Int)=1:=rfl;unfold K7;rw[Ui ha hq,Qm ha hfl hq,JM ht ho hn,RZ];rw[GP (by rw[e1];omega) (by rw[e1];omega),GP (by simp;omega) (by simp;omega),GP (by simp;omega) (by simp;omega),GP (by simp;omega) (by simp;omega)];simp only[Option.isSome_some,C9,Cg,Dl];unfold AaM;simp
end Go.Proofs.YtmjlemhondjfhaaGreatDoor
namespace Go.Proofs.YtmjlemhondjfhaaGreatDoor.lawHostAllows
open Go
set_option linter.unusedVariables false
theorem law:Law:=λa q name h1 h2 h3=>⟨FB,RY (AcA.ofB h1).1 (AcA.fnB h1) (VE.ofB h2) (VE.opB h2) (by have:=Jj h3;omega)⟩
end Go.Proofs.YtmjlemhondjfhaaGreatDoor.lawHostAllows
