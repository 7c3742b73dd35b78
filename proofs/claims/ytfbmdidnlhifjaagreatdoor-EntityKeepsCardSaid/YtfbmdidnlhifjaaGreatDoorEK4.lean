/-
  Texts of the proof, put together: LvH, LvI, LvJ, LvK, LvL, LnS, LnA, LnB, LnC, PN, LnF, LnG, LnH, LnI, LnJ, LnK, LnL, LwEKeeps.
-/
import Derived.Test.YtfbmdidnlhifjaaGreatDoorEK3
import Derived.Sort.Walk0
namespace Go.Proofs.YtfbmdidnlhifjaaGreatDoor
open Go
set_option linter.unusedVariables false
set_option linter.unusedSimpArgs false
def KB (m:Bool)(last:Option Am)(k:Nat)(xs:List Ab):Option (Fo×List Ab):=Gx (xs.length+1) m last k xs
theorem Jr (m:Bool)(last:Option Am)(xs:List Ab):KB m last 0 xs=some (.nil,xs):=rfl
theorem Ex (m:Bool)(last:Option Am)(k:Nat)(xs:List Ab):KB m last (k+1) xs =
  match G2 m last xs with
  | none=>none
  | some (key,ys)=>match Gr ys with
   | none=>none
   | some (f,zs)=>match KB m key k zs with
    | none=>none
    | some (r,us)=>some (f.put key r,us):=by
 unfold KB Gr;rw[Gp (xs.length+1) (xs.length+2) m last (k+1) xs (by omega) (by omega),Rw]
 cases hk:G2 m last xs with
 | none=>rfl
 | some p=>
  obtain⟨key,ys⟩:=p;have h1:=(Kj hk).1;have hy:ys.length≤xs.length:=by rw[h1];simp
  simp only;rw[Gp (xs.length+2) (ys.length+1) false none 1 ys (by omega) (by omega)]
  cases hf:Gx (ys.length+1) false none 1 ys with
  | none=>rfl
  | some q=>
   obtain⟨f,zs⟩:=q;have h2:=(Ga _ _ _ _ _ _ _ hf).1;have hz:zs.length≤ys.length:=by rw[h2];simp
   simp only;rw[Gp (xs.length+1) (zs.length+1) m key k zs (by omega) (by omega)]
   all_goals (cases Gx (zs.length+1) m key k zs<;>rfl)
theorem LR {S O:Type}{body:S→Option (Stp S O)}{n:Nat}{s s':S}{o:O}(h:body s=some (.next s'))(h':BI body n s'=some o):BI body (n+1) s=some o:=by rw[BI,h];exact h'
theorem HY {S O:Type}{body:S→Option (Stp S O)}{n:Nat}{s:S}{o:O}(h:body s=some (.out o)):BI body (n+1) s=some o:=by rw[BI,h]
theorem N5:Gr []=none:=rfl
theorem Gq (c:Ab)(r:List Ab):Gr (c::r)=bif !pl c then none else bif decide (0<c.fN) then(match KB (decide (c.fKind=6)) none c.fN.toNat r with
  | none=>none
  | some (kids,zs)=>some (.node none c kids .nil,zs)) else some (.cell none c .nil,r):=by
 unfold Gr;rw[Gx];simp only[G2,Vl]
 cases hp:pl c with
 | false=>rfl
 | true=>
  simp only[Vw,Vl]
  cases hn:decide (0<c.fN) with
  | true=>
   simp only[Vq];unfold KB;rw[Vk]
   cases hq:Gx (r.length+1) (decide (c.fKind=6)) none c.fN.toNat r with
   | none=>rfl
   | some q=>obtain⟨kids,zs⟩:=q;rfl
  | false=>rfl
theorem N4 {f:Fo}(h:f.one=true)(key:Option Am)(r:Fo):(f.put key r).flat=Bv key++(f.flat++r.flat):=by
 cases f with
 | nil=>cases h
 | cell k c r'=>
  cases k with
  | some s=>cases h
  | none=>cases r' with
   | nil=>simp[Fo.put,Fo.flat,Bv]
   | cell _ _ _=>cases h
   | node _ _ _ _=>cases h
 | node k c kids r'=>
  cases k with
  | some s=>cases h
  | none=>cases r' with
   | nil=>simp[Fo.put,Fo.flat,Bv]
   | cell _ _ _=>cases h
   | node _ _ _ _=>cases h
theorem Ry {f:Fo}(h:f.one=true):1≤f.flat.length:=by
 cases f with
 | nil=>cases h
 | cell k c r'=>simp[Fo.flat];omega
 | node k c kids r'=>simp[Fo.flat];omega
theorem H7 {xs ys:List Ab}{f:Fo}(h:Gr xs=some (f,ys)):xs=f.flat++ys∧f.wf false none=true∧f.one=true:=
 ⟨(Ga _ _ _ _ _ _ _ h).1,(Ga _ _ _ _ _ _ _ h).2.1,Pq h⟩
def GN (v:List Ab)(i:Int):Int:=match Gr (v.drop i.toNat) with
 | none=>-1
 | some (f,_)=>i+f.flat.length
def IO (m:Bool)(last:Option Am)(v:List Ab)(i:Int)(k:Nat):Int:=match KB m last k (v.drop i.toNat) with
 | none=>-1
 | some (f,_)=>i+f.flat.length
theorem LN {v:List Ab}{i:Int}(h0:0≤i)(h1:i≤v.length):GN v i = -1∨(i<GN v i∧GN v i≤v.length):=by
 unfold GN
 cases h:Gr (v.drop i.toNat) with
 | none=>exact .inl rfl
 | some q=>
  obtain⟨f,ys⟩:=q;obtain⟨h2,_,h3⟩:=H7 h;have:=Ry h3;have hl:(v.drop i.toNat).length=f.flat.length+ys.length:=by rw[h2];simp
  rw[List.length_drop] at hl
  right;simp only;omega
structure U8 (F M:Nat) (v:List Ab):Prop where
 hM:M≤1152921504606846976
 hv:v.length≤M
 hF:M<F
 hc:∀c∈v,c.fStr.length≤M
theorem Qj (ok:Bool){i:Int}(h0:0≤i)(h1:i≤1152921504606846976):Ce ok i=some (bif ok then i+1 else -1):=by
 unfold Ce
 cases ok
 ·rfl
 ·rw[Az rfl,AB (by omega) (by omega)];rfl
theorem Pm {F:Nat}{c:Ab}(hF:c.fStr.length<F)(hs:c.fStr.length≤1152921504606846976):Rv F c=some (decide (c.fKind=4)&&pl c):=by
 unfold Rv;rw[Qd hF (by omega)];simp only[Option.isSome_some,ov,V1,imp,VP,Bd,Vq]
 cases h4:decide (c.fKind=4) with
 | false=>rfl
 | true=>
  simp only[Vf] at h4;simp[pl,h4]
theorem Ct {v:List Ab}{i:Int}{c:Ab}{r:List Ab}(h0:0≤i)(h:v.drop i.toNat=c::r):Ad v i=c:=by
 have:=(BC h0 h).1;simp[Ad,this]
section
variable {M : Nat} {v : List Ab}
theorem HU {F:Nat}(hA:U8 F M v){g:List Ab→Int→Option Int}{n:Int}(hn:n≤9223372036854775807):∀(L:Nat) (i x:Int),0≤i→i≤v.length→0≤x→x≤n→(∀j,i≤j→j≤v.length→g v j=some (GN v j))→v.length-i.toNat<L→
  ∃o,BI (λσ=>CV v n g σ.1 σ.2) L (i,x)=some o∧BD (λν=>G1 ν) o=some (IO false none v i (n-x).toNat)
 | 0,i,x,_,_,_,_,_,h=>by omega
 | L+1,i,x,h0,h1,hx,hxn,hg,hL=>by
  cases hxl:decide (x<n) with
  | false=>
   refine⟨.go i,HY (by show CV v n g i x=_;unfold CV;rw[Ar hxl]),?_⟩;simp only[Vg] at hxl;rw[show(n-x).toNat=0 from by omega];simp[BD,G1,IO,Jr,Fo.flat]
  | true=>
   have hb:CV v n g i x=Bg (decide (GN v i<0)) (some (.out (.ret (-1)))) (Bd (BE .i64 (x+1))<|some (.next (GN v i,x+1))):=by unfold CV;rw[Az hxl,hg i (Vx i) h1,AF rfl]
   simp only[Vf] at hxl;obtain⟨k,hk⟩:∃k,(n-x).toNat=k+1:=⟨(n-x).toNat-1,by omega⟩
   rw[hk];have e:IO false none v i (k+1)=bif decide (GN v i<0) then -1 else IO false none v (GN v i) k:=by
    unfold IO;rw[Ex];simp only[G2,Vl]
    cases hp:Gr (v.drop i.toNat) with
    | none=>simp[GN,hp]
    | some q=>
     obtain⟨f,ys⟩:=q;obtain⟨q1,q2,q3⟩:=H7 hp;have hi:GN v i=i+f.flat.length:=by simp[GN,hp]
     have hd:v.drop (GN v i).toNat=ys:=by rw[hi];exact Cv h0 q1
     rw[hd,Vc (by omega)];simp only[Vl]
     cases hr:KB false none k ys with
     | none=>rfl
     | some q=>
      obtain⟨r,zs⟩:=q;simp only[N4 q3,Bv,VT,Vo,hi];omega
   rw[e];rcases LN (v:=v) h0 h1 with hneg | ⟨hlt,hle⟩
   ·exact⟨.ret (-1),HY (hb.trans (by rw[hneg,Az (by decide)])),by rw[hneg];rfl⟩
   ·have hM:=hA.hM;have hvM:=hA.hv;obtain⟨o,ho1,ho2⟩:=HU hA hn L (GN v i) (x+1) (by omega) hle (by omega) (by omega) (λj hj=>hg j (by omega)) (by omega);exact⟨o,LR (hb.trans (by rw[Ar (Vc (by omega)),AB (by omega) (by omega)])) ho1,by rw[ho2,show(n-(x+1)).toNat=k from by omega,Vc (by omega)];rfl⟩
theorem K6 {F:Nat}(hA:U8 F M v){g:List Ab→Int→Option Int}{n:Int}(hn:n≤9223372036854775807):∀(L:Nat) (i x:Int) (last:Am),0≤i→i≤v.length→0≤x→x≤n→(∀j,i≤j→j≤v.length→g v j=some (GN v j))→v.length-i.toNat<L→
  ∃o,BI (λσ=>Ds F v n g σ.1 σ.2.1 σ.2.2) L (i,last,x)=some o∧BD (λν=>Jn ν) o=some (IO true (bif decide (0<x) then some last else none) v i (n-x).toNat)
 | 0,i,x,_,_,_,_,_,_,h=>by omega
 | L+1,i,x,last,h0,h1,hx,hxn,hg,hL=>by
  have hM:=hA.hM;have hvM:=hA.hv;have hMF:=hA.hF
  cases hxl:decide (x<n) with
  | false=>
   refine⟨.go i,HY (by show Ds F v n g i last x=_;unfold Ds;rw[Ar hxl]),?_⟩;simp only[Vg] at hxl;rw[show(n-x).toNat=0 from by omega];simp[BD,Jn,IO,Jr,Fo.flat]
  | true=>
   have hxl':=hxl;simp only[Vf] at hxl;obtain⟨k,hk⟩:∃k,(n-x).toNat=k+1:=⟨(n-x).toNat-1,by omega⟩
   rw[hk]
   cases hd:v.drop i.toNat with
   | nil=>
    have hl:v.length≤i.toNat:=by simpa using hd
    refine⟨.ret (-1),HY (by
     show Ds F v n g i last x=_;unfold Ds;rw[Az hxl',B0 (by simp[imp,show(v.length:Int)≤i from by omega]),B0 (by simp[imp,show(v.length:Int)≤i from by omega]),Az (by simp[show(v.length:Int)≤i from by omega])]),?_⟩
    simp[BD,IO,hd,Ex,G2]
   | cons c r=>
    obtain⟨g1,g2,g3⟩:=BC h0 hd;have hcM:=hA.hc c (Vm g1);have hat:=Ct h0 hd;have hnl:decide ((v.length:Int)≤i)=false:=by simp;omega
    have hb:Ds F v n g i last x=Bg (!(decide (c.fKind=4)&&pl c)||decide (0<x)&&(BJ c.fStr last||decide (c.fStr=last))) (some (.out (.ret (-1)))) (Bo (g v (i+1)) λha=>Bg (decide (ha<0)) (some (.out (.ret (-1)))) (Bd (BE .i64 (x+1))<|some (.next (ha,c.fStr,x+1)))):=by
     unfold Ds;rw[Az hxl',B0 (by simp only[imp];rw[MH h0 g3];simp),hat,Pm (by omega) (by omega),B0 (by simp[imp])];simp only[hnl,ov,V1,V6];rw[AK h0 g3,AB (by omega) (by omega)]
    have hpk:G2 true (bif decide (0<x) then some last else none) (c::r)=bif (!(decide (c.fKind=4)&&pl c)||decide (0<x)&&(BJ c.fStr last||decide (c.fStr=last))) then none else some (some c.fStr,r):=by
     simp only[G2,Vq]
     cases h4:decide (c.fKind=4) with
     | false=>simp
     | true=>
      cases hp:pl c with
      | false=>simp
      | true=>
       have hok:=(M8 hp (by simpa using h4)).2
       cases h0x:decide (0<x) with
       | false=>simp[BZ,hok]
       | true=>cases hs:(BJ c.fStr last||decide (c.fStr=last))<;>simp[BZ,hok,hs]
    cases ht:(!(decide (c.fKind=4)&&pl c)||decide (0<x)&&(BJ c.fStr last||decide (c.fStr=last))) with
    | true=>
     rw[ht] at hpk;refine⟨.ret (-1),HY (hb.trans (Az ht)),?_⟩;simp only[IO,hd,Ex,hpk,Vq];rfl
    | false=>
     rw[ht] at hpk;rw[Ar ht,hg (i+1) (by omega) (by omega),AF rfl] at hb;have e:IO true (bif decide (0<x) then some last else none) v i (k+1)=bif decide (GN v (i+1)<0) then -1 else IO true (some c.fStr) v (GN v (i+1)) k:=by
      unfold IO;rw[hd,Ex,hpk];simp only[Vl];have hx:GN v (i+1)=match Gr r with | none=>-1 | some (f,_)=>i+1+f.flat.length:=by unfold GN;rw[g2]
      cases hp:Gr r with
      | none=>rw[hp] at hx;simp[hx]
      | some q=>
       obtain⟨f,ys⟩:=q;obtain⟨q1,q2,q3⟩:=H7 hp;rw[hp] at hx;simp only at hx;have hd2:v.drop (GN v (i+1)).toNat=ys:=by rw[hx];exact Cv (by omega) (g2.trans q1)
       rw[hd2,Vc (by omega)];simp only[Vl]
       cases hr:KB true (some c.fStr) k ys with
       | none=>rfl
       | some q=>
        obtain⟨r',zs⟩:=q;simp only[N4 q3,Bv,Vo,Vk,V8,hx];omega
     rw[e];rcases LN (v:=v) (i:=i+1) (by omega) (by omega) with hneg | ⟨hlt,hle⟩
     ·exact⟨.ret (-1),HY (hb.trans (by rw[hneg,Az (by decide)])),by rw[hneg];rfl⟩
     ·obtain⟨o,ho1,ho2⟩:=K6 hA hn L (GN v (i+1)) (x+1) c.fStr (by omega) hle (by omega) (by omega) (λj hj=>hg j (by omega)) (by omega);exact⟨o,LR (hb.trans (by rw[Ar (Vc (by omega)),AB (by omega) (by omega)])) ho1,by rw[ho2,show(n-(x+1)).toNat=k from by omega,Ve (show(0:Int)<x+1 from by omega),Vc (by omega)];rfl⟩
theorem ND {i:Int}{c:Ab}{r:List Ab}(h0:0≤i)(hd:v.drop i.toNat=c::r)(hp:pl c=true):GN v i=IO (decide (c.fKind=6)) none v (i+1) c.fN.toNat:=by
 have g2:=(BC h0 hd).2.1;have hN:=SM hp;unfold GN IO;rw[hd,Gq,g2,hp];simp only[Vw,Vl]
 cases hn:decide (0<c.fN) with
 | true=>
  simp only[Vq]
  cases hq:KB (decide (c.fKind=6)) none c.fN.toNat r with
  | none=>rfl
  | some q=>
   obtain⟨kids,zs⟩:=q;simp only[Fo.flat,Bv,VT,Vk,VB];omega
 | false=>
  simp only[Vg] at hn;rw[show c.fN.toNat=0 from by omega,Jr];simp[Fo.flat,Bv]
theorem Ny (hA:U8 (M+1) M v)(hN:∀c∈v,c.fN≤9223372036854775807):∀(d F:Nat) (i:Int),0≤i→i≤v.length→v.length-i.toNat=d→M+2*d+3<F→DG F v i=some (GN v i):=by
 have hM:=hA.hM;have hvM:=hA.hv;intro d
 induction d using Nat.strongRecOn with
 | ind d ih=>
  intro F i h0 h1 hd hF;obtain⟨F,rfl⟩:∃G,F=G+1:=⟨F-1,by omega⟩
  obtain⟨F,rfl⟩:∃G,F=G+1:=⟨F-1,by omega⟩
  rw[DG];unfold Ru
  cases hdr:v.drop i.toNat with
  | nil=>
   have hl:v.length≤i.toNat:=by simpa using hdr
   rw[Az (by simp;omega)];simp[GN,hdr,N5]
  | cons c r=>
   obtain⟨g1,g2,g3⟩:=BC h0 hdr;have hcM:=hA.hc c (Vm g1);have hcN:=hN c (Vm g1);rw[Ar (by simp;omega),AK h0 g3,Ct h0 hdr];simp only[Qj _ h0 (show i≤1152921504606846976 by omega),Option.isSome_some,ov,V1,imp,VP,B0 (x:=_) (rfl:true=true)];have hg:∀j,i+1≤j→j≤v.length→DG F v j=some (GN v j):=λj hj hj2=>ih (v.length-j.toNat) (by omega) F j (by omega) hj2 rfl (by omega);have hpl0:pl c=false→GN v i = -1:=λhp=>by simp[GN,hdr,Gq,hp]
   have hleaf:pl c=true→c.fN=0→GN v i=i+1:=λhp h0'=>by simp[GN,hdr,Gq,hp,h0',Fo.flat,Bv]
   have hscal:∀b:Bool,pl c=b→(b=true→c.fN=0)→GN v i=bif b then i+1 else -1:=λb hb hz=>by
    cases b
    ·exact hpl0 hb
    ·exact hleaf hb (hz rfl)
   by_cases k1:c.fKind=1
   ·rw[Az (by simp[k1])];have hp:pl c=(decide (c.fInt=0)&&(decide (c.fStr=[])&&decide (c.fN=0))):=by simp[pl,k1]
    rw[hscal _ hp (λh=>by simp at h;exact h.2.2)]
    cases decide (c.fInt=0)<;>cases decide (c.fStr=[])<;>cases decide (c.fN=0)<;>rfl
   rw[Ar (by simp[k1])]
   by_cases k2:c.fKind=2
   ·rw[Az (by simp[k2])];have hp:pl c=((decide (c.fInt=0)||decide (c.fInt=1))&&(decide (c.fStr=[])&&decide (c.fN=0))):=by simp[pl,k2]
    rw[hscal _ hp (λh=>by simp at h;exact h.2.2)]
    cases decide (c.fInt=0)<;>cases decide (c.fInt=1)<;>cases decide (c.fStr=[])<;>cases decide (c.fN=0)<;>rfl
   rw[Ar (by simp[k2])]
   by_cases k3:c.fKind=3
   ·rw[Az (by simp[k3])];have hp:pl c=(decide (c.fStr=[])&&decide (c.fN=0)):=by simp[pl,k3]
    rw[hscal _ hp (λh=>by simp at h;exact h.2)]
    cases decide (c.fStr=[])<;>cases decide (c.fN=0)<;>rfl
   rw[Ar (by simp[k3])]
   by_cases k4:c.fKind=4
   ·rw[Az (by simp[k4]),Pm (by omega) (by omega),AF rfl,AF rfl];rw[Ve k4,V3,hscal (pl c) rfl (λhp=>by have:=(M8 hp k4).1;rw[this])]
   rw[Ar (by simp[k4])]
   by_cases k5:c.fKind=5
   ·have hp:pl c=(decide (c.fInt=0)&&(decide (c.fStr=[])&&decide (0≤c.fN))):=by simp[pl,k5]
    rw[show(decide (c.fKind=5)&&(decide (c.fInt=0)&&(decide (c.fStr=[])&&decide (0≤c.fN))))=pl c from by rw[hp,Ve k5,V3]];have k5' : ¬ c.fKind=6:=by omega
    cases hb:pl c with
    | false=>rw[Ar rfl,Ar (by simp[k5]),hpl0 hb]
    | true=>
     have hn0:=SM hb;rw[Az rfl,AB (by omega) (by omega),LI];unfold K7;obtain⟨o,ho1,ho2⟩:=HU (F:=F) ⟨hM,hvM,by omega,hA.hc⟩ hcN F (i+1) 0 (by omega) (by omega) (Vx 0) hn0 hg (by omega);rw[AF ho1,ho2,AF rfl,ND h0 hdr hb,Vc k5',Int.sub_zero]
   rw[Ar (by simp[k5])]
   by_cases k6:c.fKind=6
   ·have hp:pl c=(decide (c.fInt=0)&&(decide (c.fStr=[])&&decide (0≤c.fN))):=by simp[pl,k6]
    rw[show(decide (c.fKind=6)&&(decide (c.fInt=0)&&(decide (c.fStr=[])&&decide (0≤c.fN))))=pl c from by rw[hp,Ve k6,V3]]
    cases hb:pl c with
    | false=>rw[Ar rfl,hpl0 hb]
    | true=>
     have hn0:=SM hb;rw[Az rfl,AB (by omega) (by omega),Rt];unfold Pj;obtain⟨o,ho1,ho2⟩:=K6 (F:=F) ⟨hM,hvM,by omega,hA.hc⟩ hcN F (i+1) 0 [] (by omega) (by omega) (Vx 0) hn0 hg (by omega);rw[AF ho1,ho2,AF rfl,ND h0 hdr hb,Ve k6,Int.sub_zero];rfl
   ·rw[Ar (by simp[k6]),hpl0 (by simp[pl,k1,k2,k3,k4,k5,k6])]
theorem O4 (hA:U8 (M+1) M v)(hN:∀c∈v,c.fN≤9223372036854775807){F:Nat}(hF:3*M+3<F):M0 F v=some (decide (GN v 0=v.length)):=by
 have hvM:=hA.hv;unfold M0;rw[Ny hA hN v.length F 0 (Vx 0) (by omega) (by simp) (by omega)];simp only[imp,Option.isSome_some,VP,B0,ov,V1]
 cases v with
 | nil=>simp[GN,N5]
 | cons c r=>
  rw[show decide (0<((c::r).length:Int))=true from by simp,V3]
  first | done | rfl
end
theorem Pr {m:Bool}{last key:Option Am}{r:List Ab}(h:BZ m last key=true):G2 m last (Bv key++r)=some (key,r):=by
 cases key with
 | none=>
  have:m=false:=by simpa[BZ] using h
  subst this;rfl
 | some s=>
  have h':=h;simp only[BZ,Vj] at h;obtain⟨⟨h1,h2⟩,h3⟩:=h;subst h1;have hp:pl ⟨4,0,s,0⟩=true:=by simp[pl,h2]
  show(bif pl ⟨4,0,s,0⟩&&decide ((4:Int)=4)&&BZ true last (some s) then _ else _)=_;rw[hp,h'];rfl
theorem Kk:∀(f:Fo) (m:Bool) (last:Option Am) (ys:List Ab),f.wf m last=true→KB m last f.cnt (f.flat++ys)=some (f,ys)
 | .nil,_,_,_,_=>rfl
 | .cell k c r,m,last,ys,hw=>by
  simp only[Fo.wf,Vj,V0] at hw;obtain⟨⟨⟨w1,w2⟩,w3⟩,w4⟩:=hw;simp only[Fo.cnt,Fo.flat,Vz,VO];rw[Ex,Pr w1];simp only[Gq,w2,w3,Vw,Vl,Kk r m k ys w4,Fo.put]
 | .node k c kids r,m,last,ys,hw=>by
  simp only[Fo.wf,Vj,Vf] at hw;obtain⟨⟨⟨⟨⟨w1,w2⟩,w3⟩,w5⟩,w6⟩,w4⟩:=hw;simp only[Fo.cnt,Fo.flat,Vz,VO];rw[Ex,Pr w1];have e:c.fN.toNat=kids.cnt:=by omega
  simp only[Gq,w2,Ve w3,Vw,Vl,Vq,e,Kk kids _ none (r.flat++ys) w6,Kk r m k ys w4,Fo.put]
theorem Ps {f:Fo}{ys:List Ab}(h1:f.one=true)(hw:f.wf false none=true):Gr (f.flat++ys)=some (f,ys):=by
 have:=Kk f false none ys hw;have hc:f.cnt=1:=by
  cases f with
  | nil=>cases h1
  | cell k c r=>cases k with
   | some _=>cases h1
   | none=>cases r with
    | nil=>rfl
    | _=>cases h1
  | node k c kids r=>cases k with
   | some _=>cases h1
   | none=>cases r with
    | nil=>rfl
    | _=>cases h1
 rw[hc] at this;exact this
structure Ix (M:Nat) (v:List Ab):Prop where
 hM:M≤1000000000
 hv:v.length≤M
 hc:∀c∈v,c.fStr.length≤M∧BE .i64 c.fInt=true∧c.fN≤9223372036854775807
theorem Ix.lk {M F:Nat}{v:List Ab}(h:Ix M v)(hF:M<F):PN F M v:=⟨by have:=h.hM;omega,by have:=h.hM;omega,h.hv,hF,h.hc⟩
theorem Ix.rf {M F:Nat}{v:List Ab}(h:Ix M v)(hF:M<F):U8 F M v:=⟨by have:=h.hM;omega,h.hv,hF,λc hc=>(h.hc c hc).1⟩
theorem Ix.drop {M:Nat}{v:List Ab}(h:Ix M v)(k:Nat):Ix M (v.drop k):=⟨h.hM,by have:=h.hv;rw[List.length_drop];omega,λc hc=>h.hc c (List.mem_of_mem_drop hc)⟩
theorem Ix.take {M:Nat}{v:List Ab}(h:Ix M v)(k:Nat):Ix M (v.take k):=⟨h.hM,by have:=h.hv;rw[List.length_take];omega,λc hc=>h.hc c (List.mem_of_mem_take hc)⟩
def whole (v:List Ab):Option Fo:=match Gr v with
 | some (f,[])=>some f
 | _=>none
theorem Kx {v:List Ab}{f:Fo}(h:whole v=some f):v=f.flat∧f.wf false none=true∧f.one=true:=by
 unfold whole at h
 cases hp:Gr v with
 | none=>rw[hp] at h;cases h
 | some q=>
  obtain⟨g,ys⟩:=q;rw[hp] at h
  cases ys with
  | cons _ _=>cases h
  | nil=>
   cases h
   obtain⟨h1,h2,h3⟩:=H7 hp;exact⟨by simpa using h1,h2,h3⟩
theorem QZ {f:Fo}(h1:f.one=true)(hw:f.wf false none=true):whole f.flat=some f:=by
 have:=Ps (ys:=[]) h1 hw;rw[VB] at this;simp[whole,this]
def OO (f:Fo):Int:=
 bif f.flat.any EM then 2 else bif f.flat.any Ek||(decide (200<f.flat.length)||(decide (8<f.dep)||decide (4000<(f.txt true).length))) then 3 else 0
def DT (v:List Ab):Int:=match whole v with
 | none=>1
 | some f=>OO f
theorem Pu {f:Fo}(h1:f.one=true):f.cnt=1:=by
 cases f with
 | nil=>cases h1
 | cell k c r=>cases k with
  | some _=>cases h1
  | none=>cases r with
   | nil=>rfl
   | _=>cases h1
 | node k c kids r=>cases k with
  | some _=>cases h1
  | none=>cases r with
   | nil=>rfl
   | _=>cases h1
theorem M6 (s:Am):Jq s≤2*s.length+2+s.length:=by
 have h1:s.count 34≤s.length:=List.count_le_length;have h2:s.count 92≤s.length:=List.count_le_length;unfold Jq;omega
theorem TM {c:Ab}{M:Nat}(hp:pl c=true)(hs:c.fStr.length≤M)(hi:(Lib.itoa c.fInt).length≤21):S0 c≤3*M+21:=by
 have:=M6 c.fStr;unfold S0
 cases h1:decide (c.fKind=1) with
 | true=>simp only[Vq];omega
 | false=>
  cases h2:decide (c.fKind=2) with
  | true=>
   simp[pl,h1,h2] at hp;simp only[Vl,Vq];omega
  | false=>
   cases h3:decide (c.fKind=3) with
   | true=>simp only[Vl,Vq];omega
   | false=>cases h4:decide (c.fKind=4)<;>simp only[Vl,Vq]<;>omega
theorem MN {M:Nat}:∀{f:Fo} {m:Bool} {l:Option Am},f.wf m l=true→(∀c∈f.flat,c.fStr.length≤M∧BE .i64 c.fInt=true∧c.fN≤9223372036854775807)→f.byt+f.cnt≤(3*M+24)*f.flat.length
 | .nil,_,_,_,_=>by simp[Fo.byt,Fo.flat,Fo.cnt]
 | .cell k c r,m,l,hw,hc=>by
  simp only[Fo.wf,Vj,V0] at hw;obtain⟨⟨⟨w1,w2⟩,w3⟩,w4⟩:=hw;simp only[Fo.flat] at hc;have ih:=MN w4 (λx hx=>hc x (by simp[hx]));obtain⟨c1,c2,c3⟩:=hc c (by simp);have i64:=Kq c2;have hl:=TM w2 c1 (Lib.itoa_length_le c.fInt i64.1 i64.2);have hk:MG k≤(3*M+24)*(Bv k).length:=by
   cases k with
   | none=>simp[MG,Bv]
   | some s=>
    have:=(hc ⟨4,0,s,0⟩ (by simp[Bv])).1;have h2:=M6 s;simp only at this;simp only[MG,Bv,VD];omega
  simp only[Fo.byt,Fo.flat,Fo.cnt,Vo,Vk];have e:((3*(M:Int)+24)*(((Bv k).length+(r.flat.length+1):Nat):Int))=(3*(M:Int)+24)*(Bv k).length+((3*(M:Int)+24)*r.flat.length+(3*(M:Int)+24)):=by
   push_cast;rw[Int.mul_add,Int.mul_add,Int.mul_one]
  rw[e]
  push_cast at *
  omega
 | .node k c kids r,m,l,hw,hc=>by
  simp only[Fo.wf,Vj,Vf] at hw;obtain⟨⟨⟨⟨⟨w1,w2⟩,w3⟩,w5⟩,w6⟩,w4⟩:=hw;simp only[Fo.flat] at hc;have ih:=MN w4 (λx hx=>hc x (by simp[hx]));have ih2:=MN w6 (λx hx=>hc x (by simp[hx]));have hcf:=BT kids;have hk:MG k≤(3*M+24)*(Bv k).length:=by
   cases k with
   | none=>simp[MG,Bv]
   | some s=>
    have:=(hc ⟨4,0,s,0⟩ (by simp[Bv])).1;have h2:=M6 s;simp only at this;simp only[MG,Bv,VD];omega
  simp only[Fo.byt,Fo.flat,Fo.cnt,Vo,Vk];have e:((3*(M:Int)+24)*(((Bv k).length+(kids.flat.length+r.flat.length+1):Nat):Int))=(3*(M:Int)+24)*(Bv k).length+((3*(M:Int)+24)*kids.flat.length+(3*(M:Int)+24)*r.flat.length+(3*(M:Int)+24)):=by
   push_cast;rw[Int.mul_add,Int.mul_add,Int.mul_add,Int.mul_one]
  rw[e]
  push_cast at *
  omega
theorem Me {M:Nat}(hM:M≤1000000){f:Fo}{m:Bool}{l:Option Am}(hw:f.wf m l=true)(hl:f.flat.length≤M)(hc:∀c∈f.flat,c.fStr.length≤M∧BE .i64 c.fInt=true∧c.fN≤9223372036854775807):f.byt≤4000000000000:=by
 have:=MN (M:=M) hw hc;have h2:(3*M+24)*f.flat.length≤(3*1000000+24)*1000000:=Nat.mul_le_mul (by omega) (by omega);have h3:(((3*M+24)*f.flat.length:Nat):Int)=(3*(M:Int)+24)*f.flat.length:=by push_cast;rfl
 omega
theorem LB {M F:Nat}{v:List Ab}(hA:Ix M v)(hM:M≤1000000)(hF:M<F):Jj F v=some (DT v):=by
 unfold Jj DT whole;have hvM:=hA.hv;rcases SY (hA.lk hF) with⟨f,ys,hp,hl⟩ | ⟨hp,sh',hl⟩
 ·rw[hl,AF rfl,hp];obtain⟨h1,h2,h3⟩:=H7 hp;have hlen:v.length=f.flat.length+ys.length:=by rw[h1];simp
  cases ys with
  | cons c r=>
   rw[Az];simp only[Vk] at hlen;simp;omega
  | nil=>
   simp only[V8,Nat.add_zero] at hlen;rw[Ar (by simp[hlen])];have hc:∀c∈f.flat,c.fStr.length≤M∧BE .i64 c.fInt=true∧c.fN≤9223372036854775807:=λc hc=>hA.hc c (by rw[h1];simp[hc]);have hb:=Me hM h2 (by omega) hc;have hb0:=GI h2;have e1:(f.sh 0 Lk).fOutside=f.flat.any EM:=by rw[Mt];rfl
   have e2:(f.sh 0 Lk).fLong=f.flat.any Ek:=by rw[Kg];rfl
   have e3:(f.sh 0 Lk).fDepth=f.dep:=by rw[I7 f 0 Lk (by simp[Lk])];simp[Lk]
   have e4:(f.sh 0 Lk).fBytes=(f.txt true).length:=by
    rw[I8 f false none 0 Lk h2 (by simp[Lk]) (by simp[Lk];omega),I6 f false none true h2,Pu h3];simp[Lk]
   simp only;rw[e1,e2,e3,e4,hlen];unfold OO
   cases f.flat.any EM with
   | true=>rw[Az rfl];rfl
   | false=>
    rw[Ar rfl];have a1:decide ((200:Int)<(f.flat.length:Int))=decide (200<f.flat.length):=by rw[Vt];simp;omega
    have a2:decide ((8:Int)<(f.dep:Int))=decide (8<f.dep):=by rw[Vt];simp;omega
    have a3:decide ((4000:Int)<((f.txt true).length:Int))=decide (4000<(f.txt true).length):=by rw[Vt];simp;omega
    rw[a1,a2,a3]
    cases(f.flat.any Ek||(decide (200<f.flat.length)||(decide (8<f.dep)||decide (4000<(f.txt true).length))))<;>rfl
 ·rw[hl,AF rfl,hp];rfl
theorem MC {v:List Ab}{p:Int}{f:Fo}{ys:List Ab}(h1:f.one=true)(hw:f.wf false none=true)(hd:v.drop p.toNat=f.flat++ys):GN v p=p+f.flat.length:=by
 unfold GN;rw[hd,Ps h1 hw]
theorem Pb {c:Ab}(hp:pl c=true)(hn:decide (0<c.fN)=false):(Fo.cell none c .nil).wf false none=true:=by simp[Fo.wf,BZ,hp,hn]
theorem Pa {c:Ab}{kids:Fo}(hp:pl c=true)(hn:0<c.fN)(hk:c.fN=kids.cnt)(hw:kids.wf (decide (c.fKind=6)) none=true):(Fo.node none c kids .nil).wf false none=true:=by simp[Fo.wf,BZ,hp,hn,hk,hw];omega
section
variable {M : Nat} {v : List Ab}
theorem Ix.next (hA:Ix M v){F:Nat}(hF:3*M+3<F){p:Int}(h0:0≤p)(h1:p≤v.length):DG F v p=some (GN v p):=by
 have hM:=hA.hM;have hvM:=hA.hv;exact Ny (hA.rf (Vy M)) (λc hc=>(hA.hc c hc).2.2) (v.length-p.toNat) F p h0 h1 rfl (by omega)
theorem IH {F:Nat}{p:Int}{c:Ab}{r:List Ab}(h0:0≤p)(hpM:p≤1152921504606846976)(hd:v.drop p.toNat=c::r)(hp:pl c=true)(hn:decide (0<c.fN)=false):D7 (F+2) v p=some 1:=by
 obtain⟨g1,g2,g3⟩:=BC h0 hd;rw[D7];unfold IG;rw[AK h0 g3,Ct h0 hd]
 cases hk:(!decide (c.fKind=5)&&!decide (c.fKind=6)) with
 | true=>rw[Az rfl]
 | false=>
  rw[Ar rfl,AB (by omega) (by omega),AF (HY (o:=.go 0) (by
   show C2 (F+1) v p _ 0 (p+1) 0=_;unfold C2;rw[Ct h0 hd,Ar hn]))]
  simp only[BD,E6];rw[AB (by omega) (by omega)];rfl
theorem LH {F:Nat}{i:Int}{rec:List Ab→Int→Option Int}{most at_ x L:Int}{m:Bool}{p q:Int}{pc:Ab}(hpc:Ad v i=pc)(hm:decide (pc.fKind=6)=m)(hx:x<pc.fN)(hx0:0≤x)(hpcN:pc.fN≤9223372036854775807)
  (ha0:0≤at_) (haM:at_≤1152921504606846976) (hp:p=bif m then at_+1 else at_) (hr:rec v p=some L) (hq:DG F v p=some q):C2 F v i rec most at_ x=some (.next (max most L,q,x+1)):=by
 unfold C2;rw[hpc,Az (by simpa using hx),hm]
 cases m with
 | true=>
  simp only[Vq] at hp;rw[Az rfl,AB (by omega) (by omega),← hp,hr,AF rfl]
  cases hl:decide (most<L) with
  | true=>rw[Az rfl,hq,AF rfl,AB (by omega) (by omega),Int.max_eq_right (by simp at hl;omega)]
  | false=>rw[Ar rfl,hq,AF rfl,AB (by omega) (by omega),Int.max_eq_left (by simp at hl;omega)]
 | false=>
  simp only[Vl] at hp;rw[Ar rfl,← hp,hr,AF rfl]
  cases hl:decide (most<L) with
  | true=>rw[Az rfl,hq,AF rfl,AB (by omega) (by omega),Int.max_eq_right (by simp at hl;omega)]
  | false=>rw[Ar rfl,hq,AF rfl,AB (by omega) (by omega),Int.max_eq_left (by simp at hl;omega)]
theorem Kn {m:Bool}{last key:Option Am}(h:BZ m last key=true):((Bv key).length:Int)=bif m then 1 else 0:=by
  cases key with
  | none=>
            have:m=false:=by simpa[BZ] using h
            subst this;rfl
  | some s=>simp only[BZ,Vj] at h;rw[h.1.1];rfl
theorem Nz (hA:Ix M v):∀(g:Fo) (F L:Nat) (i at_ x most:Int) (m:Bool) (last:Option Am) (ys:List Ab) (pc:Ab),Ad v i=pc→decide (pc.fKind=6)=m→pc.fN≤9223372036854775807→g.wf m last=true→v.drop at_.toNat=g.flat++ys→0≤at_→at_≤v.length→pc.fN=x+g.cnt→0≤x→0≤most→most≤1152921504606846976→g.cnt<L→3*M+5+g.flat.length<F→
  ∃o,BI (λσ=>C2 F v i (D7 F) σ.1 σ.2.1 σ.2.2) L (most,at_,x)=some o∧BD (λν=>E6 ν) o=some (max most (g.dep:Int)+1):=by
 have hM:=hA.hM;have hvM:=hA.hv;have fin:∀(F L:Nat) (i at_ x most:Int) (pc:Ab),Ad v i=pc→pc.fN≤x→0≤most→most≤1152921504606846976→0<L→∃o,BI (λσ=>C2 F v i (D7 F) σ.1 σ.2.1 σ.2.2) L (most,at_,x)=some o∧BD (λν=>E6 ν) o=some (most+1):=λF L i at_ x most pc hpc hx h0 hb hL=>by
  obtain⟨L,rfl⟩:∃K,L=K+1:=⟨L-1,by omega⟩
  refine⟨.go most,HY (by show C2 F v i _ most at_ x=_;unfold C2;rw[hpc,Ar (by simp;omega)]),?_⟩;simp only[BD,E6];rw[AB (by omega) (by omega)]
 have depM:∀g:Fo,g.dep≤g.flat.length:=by
  intro g
  induction g with
  | nil=>simp[Fo.dep]
  | cell k c r ih=>simp[Fo.dep,Fo.flat];omega
  | node k c kids r ih1 ih2=>simp[Fo.dep,Fo.flat];omega
 intro g
 induction g with
 | nil=>
  intro F L i at_ x most m last ys pc hpc hm hpN hw hd h0 h1 hN hx hmo hmM hL hF;obtain⟨o,h1,h2⟩:=fin F L i at_ x most pc hpc (by simp[Fo.cnt] at hN;omega) hmo hmM (by omega);exact⟨o,h1,by rw[h2];simp only[Fo.dep];congr 2<;>omega⟩
 | cell k c r ih=>
  intro F L i at_ x most m last ys pc hpc hm hpN hw hd h0 h1 hN hx hmo hmM hL hF;simp only[Fo.wf,Vj,V0] at hw;obtain⟨⟨⟨w1,w2⟩,w3⟩,w4⟩:=hw;simp only[Fo.flat,Vz,VO] at hd;simp only[Fo.cnt] at hN hL;simp only[Fo.flat,Vo,Vk] at hF;obtain⟨L,rfl⟩:∃K,L=K+1:=⟨L-1,by omega⟩
  obtain⟨F,rfl⟩:∃K,F=K+2:=⟨F-2,by omega⟩
  have hd1:=Cv h0 hd;have hkl:=Kn w1;obtain⟨g1,g2,g3⟩:=BC (by omega) hd1;have hlen:at_+(Bv k).length=bif m then at_+1 else at_:=by rw[hkl];cases m<;>simp
  have hq:=hA.next (F:=F+2) (by omega) (p:=at_+(Bv k).length) (by omega) (by omega);rw[MC (f:=.cell none c .nil) (ys:=r.flat++ys) rfl (Pb w2 w3) hd1] at hq;have hb:=LH (most:=most) (x:=x) hpc hm (by omega) hx hpN h0 (by omega) hlen (IH (F:=F) (by omega) (by omega) hd1 w2 w3) hq;have hdd:=depM r;obtain⟨o,ho1,ho2⟩:=ih (F+2) L i (at_+(Bv k).length+((Fo.cell none c .nil).flat.length:Int)) (x+1) (max most 1) m k ys pc hpc hm hpN w4 (by rw[show(Fo.cell none c .nil).flat.length=1 from rfl];exact g2) (by omega) (by rw[show(Fo.cell none c .nil).flat.length=1 from rfl];omega) (by omega) (by omega) (by omega) (by omega) (by omega) (by omega);refine⟨o,LR hb ho1,?_⟩;rw[ho2,Fo.dep];congr 2<;>omega
 | node k c kids r ihk ih=>
  intro F L i at_ x most m last ys pc hpc hm hpN hw hd h0 h1 hN hx hmo hmM hL hF;simp only[Fo.wf,Vj,Vf] at hw;obtain⟨⟨⟨⟨⟨w1,w2⟩,w3⟩,w5⟩,w6⟩,w4⟩:=hw;simp only[Fo.flat,Vz,VO] at hd;simp only[Fo.cnt] at hN hL;simp only[Fo.flat,Vo,Vk] at hF;obtain⟨L,rfl⟩:∃K,L=K+1:=⟨L-1,by omega⟩
  obtain⟨F,rfl⟩:∃K,F=K+1:=⟨F-1,by omega⟩
  have hd1:=Cv h0 hd;have hkl:=Kn w1;obtain⟨g1,g2,g3⟩:=BC (by omega) hd1;have hcN:=(hA.hc c (Vm g1)).2.2;have hlen:at_+(Bv k).length=bif m then at_+1 else at_:=by rw[hkl];cases m<;>simp
  have hq:=hA.next (F:=F+1) (by omega) (p:=at_+(Bv k).length) (by omega) (by omega);have hfl:(Fo.node none c kids .nil).flat=c::kids.flat:=by simp[Fo.flat,Bv]
  rw[MC (f:=.node none c kids .nil) (ys:=r.flat++ys) rfl (Pa w2 w3 w5 w6) (by rw[hd1,hfl];simp)] at hq;have hdk:=depM kids;have hdd:=depM r;have hcf:=BT kids;have hvl:(v.drop (at_+(Bv k).length+1).toNat).length=kids.flat.length+(r.flat.length+ys.length):=by rw[g2];simp
  rw[List.length_drop] at hvl;have hrec:D7 (F+1) v (at_+(Bv k).length)=some ((kids.dep:Int)+1):=by
   rw[D7];unfold IG;rw[AK (by omega) g3,Ct (by omega) hd1];have ha:=(IJ w2 w3).1;rw[Ar (by simp;omega),AB (by omega) (by omega)];obtain⟨o,ho1,ho2⟩:=ihk F F (at_+(Bv k).length) (at_+(Bv k).length+1) 0 0 _ none (r.flat++ys) c (Ct (by omega) hd1) rfl hcN w6 (by rw[g2]) (by omega) (by omega) (by omega) (Vx 0) (Vx 0) (by omega) (by omega) (by omega);rw[AF ho1,ho2];congr 2<;>omega
  have hb:=LH (most:=most) (x:=x) hpc hm (by omega) hx hpN h0 (by omega) hlen hrec hq;obtain⟨o,ho1,ho2⟩:=ih (F+1) L i (at_+(Bv k).length+((Fo.node none c kids .nil).flat.length:Int)) (x+1) (max most ((kids.dep:Int)+1)) m k ys pc hpc hm hpN w4 (by
   have:=Cv (by omega) g2;rw[hfl,Vk,show at_+(Bv k).length+((kids.flat.length+1:Nat):Int)=at_+(Bv k).length+1+kids.flat.length from by omega];exact this) (by omega) (by rw[hfl,Vk];omega) (by omega) (by omega) (by omega) (by omega) (by omega) (by omega)
  refine⟨o,LR hb ho1,?_⟩;rw[ho2,Fo.dep];congr 2<;>omega
theorem O3 (hA:Ix M v){F:Nat}{p:Int}{f:Fo}{ys:List Ab}(h0:0≤p)(h1:f.one=true)(hw:f.wf false none=true)(hd:v.drop p.toNat=f.flat++ys)(hF:3*M+6+f.flat.length<F):D7 F v p=some (f.dep:Int):=by
 have hM:=hA.hM;have hvM:=hA.hv
 cases f with
 | nil=>cases h1
 | cell k c r=>
  cases k with
  | some s=>cases h1
  | none=>
   cases r with
   | nil=>
    simp only[Fo.wf,Vj,V0] at hw;obtain⟨F,rfl⟩:∃K,F=K+2:=⟨F-2,by omega⟩
    have hd':v.drop p.toNat=c::ys:=by simpa[Fo.flat,Bv] using hd
    rw[IH h0 (by have:=(BC h0 hd').2.2;omega) hd' hw.1.1.2 hw.1.2];rfl
   | cell _ _ _=>cases h1
   | node _ _ _ _=>cases h1
 | node k c kids r=>
  cases k with
  | some s=>cases h1
  | none=>
   cases r with
   | nil=>
    simp only[Fo.wf,Vj,Vf] at hw;obtain⟨⟨⟨⟨⟨w1,w2⟩,w3⟩,w5⟩,w6⟩,w4⟩:=hw;have hd':v.drop p.toNat=c::(kids.flat++ys):=by simpa[Fo.flat,Bv] using hd
    obtain⟨g1,g2,g3⟩:=BC h0 hd';have hcN:=(hA.hc c (Vm g1)).2.2;have hcf:=BT kids;simp only[Fo.flat,Bv,VT,VB,Vk] at hF;obtain⟨F,rfl⟩:∃K,F=K+1:=⟨F-1,by omega⟩
    rw[D7];unfold IG;have ha:=(IJ w2 w3).1;rw[AK h0 g3,Ct h0 hd',Ar (by simp;omega),AB (by omega) (by omega)];obtain⟨o,ho1,ho2⟩:=Nz hA kids F F p (p+1) 0 0 _ none ys c (Ct h0 hd') rfl hcN w6 g2 (by omega) (by omega) (by omega) (Vx 0) (Vx 0) (by omega) (by omega) (by omega);rw[AF ho1,ho2];simp only[Fo.dep];congr 1<;>omega
   | cell _ _ _=>cases h1
   | node _ _ _ _=>cases h1
end
def Q9 (c:UInt8):Am:=bif (decide (c=34)||decide (c=92)) then[92,c] else[c]
theorem Q8 {s:Am}{k:Nat}{c:UInt8}(h:s[k]? =some c):Lc (s.take (k+1))=Lc (s.take k)++Q9 c:=by
 rw[List.take_add_one,h];simp[Lc,List.flatMap_append,Q9]
theorem Oc (s:Am):(Lc s).length≤3*s.length:=by
 rw[Lb];have h1:s.count 34≤s.length:=List.count_le_length;have h2:s.count 92≤s.length:=List.count_le_length;omega
theorem Oy {s:Am}{x:Int}{c:UInt8}(h0:0≤x)(h:s[x.toNat]? =some c):List.take (Int.toNat (x+1)-Int.toNat x) (List.drop (Int.toNat x) s)=[c]:=by
 have hl:=(List.getElem?_eq_some_iff.1 h).1;have hc:=(List.getElem?_eq_some_iff.1 h).2;rw[show Int.toNat (x+1)-Int.toNat x=1 from by omega,List.drop_eq_getElem_cons hl,hc];rfl
theorem U5 {s:Am}{x:Int}{c:UInt8}(h:s[x.toNat]? =some c):decide (Ln s x=34)=decide (c=34):=by
 rw[MQ h,Vt,decide_eq_true_iff,decide_eq_true_iff,← UInt8.toNat_inj];show _↔c.toNat=34;omega
theorem U4 {s:Am}{x:Int}{c:UInt8}(h:s[x.toNat]? =some c):decide (Ln s x=92)=decide (c=92):=by
 rw[MQ h,Vt,decide_eq_true_iff,decide_eq_true_iff,← UInt8.toNat_inj];show _↔c.toNat=92;omega
theorem Mx {s out:Am}{x:Int}{c:UInt8}(h0:0≤x)(hx:x<(s.length:Int))(hs:s.length≤1152921504606846976)(ho:out.length≤3*s.length+1)(hc:s[x.toNat]? =some c):CM s out x=some (.next (out++Q9 c,x+1)):=by
 unfold CM Q9;rw[Az (Ve hx),AK h0 hx,U5 hc,U4 hc,Oy h0 hc];have l1:(([92]:Am).length:Int)=1:=rfl;have l2:(([c]:Am).length:Int)=1:=rfl
 cases hq:(decide (c=34)||decide (c=92)) with
 | true=>
  have l3:((out++([92]:Am)).length:Int)=out.length+1:=by rw[Vo,VD,Int.natCast_add];rfl
  rw[Az rfl,l1,l2,l3,AB (by omega) (by omega),AB (by omega) (by omega),GH (by omega) (by omega),GH (by omega) (by omega),AB (by omega) (by omega),Vz];rfl
 | false=>
  rw[Ar rfl,l2,AB (by omega) (by omega),GH (by omega) (by omega),GH (by omega) (by omega),AB (by omega) (by omega)];rfl
theorem Cs {R V:Type}(K:V→Option R)(v:V):BD K (.go v)=K v:=rfl
theorem KC {R V:Type}(K:V→Option R)(r:R):BD K (.ret r)=some r:=rfl
theorem Nx {s out:Am}{x:Int}(hx : ¬ x<(s.length:Int)):CM s out x=some (.out (.go out)):=by
 unfold CM;rw[Ar (Vc hx)]
theorem Qb {out:Am}(h:out.length≤4611686018427387904):DN out=some (out++[34]):=by
 unfold DN;have l1:(([34]:Am).length:Int)=1:=rfl;rw[l1,AB (by omega) (by omega)]
theorem Ig {F:Nat}{s:Am}(hF:s.length<F)(hs:s.length≤1152921504606846976):IF F s=some (Il s):=by
 obtain⟨o,h1,h2⟩:=DW (body:=λσ=>CM s σ.1 σ.2) (λσ=>0≤σ.2∧σ.2≤(s.length:Int)∧σ.1=34::Lc (s.take σ.2.toNat)) (λσ=>s.length-σ.2.toNat)
  (λo=>BD (λν=>DN ν) o=some (Il s)) (λσ ⟨h0,hl,ha⟩=>by
   obtain⟨out,x⟩:=σ;simp only at h0 hl ha;show(∃s',CM s out x=_∧_)∨∃o,CM s out x=_∧_;have hb:=Oc (s.take x.toNat);have hb2:(s.take x.toNat).length≤s.length:=by rw[List.length_take];omega
   have hol:out.length≤3*s.length+1:=by rw[ha,Vk];omega
   by_cases hx:x<(s.length:Int)
   ·obtain⟨c,hc⟩:∃c,s[x.toNat]? =some c:=⟨s[x.toNat]'(by omega),Vi (by omega)⟩
    have a1:0≤x+1:=by omega
    have a2:x+1≤s.length:=by omega
    have a3:s.length-(x+1).toNat<s.length-x.toNat:=by omega
    have a4:out++Q9 c=34::Lc (s.take (x+1).toNat):=by rw[show(x+1).toNat=x.toNat+1 from by omega,Q8 hc,ha];rfl
    exact .inl ⟨(out++Q9 c,x+1),Mx h0 hx hs hol hc,⟨a1,a2,a4⟩,a3⟩
   ·have e:x.toNat=s.length:=by omega
    have hk:DN out=some (out++[34]):=Qb (by omega);have hf:out++[34]=Il s:=by rw[ha,e,VY];rfl
    exact .inr ⟨.go out,Nx hx,(Cs (λν=>DN ν) out).trans (hk.trans (congrArg some hf))⟩) F ([34],0) ⟨Vx 0,by show(0:Int)≤s.length;omega,by show([34]:Am)=34::Lc (s.take 0);simp[Lc]⟩ (by show s.length-0<F;omega)
 unfold IF;rw[AF h1,h2]
section
variable {M : Nat} {v : List Ab}
theorem UL (a b c d e:Am):(((a++b)++c)++d)++e=a++(b++(c++d)++e):=by simp
theorem UM (a b c d:Am):((a++b)++c)++d=a++([]++(b++c)++d):=by simp
theorem UN (a b c:Am):(a++b)++c=a++(b++[]++c):=by simp
theorem UO (a b:Am):a++b=a++([]++[]++b):=by simp
theorem SZ (a:Am)(c:UInt8):((a++[c]).length:Int)=a.length+1:=by rw[Vo,VD,Int.natCast_add];rfl
theorem NQ (a b:Am):((a++b).length:Int)=a.length+b.length:=by rw[Vo,Int.natCast_add]
theorem LG {F:Nat}{i:Int}{rec:List Ab→Int→Option Am}{out tx:Am}{at_ x:Int}{m:Bool}{p q:Int}{pc:Ab}{key:Option Am}{last:Option Am}(hpc:Ad v i=pc)(hm:decide (pc.fKind=6)=m)(hx:x<pc.fN)(hx0:0≤x)(hpcN:pc.fN≤9223372036854775807)
  (ha0:0≤at_) (haM:at_<v.length) (hvM:(v.length:Int)≤1152921504606846976) (hk:BZ m last key=true) (hkey:∀s,key=some s→(Ad v at_).fStr=s∧s.length<F∧s.length≤1152921504606846976) (hp:p=bif m then at_+1 else at_) (hr:rec v p=some tx) (hq:DG F v p=some q)
  (hlen:((out++(EZ (decide (x=0))++L0 key++tx)).length:Int)≤4611686018427387904):Ea F v i rec out at_ x=some (.next (out++(EZ (decide (x=0))++L0 key++tx),q,x+1)):=by
 have hb:(([44]:Am).length:Int)=1:=rfl;have hd:(([58]:Am).length:Int)=1:=rfl;have hx1:Bd (BE .i64 (x+1)) (some (Stp.next (out++(EZ (decide (x=0))++L0 key++tx),q,x+1)):Option (Stp (Am×Int×Int) (Out Am Am)))=some (Stp.next (out++(EZ (decide (x=0))++L0 key++tx),q,x+1)):=AB (by omega) (by omega);unfold Ea;rw[hpc,Az (Ve hx),hm]
 cases ha:decide (x=0) with
 | true=>
  rw[ha] at hx1 hlen;simp only[Vf] at ha;rw[Ar (Vc (by omega))]
  cases m with
  | true=>
   cases key with
   | none=>simp[BZ] at hk
   | some s=>
    obtain⟨e1,e2,e3⟩:=hkey s rfl;simp only[Vq] at hp;have e:((out++Il s)++[58])++tx=out++(EZ true++L0 (some s)++tx):=UM _ _ _ _;rw[← e] at hx1 hlen ⊢;have h1:=NQ ((out++Il s)++[58]) tx;have h2:=SZ (out++Il s) 58;have h3:=NQ out (Il s);rw[Az rfl,AK ha0 haM,e1,Ig e2 e3,AF rfl,AB (by omega) (by omega),hd,AB (by omega) (by omega),AB (by omega) (by omega),← hp,hr,AF rfl,AB (by omega) (by omega),hq,AF rfl,hx1]
  | false=>
   cases key with
   | some s=>simp[BZ] at hk
   | none=>
    simp only[Vl] at hp;have e:out++tx=out++(EZ true++L0 none++tx):=UO _ _;rw[← e] at hx1 hlen ⊢;have h1:=NQ out tx;rw[Ar rfl,← hp,hr,AF rfl,AB (by omega) (by omega),hq,AF rfl,hx1]
 | false=>
  rw[ha] at hx1 hlen;simp only[Vg] at ha;rw[Az (Ve (by omega))]
  cases m with
  | true=>
   cases key with
   | none=>simp[BZ] at hk
   | some s=>
    obtain⟨e1,e2,e3⟩:=hkey s rfl;simp only[Vq] at hp;have e:(((out++[44])++Il s)++[58])++tx=out++(EZ false++L0 (some s)++tx):=UL _ _ _ _ _;rw[← e] at hx1 hlen ⊢;have h1:=NQ (((out++[44])++Il s)++[58]) tx;have h2:=SZ ((out++[44])++Il s) 58;have h3:=NQ (out++[44]) (Il s);have h4:=SZ out 44;rw[hb,AB (by omega) (by omega),Az rfl,AK ha0 haM,e1,Ig e2 e3,AF rfl,AB (by omega) (by omega),hd,AB (by omega) (by omega),AB (by omega) (by omega),← hp,hr,AF rfl,AB (by omega) (by omega),hq,AF rfl,hx1]
  | false=>
   cases key with
   | some s=>simp[BZ] at hk
   | none=>
    simp only[Vl] at hp;have e:(out++[44])++tx=out++(EZ false++L0 none++tx):=UN _ _ _;rw[← e] at hx1 hlen ⊢;have h1:=NQ (out++[44]) tx;have h4:=SZ out 44;rw[hb,AB (by omega) (by omega),Ar rfl,← hp,hr,AF rfl,AB (by omega) (by omega),hq,AF rfl,hx1]
theorem Pi {i:Int}{pc:Ab}{out:Am}(hpc:Ad v i=pc)(h:out.length≤4611686018427387904):IC v i out=some (QP pc out):=by
 unfold IC QP;have l1:(([123]:Am).length:Int)=1:=rfl;have l2:(([91]:Am).length:Int)=1:=rfl;have l3:(([125]:Am).length:Int)=1:=rfl;have l4:(([93]:Am).length:Int)=1:=rfl;have h1:=NQ [123] out;have h2:=NQ [91] out;rw[hpc]
 cases hk:decide (pc.fKind=6) with
 | true=>rw[Az rfl,AB (by omega) (by omega),AB (by omega) (by omega)];rfl
 | false=>rw[Ar rfl,AB (by omega) (by omega),AB (by omega) (by omega)];rfl
theorem K3 {F:Nat}{p:Int}{c:Ab}{r:List Ab}(h0:0≤p)(hpM:p≤1152921504606846976)(hd:v.drop p.toNat=c::r)(hp:pl c=true)(hn:decide (0<c.fN)=false)(hs:c.fStr.length<F+1)(hs2:c.fStr.length≤1152921504606846976)(hi:BE .i64 c.fInt=true):He (F+2) v p=some (IW c):=by
 obtain⟨g1,g2,g3⟩:=BC h0 hd;rw[He];unfold Mw IW;rw[AK h0 g3,Ct h0 hd]
 cases k1:decide (c.fKind=1) with
 | true=>rw[Az rfl];rfl
 | false=>
 rw[Ar rfl]
 cases k2:decide (c.fKind=2) with
 | true=>rw[Az rfl];cases decide (c.fInt=1)<;>rfl
 | false=>
 rw[Ar rfl]
 cases k3:decide (c.fKind=3) with
 | true=>rw[Az rfl,B0 hi];rfl
 | false=>
 rw[Ar rfl]
 cases k4:decide (c.fKind=4) with
 | true=>rw[Az rfl,Ig hs hs2,AF rfl];rfl
 | false=>
 have hgo:Ea (F+1) v p (He (F+1)) [] (p+1) 0=some (.out (.go [])):=by
  unfold Ea;rw[Ct h0 hd,Ar hn]
 rw[Ar rfl,AB (by omega) (by omega),AF (HY (o:=.go []) hgo),Cs,Pi (Ct h0 hd) (by simp)];simp only[Vl,QP]
 cases decide (c.fKind=6)<;>rfl
end
section
variable {M : Nat} {v : List Ab}
theorem G5 {α:Type}[Inhabited α](a:α):ov (some a)=a:=rfl
theorem RM {at_:Int}{k:Option Am}{r:List Ab}(h0:0≤at_)(hA:Ix M v){F:Nat}(hF:M<F)(hd:v.drop at_.toNat=Bv k++r):∀s,k=some s→(Ad v at_).fStr=s∧s.length<F∧s.length≤1152921504606846976:=λs e=>by
 subst e;have hd':v.drop at_.toNat=⟨4,0,s,0⟩::r:=by simpa[Bv] using hd
 have h1:=Ct h0 hd';have h2:=(hA.hc _ (Vm (BC h0 hd').1)).1;have hM:=hA.hM;simp only at h2;exact⟨by rw[h1],by omega,by omega⟩
theorem Nw (hA:Ix M v):∀(g:Fo) (F L:Nat) (i at_ x:Int) (out:Am) (m:Bool) (last:Option Am) (ys:List Ab) (pc:Ab),Ad v i=pc→decide (pc.fKind=6)=m→pc.fN≤9223372036854775807→g.wf m last=true→v.drop at_.toNat=g.flat++ys→0≤at_→at_≤v.length→pc.fN=x+g.cnt→0≤x→(out++g.txt (decide (x=0))).length≤4611686018427387904→g.cnt<L→3*M+5+g.flat.length<F→
  ∃o,BI (λσ=>Ea F v i (He F) σ.1 σ.2.1 σ.2.2) L (out,at_,x)=some o∧BD (λν=>IC v i ν) o=some (QP pc (out++g.txt (decide (x=0)))):=by
 have hM:=hA.hM;have hvM:=hA.hv;intro g
 induction g with
 | nil=>
  intro F L i at_ x out m last ys pc hpc hm hpN hw hd h0 h1 hN hx hlen hL hF;obtain⟨L,rfl⟩:∃K,L=K+1:=⟨L-1,by omega⟩
  have hgo:Ea F v i (He F) out at_ x=some (.out (.go out)):=by
   simp only[Fo.cnt] at hN;unfold Ea;rw[hpc,Ar (Vc (by omega))]
  refine⟨.go out,HY hgo,?_⟩;simp only[Fo.txt,VB] at hlen ⊢;rw[Cs,Pi hpc hlen]
 | cell k c r ih=>
  intro F L i at_ x out m last ys pc hpc hm hpN hw hd h0 h1 hN hx hlen hL hF;simp only[Fo.wf,Vj,V0] at hw;obtain⟨⟨⟨w1,w2⟩,w3⟩,w4⟩:=hw;simp only[Fo.flat,Vz,VO] at hd;simp only[Fo.cnt] at hN hL;simp only[Fo.flat,Vo,Vk] at hF;obtain⟨L,rfl⟩:∃K,L=K+1:=⟨L-1,by omega⟩
  obtain⟨F,rfl⟩:∃K,F=K+2:=⟨F-2,by omega⟩
  have hd1:=Cv h0 hd;have hkl:=Kn w1;obtain⟨g1,g2,g3⟩:=BC (by omega) hd1;have hcM:=hA.hc c (Vm g1);have hp:at_+(Bv k).length=bif m then at_+1 else at_:=by rw[hkl];cases m<;>simp
  have hq:=hA.next (F:=F+2) (by omega) (p:=at_+(Bv k).length) (by omega) (by omega);rw[MC (f:=.cell none c .nil) (ys:=r.flat++ys) rfl (Pb w2 w3) hd1] at hq;have e:out++(Fo.cell k c r).txt (decide (x=0))=(out++(EZ (decide (x=0))++L0 k++IW c))++r.txt (decide (x+1=0)):=by
   rw[Vc (show ¬ x+1=0 by omega)];simp[Fo.txt]
  rw[e] at hlen ⊢;have hl2:((out++(EZ (decide (x=0))++L0 k++IW c)).length:Int)≤4611686018427387904:=by rw[Vo] at hlen;omega
  have hat:at_<v.length:=by omega
  have hb:=LG hpc hm (by omega) hx hpN h0 hat (by omega) w1 (RM h0 hA (F:=F+2) (by omega) hd) hp (K3 (F:=F) (by omega) (by omega) hd1 w2 w3 (by omega) (by omega) hcM.2.1) hq hl2;obtain⟨o,ho1,ho2⟩:=ih (F+2) L i (at_+(Bv k).length+((Fo.cell none c .nil).flat.length:Int)) (x+1) (out++(EZ (decide (x=0))++L0 k++IW c)) m k ys pc hpc hm hpN w4 (by rw[show(Fo.cell none c .nil).flat.length=1 from rfl];exact g2) (by omega) (by rw[show(Fo.cell none c .nil).flat.length=1 from rfl];omega) (by omega) (by omega) hlen (by omega) (by omega);exact⟨o,LR hb ho1,ho2⟩
 | node k c kids r ihk ih=>
  intro F L i at_ x out m last ys pc hpc hm hpN hw hd h0 h1 hN hx hlen hL hF;simp only[Fo.wf,Vj,Vf] at hw;obtain⟨⟨⟨⟨⟨w1,w2⟩,w3⟩,w5⟩,w6⟩,w4⟩:=hw;simp only[Fo.flat,Vz,VO] at hd;simp only[Fo.cnt] at hN hL;simp only[Fo.flat,Vo,Vk] at hF;obtain⟨L,rfl⟩:∃K,L=K+1:=⟨L-1,by omega⟩
  obtain⟨F,rfl⟩:∃K,F=K+1:=⟨F-1,by omega⟩
  have hd1:=Cv h0 hd;have hkl:=Kn w1;obtain⟨g1,g2,g3⟩:=BC (by omega) hd1;have hcN:=(hA.hc c (Vm g1)).2.2;have hp:at_+(Bv k).length=bif m then at_+1 else at_:=by rw[hkl];cases m<;>simp
  have hq:=hA.next (F:=F+1) (by omega) (p:=at_+(Bv k).length) (by omega) (by omega);have hfl:(Fo.node none c kids .nil).flat=c::kids.flat:=by simp[Fo.flat,Bv]
  rw[MC (f:=.node none c kids .nil) (ys:=r.flat++ys) rfl (Pa w2 w3 w5 w6) (by rw[hd1,hfl];simp)] at hq;have hcf:=BT kids;have hvl:(v.drop (at_+(Bv k).length+1).toNat).length=kids.flat.length+(r.flat.length+ys.length):=by rw[g2];simp
  rw[List.length_drop] at hvl;have e:out++(Fo.node k c kids r).txt (decide (x=0))=(out++(EZ (decide (x=0))++L0 k++QP c (kids.txt true)))++r.txt (decide (x+1=0)):=by
   rw[Vc (show ¬ x+1=0 by omega)];simp[Fo.txt]
  rw[e] at hlen ⊢;have hl2:((out++(EZ (decide (x=0))++L0 k++QP c (kids.txt true))).length:Int)≤4611686018427387904:=by rw[Vo] at hlen;omega
  have hl3:(kids.txt true).length≤4611686018427387904:=by
   have:=MP c (kids.txt true);rw[Vo,Vo] at hl2;omega
  have hat:at_<v.length:=by omega
  have hrec:He (F+1) v (at_+(Bv k).length)=some (QP c (kids.txt true)):=by
   rw[He];unfold Mw;have ha:=(IJ w2 w3).1;rw[AK (by omega) g3,Ct (by omega) hd1,Ar (Vc (by omega)),Ar (Vc (by omega)),Ar (Vc (by omega)),Ar (Vc (by omega)),AB (by omega) (by omega)];obtain⟨o,ho1,ho2⟩:=ihk F F (at_+(Bv k).length) (at_+(Bv k).length+1) 0 [] _ none (r.flat++ys) c (Ct (by omega) hd1) rfl hcN w6 (by rw[g2]) (by omega) (by omega) (by omega) (Vx 0) hl3 (by omega) (by omega);rw[AF ho1,ho2];rfl
  have hb:=LG hpc hm (by omega) hx hpN h0 hat (by omega) w1 (RM h0 hA (F:=F+1) (by omega) hd) hp hrec hq hl2;obtain⟨o,ho1,ho2⟩:=ih (F+1) L i (at_+(Bv k).length+((Fo.node none c kids .nil).flat.length:Int)) (x+1) (out++(EZ (decide (x=0))++L0 k++QP c (kids.txt true))) m k ys pc hpc hm hpN w4 (by
   have:=Cv (by omega) g2;rw[hfl,Vk,show at_+(Bv k).length+((kids.flat.length+1:Nat):Int)=at_+(Bv k).length+1+kids.flat.length from by omega];exact this) (by omega) (by rw[hfl,Vk];omega) (by omega) (by omega) hlen (by omega) (by omega)
  exact⟨o,LR hb ho1,ho2⟩
theorem Rq (hA:Ix M v){F:Nat}{p:Int}{f:Fo}{ys:List Ab}(h0:0≤p)(h1:f.one=true)(hw:f.wf false none=true)(hd:v.drop p.toNat=f.flat++ys)(hF:3*M+6+f.flat.length<F)(hlen:(f.txt true).length≤4611686018427387904):He F v p=some (f.txt true):=by
 have hM:=hA.hM;have hvM:=hA.hv
 cases f with
 | nil=>cases h1
 | cell k c r=>
  cases k with
  | some s=>cases h1
  | none=>
   cases r with
   | nil=>
    simp only[Fo.wf,Vj,V0] at hw;obtain⟨F,rfl⟩:∃K,F=K+2:=⟨F-2,by omega⟩
    have hd':v.drop p.toNat=c::ys:=by simpa[Fo.flat,Bv] using hd
    have hcM:=hA.hc c (Vm (BC h0 hd').1);rw[K3 h0 (by have:=(BC h0 hd').2.2;omega) hd' hw.1.1.2 hw.1.2 (by omega) (by omega) hcM.2.1];simp[Fo.txt,EZ,L0]
   | cell _ _ _=>cases h1
   | node _ _ _ _=>cases h1
 | node k c kids r=>
  cases k with
  | some s=>cases h1
  | none=>
   cases r with
   | nil=>
    simp only[Fo.wf,Vj,Vf] at hw;obtain⟨⟨⟨⟨⟨w1,w2⟩,w3⟩,w5⟩,w6⟩,w4⟩:=hw;have hd':v.drop p.toNat=c::(kids.flat++ys):=by simpa[Fo.flat,Bv] using hd
    obtain⟨g1,g2,g3⟩:=BC h0 hd';have hcN:=(hA.hc c (Vm g1)).2.2;have hcf:=BT kids;simp only[Fo.flat,Bv,VT,VB,Vk] at hF;have et:(Fo.node none c kids .nil).txt true=QP c (kids.txt true):=by simp[Fo.txt,EZ,L0]
    rw[et] at hlen ⊢;have hbl:=MP c (kids.txt true);obtain⟨F,rfl⟩:∃K,F=K+1:=⟨F-1,by omega⟩
    rw[He];unfold Mw;have ha:=(IJ w2 w3).1;rw[AK h0 g3,Ct h0 hd',Ar (Vc (by omega)),Ar (Vc (by omega)),Ar (Vc (by omega)),Ar (Vc (by omega)),AB (by omega) (by omega)];obtain⟨o,ho1,ho2⟩:=Nw hA kids F F p (p+1) 0 [] _ none ys c (Ct h0 hd') rfl hcN w6 g2 (by omega) (by omega) (by omega) (Vx 0) (by show(kids.txt true).length≤_;omega) (by omega) (by omega);rw[AF ho1,ho2];rfl
   | cell _ _ _=>cases h1
   | node _ _ _ _=>cases h1
theorem Qi {F:Nat}{K:Option Int}(hF:v.length<F)(hv:v.length≤1152921504606846976):Bo (BI (λσ=>Ew v σ) F 0) (BD λ_=>K)=bif v.any EM then some 2 else K:=by
 obtain⟨o,h1,h2⟩:=DW (body:=λσ=>Ew v σ) (λx=>0≤x∧x≤(v.length:Int)∧(v.take x.toNat).any EM=false) (λx=>v.length-x.toNat)
  (λo=>BD (λ_=>K) o=bif v.any EM then some 2 else K) (λx ⟨h0,hl,ha⟩=>by
   by_cases hx:x<(v.length:Int)
   ·obtain⟨c,hc⟩:∃c,v[x.toNat]? =some c:=⟨v[x.toNat]'(by omega),Vi (by omega)⟩
    have hat:Ad v x=c:=by simp[Ad,hc]
    have ho:(decide (c.fKind=3)&&(decide (c.fInt<(-1000000000000))||decide (1000000000000<c.fInt)))=EM c:=by
     unfold EM
     cases decide (c.fKind=3) with
     | false=>rfl
     | true=>
      rw[V3,V3,Vt];simp only[VI,Vf,V0,Bool.and_eq_false_iff,Vg];omega
    have hb:Ew v x=Bg (EM c) (some (.out (.ret 2))) (some (.next (x+1))):=by
     unfold Ew;rw[Az (Ve hx),AK h0 hx,hat,ho,AB (by omega) (by omega)]
    cases hq:EM c with
    | true=>
     refine .inr ⟨.ret 2,hb.trans (Az hq),?_⟩;have:v.any EM=true:=List.any_eq_true.2 ⟨c,Vm hc,hq⟩;rw[KC,this];rfl
    | false=>
     have a3:(v.take (x+1).toNat).any EM=false:=by
      rw[show(x+1).toNat=x.toNat+1 from by omega,List.take_add_one,hc,List.any_append,ha];simp[hq]
     exact .inl ⟨x+1,hb.trans (Ar hq),⟨by omega,by omega,a3⟩,by omega⟩
   ·refine .inr ⟨.go (),by unfold Ew;rw[Ar (Vc hx)],?_⟩;rw[show x.toNat=v.length from by omega,VY] at ha;rw[Cs,ha];rfl) F 0 ⟨Vx 0,by omega,by simp⟩ (by simpa using hF)
 rw[AF h1,h2]
theorem Qh {F:Nat}{K:Option Int}(hF:v.length<F)(hv:v.length≤1152921504606846976):Bo (BI (λσ=>Ev v σ) F 0) (BD λ_=>K)=bif v.any Ek then some 3 else K:=by
 obtain⟨o,h1,h2⟩:=DW (body:=λσ=>Ev v σ) (λx=>0≤x∧x≤(v.length:Int)∧(v.take x.toNat).any Ek=false) (λx=>v.length-x.toNat)
  (λo=>BD (λ_=>K) o=bif v.any Ek then some 3 else K) (λx ⟨h0,hl,ha⟩=>by
   by_cases hx:x<(v.length:Int)
   ·obtain⟨c,hc⟩:∃c,v[x.toNat]? =some c:=⟨v[x.toNat]'(by omega),Vi (by omega)⟩
    have hat:Ad v x=c:=by simp[Ad,hc]
    have hb:Ev v x=Bg (Ek c) (some (.out (.ret 3))) (some (.next (x+1))):=by
     unfold Ev;rw[Az (Ve hx),AK h0 hx,hat,AB (by omega) (by omega)];rfl
    cases hq:Ek c with
    | true=>
     refine .inr ⟨.ret 3,hb.trans (Az hq),?_⟩;have:v.any Ek=true:=List.any_eq_true.2 ⟨c,Vm hc,hq⟩;rw[KC,this];rfl
    | false=>
     have a3:(v.take (x+1).toNat).any Ek=false:=by
      rw[show(x+1).toNat=x.toNat+1 from by omega,List.take_add_one,hc,List.any_append,ha];simp[hq]
     exact .inl ⟨x+1,hb.trans (Ar hq),⟨by omega,by omega,a3⟩,by omega⟩
   ·refine .inr ⟨.go (),by unfold Ev;rw[Ar (Vc hx)],?_⟩;rw[show x.toNat=v.length from by omega,VY] at ha;rw[Cs,ha];rfl) F 0 ⟨Vx 0,by omega,by simp⟩ (by simpa using hF)
 rw[AF h1,h2]
theorem MJ:decide (GN v 0=v.length)=(whole v).isSome:=by
 unfold GN whole;rw[show v.drop (0:Int).toNat=v from rfl]
 cases hp:Gr v with
 | none=>simp
 | some q=>
  obtain⟨f,ys⟩:=q;have h1:=(H7 hp).1;have hl:v.length=f.flat.length+ys.length:=by rw[h1];simp
  cases ys with
  | nil=>simp at hl ⊢;omega
  | cons c r=>simp at hl ⊢;omega
theorem Jo (hA:Ix M v)(hM:M≤1000000){F:Nat}(hF:4*M+6<F):Jp F v=some (DT v):=by
 have hvM:=hA.hv;unfold Jp;rw[O4 (hA.rf (Vy M)) (λc hc=>(hA.hc c hc).2.2) (by omega),AF rfl,MJ];unfold DT
 cases hwh:whole v with
 | none=>rfl
 | some f=>
  obtain⟨h1,h2,h3⟩:=Kx hwh;rw[Ar (p:=!(some f).isSome) rfl]
  change _=some (OO f)
  have hl:v.length=f.flat.length:=by rw[h1]
  have hc:∀c∈f.flat,c.fStr.length≤M∧BE .i64 c.fInt=true∧c.fN≤9223372036854775807:=λc hc=>hA.hc c (by rw[h1];exact hc);have hb:=Me hM h2 (by omega) hc;have htl:((f.txt true).length:Int)=f.byt:=by rw[I6 f false none true h2,Pu h3];simp
  have hd0:v.drop (0:Int).toNat=f.flat++[]:=by rw[VB];exact h1
  rw[Qi (by omega) (by omega)];unfold OO LK;rw[O3 hA (Vx 0) h3 h2 hd0 (by omega),B0 (by simp[imp]),Qh (by omega) (by omega)];unfold LJ;rw[Rq hA (Vx 0) h3 h2 hd0 (by omega) (by omega),AF rfl];rw[G5,hl,← h1];have a1:decide ((200:Int)<(v.length:Int))=decide (200<v.length):=by rw[Vt];simp;omega
  have a2:decide ((8:Int)<(f.dep:Int))=decide (8<f.dep):=by rw[Vt];simp;omega
  have a3:decide ((4000:Int)<((f.txt true).length:Int))=decide (4000<(f.txt true).length):=by rw[Vt];simp;omega
  rw[a1,a2,a3]
  cases v.any EM<;>cases v.any Ek<;>cases decide (200<v.length)<;>cases decide (8<f.dep)<;>cases decide (4000<(f.txt true).length)<;>rfl
end
def EQ (c:Ab):Bool:=BE .i64 c.fKind&&BE .i64 c.fInt&&Sz c.fStr&&BE .i64 c.fN
theorem IZ (a:Bool):imp a true=true:=by cases a<;>rfl
theorem QA {f:Fo}(h:OO f=0):f.flat.any EM=false∧f.flat.any Ek=false∧f.flat.length≤200∧f.dep≤8∧(f.txt true).length≤4000:=by
 unfold OO at h
 cases h1:f.flat.any EM with
 | true=>rw[h1] at h;cases h
 | false=>
  rw[h1] at h
  cases h2:(f.flat.any Ek||(decide (200<f.flat.length)||(decide (8<f.dep)||decide (4000<(f.txt true).length)))) with
  | true=>rw[h2] at h;cases h
  | false=>
   simp only[VA,Vg] at h2;exact⟨rfl,h2.1,by omega,by omega,by omega⟩
theorem Mq {α:Type}{a b:List α}{n:Nat}(h:a.take n=b.take n)(h1:a.length≤n)(h2:b.length≤n):a=b:=by
 rw[List.take_of_length_le h1,List.take_of_length_le h2] at h;exact h
theorem Hb {F:Nat}{a b:List Ab}(hF:a.length<F)(hv:a.length≤1152921504606846976):En F a b=some (decide (a=b)):=by
 unfold En
 by_cases hl:(a.length:Int)=(b.length:Int)
 ·rw[Ar (by simp[hl])];obtain⟨o,h1,h2⟩:=DW (body:=λσ=>CK a b σ) (λx=>0≤x∧x≤(a.length:Int)∧a.take x.toNat=b.take x.toNat) (λx=>a.length-x.toNat) (λo=>BD (λ_=>E4) o=some (decide (a=b))) (λx ⟨h0,hx,ht⟩=>by
   by_cases h:x<(a.length:Int)
   ·have hb:x<(b.length:Int):=by omega
    obtain⟨c,hc⟩:∃c,a[x.toNat]? =some c:=⟨a[x.toNat]'(by omega),Vi (by omega)⟩
    obtain⟨d,hd⟩:∃d,b[x.toNat]? =some d:=⟨b[x.toNat]'(by omega),Vi (by omega)⟩
    have ac:Ad a x=c:=by simp[Ad,hc]
    have bd:Ad b x=d:=by simp[Ad,hd]
    have heq:(decide (c.fKind=d.fKind)&&decide (c.fInt=d.fInt)&&decide (c.fStr=d.fStr)&&decide (c.fN=d.fN))=decide (c=d):=by
     cases c;cases d
     rw[Vt];simp only[Ab.mk.injEq,Vj,Vf];constructor
     ·rintro⟨⟨⟨h1,h2⟩,h3⟩,h4⟩;exact⟨h1,h2,h3,h4⟩
     ·rintro⟨h1,h2,h3,h4⟩;exact⟨⟨⟨h1,h2⟩,h3⟩,h4⟩
    have hb1:CK a b x=Bg (!decide (c=d)) (some (.out (.ret false))) (some (.next (x+1))):=by
     unfold CK;rw[Az (Ve h),AK h0 h,AK h0 hb,ac,bd,heq,AB (by omega) (by omega)]
    by_cases hcd:c=d
    ·refine .inl ⟨x+1,hb1.trans (by rw[Ar (by simp[hcd])]),⟨by omega,by omega,?_⟩,by omega⟩;rw[show(x+1).toNat=x.toNat+1 from by omega,List.take_add_one,List.take_add_one,ht,hc,hd,hcd]
    ·refine .inr ⟨.ret false,hb1.trans (by rw[Az (by simp[hcd])]),?_⟩;rw[KC,Vc];intro e;subst e;rw[hc] at hd;cases hd;exact hcd rfl
   ·refine .inr ⟨.go (),by unfold CK;rw[Ar (Vc h)],?_⟩;rw[Cs,Ve (Mq ht (by omega) (by omega))];rfl) F 0 ⟨Vx 0,by omega,rfl⟩ (by show a.length-0<F;omega)
  rw[AF h1,h2]
 ·rw[Az (by simp[hl]),Vc];intro e;subst e;exact hl rfl
theorem H5 {F:Nat}{a b:List Ab}(hF:a.length<F)(hv:a.length≤1152921504606846976):E5 F a b=some (decide (a=b)):=(show E5 F a b=En F a b from rfl).trans (Hb hF hv)
theorem CS {α:Type}{n:Nat}{x:Option α}(h:n≤1000000000):Bd (L4 16 n) x=x:=B0 (Ve (by omega))
theorem OQ {α:Type}{n:Nat}{x:Option α}(h:n≤1000000000):Bd (L4 24 n) x=x:=B0 (Ve (by omega))
theorem BA {α:Type}[Inhabited α]{l:List α}{i:Nat}(h:i<l.length):Ad l (i:Int)=l[i]:=by simp[Ad,h]
def Ge {α:Type}(f:α→Int):List α→Int
 | []=>0
 | x::r=>if f x=0 then Ge f r else f x
theorem Q1 {α U:Type}{l:List α}{f:α→Int}{body:Int→Option (Stp Int (Out Int U))}{u:U}(hb:∀(i:Nat) (h:i<l.length),body (i:Int)=Bg (!decide (f l[i]=0)) (some (.out (.ret (f l[i])))) (some (.next ((i:Int)+1))))(he:body (l.length:Int)=some (.out (.go u))) :
  ∀(d n i:Nat),i+d=l.length→d<n→BI body n (i:Int)=some (if Ge f (l.drop i)=0 then .go u else .ret (Ge f (l.drop i))):=by
 intro d
 induction d with
 | zero=>
  intro n i h hn;obtain⟨n,rfl⟩:∃m,n=m+1:=⟨n-1,by omega⟩
  obtain rfl:i=l.length:=by omega
  rw[BI,he,List.drop_length];rfl
 | succ d ih=>
  intro n i h hn;obtain⟨n,rfl⟩:∃m,n=m+1:=⟨n-1,by omega⟩
  have hi:i<l.length:=by omega
  rw[BI,hb i hi,List.drop_eq_getElem_cons hi]
  by_cases hf:f l[i]=0
  ·rw[Ar (by simp[hf])];have:=ih n (i+1) (by omega) (by omega);rw[Ge,Vu hf];exact this
  ·rw[Az (by simp[hf]),Ge,Vp hf,Vp hf]
theorem KK {α U:Type}{l:List α}{f:α→Int}{body:Int→Option (Stp Int (Out Int U))}{u:U}{F:Nat}(hF:l.length<F)(hb:∀(i:Nat) (h:i<l.length),body (i:Int)=Bg (!decide (f l[i]=0)) (some (.out (.ret (f l[i])))) (some (.next ((i:Int)+1))))(he:body (l.length:Int)=some (.out (.go u))) :
  Bo (BI body F 0) (BD λ_=>some 0)=some (Ge f l):=by
 have h:=Q1 hb he l.length F 0 (by omega) hF;have h':BI body F 0=_:=h;rw[List.drop_zero] at h';rw[AF h']
 by_cases h0:Ge f l=0
 ·rw[Vu h0,h0];rfl
 ·rw[Vp h0];rfl
theorem SX {α U:Type}{l:List α}{body:Int→Option (Stp Int (Out Bool U))}{bad:α→Bool}{u:U}(hb:∀(i:Nat) (h:i<l.length),body (i:Int)=Bg (bad l[i]) (some (.out (.ret false))) (some (.next ((i:Int)+1))))(he:body (l.length:Int)=some (.out (.go u))) :
  ∀(d n i:Nat),i+d=l.length→d<n→BI body n (i:Int)=some (if (l.drop i).any bad=true then .ret false else .go u):=by
 intro d
 induction d with
 | zero=>
  intro n i h hn;obtain⟨n,rfl⟩:∃m,n=m+1:=⟨n-1,by omega⟩
  obtain rfl:i=l.length:=by omega
  rw[BI,he,List.drop_length];rfl
 | succ d ih=>
  intro n i h hn;obtain⟨n,rfl⟩:∃m,n=m+1:=⟨n-1,by omega⟩
  have hi:i<l.length:=by omega
  rw[BI,hb i hi,List.drop_eq_getElem_cons hi,List.any_cons]
  cases hf:bad l[i] with
  | false=>rw[Ar rfl,V6];exact ih n (i+1) (by omega) (by omega)
  | true=>rw[Az rfl,VW,Vu rfl]
theorem DA {α U:Type}{l:List α}{body:Int→Option (Stp Int (Out Bool U))}{bad:α→Bool}{u:U}{F:Nat}(hF:l.length<F)(hb:∀(i:Nat) (h:i<l.length),body (i:Int)=Bg (bad l[i]) (some (.out (.ret false))) (some (.next ((i:Int)+1))))(he:body (l.length:Int)=some (.out (.go u)))(k:U→Option Bool) :
  Bo (BI body F 0) (BD k)=bif l.any bad then some false else k u:=by
 have h:=SX hb he l.length F 0 (by omega) hF;have h':BI body F 0=_:=h;rw[List.drop_zero] at h';rw[AF h']
 cases l.any bad<;>rfl
def Lg (v:List Ab):Bool:=decide (100<v.length)||v.any λc=>decide (250<c.fStr.length)
theorem EH {α:Type}(n:Nat)(f:List α):decide (((n:Nat):Int)<(f.length:Int))=decide (n<f.length):=by rw[Vt];simp
theorem Q6 {F:Nat}(hF:100<F)(v:List Ab):KQ F v=some (!Lg v):=by
 unfold KQ Lg;rw[show decide ((100:Int)<(v.length:Int))=decide (100<v.length) from EH 100 v]
 cases hl:decide (100<v.length) with
 | true=>rfl
 | false=>
  have hl' : ¬ 100<v.length:=of_decide_eq_false hl;rw[Ar rfl,DA (l:=v) (bad:=λc=>decide (250<c.fStr.length)) (u:=()) (by omega) (λi h=>by
   unfold E1;rw[Az (Ve (by omega)),AK (by omega) (by omega),BA h,AB (by omega) (by omega),show decide ((250:Int)<((v[i]).fStr.length:Int))=decide (250<(v[i]).fStr.length) from EH 250 _]) (by unfold E1;rw[Ar (Vc (by omega))])]
  cases v.any _<;>rfl
def Hy (op:At):Bool:=(decide (100<op.fEntity.length)||(decide (100<op.fID.length)||(decide (100<op.fOp.length)||decide (4<op.fArgs.length))))||op.fArgs.any Lg
theorem Q4 {F:Nat}(hF:100<F)(op:At):KP F op=some (!Hy op):=by
 unfold KP Hy;have hk:((decide (100<(op.fEntity.length:Int)))||((decide (100<(op.fID.length:Int)))||((decide (100<(op.fOp.length:Int)))||(decide (4<(op.fArgs.length:Int))))))=(decide (100<op.fEntity.length)||(decide (100<op.fID.length)||(decide (100<op.fOp.length)||decide (4<op.fArgs.length)))):=by
  rw[← EH 100 op.fEntity,← EH 100 op.fID,← EH 100 op.fOp,← EH 4 op.fArgs];rfl
 rw[hk]
 cases hb:(decide (100<op.fEntity.length)||(decide (100<op.fID.length)||(decide (100<op.fOp.length)||decide (4<op.fArgs.length)))) with
 | true=>rfl
 | false=>
  simp only[VA,Vg] at hb;rw[Ar rfl,DA (l:=op.fArgs) (bad:=Lg) (u:=()) (by omega) (λi h=>by
   unfold E0;rw[Az (Ve (by omega)),AK (by omega) (by omega),BA h,Q6 hF,AF rfl,Bool.not_not,AB (by omega) (by omega)]) (by unfold E0;rw[Ar (Vc (by omega))])]
  cases op.fArgs.any Lg<;>rfl
theorem Ix.ofN {v:List Ab}(hs:Lg v=false)(hc:v.all EQ=true):Ix 250 v:=by
 unfold Lg at hs;simp only[VA,Vg,List.any_eq_false,V9,Vf] at hs hc;refine⟨by decide,by omega,λc h=>?_⟩;have h1:=hs.2 c h;have h2:=hc c h;unfold EQ at h2;simp only[Vj] at h2;exact⟨by omega,h2.1.1.2,(Kq h2.2).2⟩
structure Lo (M:Nat) (op:At):Prop where
 e:op.fEntity.length≤1000000
 i:op.fID.length≤1000000
 o:op.fOp.length≤1000000
 n:op.fArgs.length≤1000000
 a:∀v∈op.fArgs,Ix M v
theorem Lo.of {op:At}(hs:Hy op=false)(hc:op.fArgs.all (λv=>v.all EQ)=true):Lo 250 op:=by
 unfold Hy at hs;simp only[VA,Vg,List.any_eq_false] at hs;exact⟨by omega,by omega,by omega,by omega,λv hv=>Ix.ofN (by have:=hs.2 v hv;simpa using this) (List.all_eq_true.1 hc v hv)⟩
abbrev IA:Am:=[114,101,97,100]
abbrev D6:Am:=[119,114,105,116,101]
abbrev JY:Am:=[97,100,100]
abbrev IB:Am:=[99,97,115]
def CT (op:Am):Int:=if op=IA then 0 else if op=D6 then 1 else if op=JY then 1 else if op=IB then 2 else -1
theorem QG:mset (mset (mset (mset ([]:List (Am×Int)) IA 0) D6 1) JY 1) IB 2=[(JY,1),(IB,2),(IA,0),(D6,1)]:=by decide
theorem Qs (op:Am):∃n,KH op=some (n,decide (0≤CT op))∧(0≤CT op→n=CT op):=by
 unfold KH;rw[show mset (mset (mset (mset ([]:List (Am×Int)) ([114,101,97,100]:Am) 0) ([119,114,105,116,101]:Am) 1) ([97,100,100]:Am) 1) ([99,97,115]:Am) 2=[(JY,1),(IB,2),(IA,0),(D6,1)] from QG];unfold Ay Bu CT
 by_cases h1:op=IA
 ·subst h1;exact⟨0,rfl,λ_=>rfl⟩
 ·by_cases h2:op=D6
  ·subst h2;exact⟨1,rfl,λ_=>rfl⟩
  ·by_cases h3:op=JY
   ·subst h3;exact⟨1,rfl,λ_=>rfl⟩
   ·by_cases h4:op=IB
    ·subst h4;exact⟨2,rfl,λ_=>rfl⟩
    ·have hn:B3 [(JY,(1:Int)),(IB,2),(IA,0),(D6,1)] op=none:=by
      simp only[B3];rw[Vc (λe=>h3 e.symm),Vc (λe=>h4 e.symm),Vc (λe=>h1 e.symm),Vc (λe=>h2 e.symm)];rfl
     rw[hn,Vp h1,Vp h2,Vp h3,Vp h4];exact⟨0,rfl,λe=>by omega⟩
theorem O6 (op:Am):M4 op=some (CT op):=by
 unfold M4 CT
 by_cases h1:op=IA
 ·rw[Az (Ve h1),Vu h1]
 ·rw[Ar (Vc h1),Vp h1]
  by_cases h2:op=D6
  ·rw[Az (Ve h2),Vu h2]
  ·rw[Ar (Vc h2),Vp h2]
   by_cases h3:op=JY
   ·rw[Az (Ve h3),Vu h3]
   ·rw[Ar (Vc h3),Vp h3]
    by_cases h4:op=IB
    ·rw[Az (Ve h4),Vu h4]
    ·rw[Ar (Vc h4),Vp h4]
def DJ (op:At):Int:=if (GX op.fEntity&&(GX op.fID&&decide (0≤CT op.fOp)))=false then 4 else if (op.fArgs.length:Int)=CT op.fOp then Ge DT op.fArgs else 7
theorem Dz {M F:Nat}{op:At}(hA:Lo M op)(hM:M≤1000000)(hF:M<F)(hF2:op.fArgs.length<F):J0 F op=some (DJ op):=by
 obtain⟨n,h1,h2⟩:=Qs op.fOp;unfold J0 DJ;rw[h1,AF rfl];simp only;have hk:((!(GX op.fEntity))||((!(GX op.fID))||(!decide (0≤CT op.fOp)))) = !(GX op.fEntity&&(GX op.fID&&decide (0≤CT op.fOp))):=by
  cases GX op.fEntity<;>cases GX op.fID<;>cases decide (0≤CT op.fOp)<;>rfl
 rw[hk]
 cases hb:(GX op.fEntity&&(GX op.fID&&decide (0≤CT op.fOp))) with
 | false=>rfl
 | true=>
  have h0:0≤CT op.fOp:=by
   simp only[Vj,Vf] at hb;exact hb.2.2
  rw[Ar (by rfl),h2 h0,Vp (by simp)]
  by_cases hl:(op.fArgs.length:Int)=CT op.fOp
  ·rw[Vu hl,Ar (by simp[hl])];exact KK (l:=op.fArgs) (f:=DT) (u:=()) hF2 (λi h=>by
    unfold Ey;rw[Az (Ve (by omega)),AK (by omega) (by omega),BA h,LB (hA.a _ (List.getElem_mem h)) hM hF,AF rfl,AB (by omega) (by have:=hA.n;omega)]) (by unfold Ey;rw[Ar (Vc (by omega))])
  ·rw[Vp hl,Az (by simp[hl])]
theorem SN:∀a b d e f g h i j:Bool,(Bo (some a) λha=>Bg ha (some true) (Bg d (Bg e (some true) (Bo (some b) λhb=>Bg hb (some true) (Bg f (some true) (Bg g (some true) (Bg h (some true) (Bg i (some true) (some j))))))) (Bo (some b) λhd=>Bg hd (some true) (Bg f (some true) (Bg g (some true) (Bg h (some true) (Bg i (some true) (some j))))))))=some (a||b||(d&&e)||f||g||h||i||j):=by decide
theorem OL (c:Int):RX c=some (Cn c):=SN (decide (97≤c)&&decide (c≤122)) (decide (48≤c)&&decide (c≤57)) (decide (65≤c)) (decide (c≤90)) (decide (c=45)) (decide (c=95)) (decide (c=46)) (decide (c=58)) (decide (c=47))
theorem Jf:∀(s:Am) (k:Nat),BB J5 k s=s.all λu=>Cn u.toNat
 | [],k=>rfl
 | u::r,k=>by rw[BB,Jf r (k+1),List.all_cons];rfl
theorem NZ {F:Nat}(hF:64<F)(s:Am):OM F s=some (GX s):=by
 unfold OM GX;rw[Jf]
 by_cases hl:(s.length:Int)<1∨(64:Int)<(s.length:Int)
 ·rw[Az (by simpa using hl)];have:(decide (1≤s.length)&&decide (s.length≤64))=false:=by
   simp only[Bool.and_eq_false_iff,Vg];omega
  rw[Bool.and_assoc,this,VF]
 ·rw[Ar (by simpa using hl)];have hb:(decide (1≤s.length)&&decide (s.length≤64))=true:=by
   simp only[Vj,Vf];omega
  rw[Bool.and_assoc,hb,VQ,DA (l:=s) (bad:=λu=>!Cn u.toNat) (u:=()) (by omega) (λi h=>by
   unfold MI;rw[Az (Ve (by omega)),AK (by omega) (by omega),Ua (Vi h),OL,AF rfl,AB (by omega) (by omega)]) (by unfold MI;rw[Ar (Vc (by omega))])]
  have:(s.any λu=>!Cn u.toNat) = !(s.all λu=>Cn u.toNat):=by rw[List.not_all_eq_any_not]
  rw[this]
  cases s.all λu=>Cn u.toNat<;>rfl
theorem Dt {M F:Nat}{op:At}(hA:Lo M op)(hM:M≤1000000)(hF:4*M+70<F)(hF2:op.fArgs.length<F):II F op=some (DJ op):=by
 unfold II DJ;rw[O6,AF rfl,NZ (by omega),NZ (by omega),Option.isSome_some,Option.isSome_some,B0 rfl,B0 (by unfold imp;simp),G5,G5];have hk:((!(GX op.fEntity))||((!(GX op.fID))||(decide (CT op.fOp<0)))) = !(GX op.fEntity&&(GX op.fID&&decide (0≤CT op.fOp))):=by
  have:decide (CT op.fOp<0) = !decide (0≤CT op.fOp):=by rw[Vt];simp
  rw[this]
  cases GX op.fEntity<;>cases GX op.fID<;>cases decide (0≤CT op.fOp)<;>rfl
 rw[hk]
 cases hb:(GX op.fEntity&&(GX op.fID&&decide (0≤CT op.fOp))) with
 | false=>rfl
 | true=>
  rw[Ar (by rfl),Vp (by simp)]
  by_cases hl:(op.fArgs.length:Int)=CT op.fOp
  ·rw[Vu hl,Ar (by simp[hl])];exact KK (l:=op.fArgs) (f:=DT) (u:=()) hF2 (λi h=>by
    unfold Hf;rw[Az (Ve (by omega)),AK (by omega) (by omega),BA h,Jo (hA.a _ (List.getElem_mem h)) hM (by omega),AF rfl,AB (by omega) (by have:=hA.n;omega)]) (by unfold Hf;rw[Ar (Vc (by omega))])
  ·rw[Vp hl,Az (by simp[hl])]
theorem Tg {v:List Ab}(h:DT v=0):∃c r,v=c::r∧pl c=true∧EM c=false:=by
 unfold DT at h
 cases hw:whole v with
 | none=>rw[hw] at h;simp at h
 | some f=>
  rw[hw] at h;obtain⟨h1,h2,h3⟩:=Kx hw;have ho:=(QA h).1
  cases f with
  | nil=>cases h3
  | cell k c r=>
   cases k with
   | some _=>cases h3
   | none=>
    refine⟨c,r.flat,h1,?_,?_⟩
    ·simp only[Fo.wf,Vj] at h2;exact h2.1.1.2
    ·simp only[Fo.flat,Bv,VT,List.any_cons,VA] at ho;exact ho.1
  | node k c kids r=>
   cases k with
   | some _=>cases h3
   | none=>
    refine⟨c,kids.flat++r.flat,h1,?_,?_⟩
    ·simp only[Fo.wf,Vj] at h2;exact h2.1.1.1.1.2
    ·simp only[Fo.flat,Bv,VT,List.any_cons,VA] at ho;exact ho.1
def Ei (n:Int):Ab:=⟨3,n,[],0⟩
def DH (n:Int):Bool:=decide ((-1000000000000)≤n)&&decide (n≤1000000000000)
theorem Od {n:Int}(h0 : -9223372036854775808≤n)(h1:n≤9223372036854775807):DT [Ei n]=if DH n=true then 0 else 2:=by
 have hw:whole [Ei n]=some (.cell none (Ei n) .nil):=QZ (f:=.cell none (Ei n) .nil) rfl (by simp[Fo.wf,BZ,pl,Ei]);unfold DT;rw[hw];simp only;unfold OO;have hf:(Fo.cell none (Ei n) .nil).flat=[Ei n]:=rfl;have ho:[Ei n].any EM = !DH n:=by simp[EM,Ei,DH]
 have ht:((Fo.cell none (Ei n) .nil).txt true).length≤21:=by
  have:(Fo.cell none (Ei n) .nil).txt true=Lib.itoa n:=by simp[Fo.txt,EZ,L0,IW,Ei]
  rw[this];exact RO n h0 h1
 rw[hf,ho];have hl:[Ei n].any Ek=false:=by simp[Ek,Ei]
 have hd:(Fo.cell none (Ei n) .nil).dep=1:=rfl;rw[hl,hd]
 cases hk:DH n with
 | false=>rfl
 | true=>
  rw[Vc (show ¬ 4000<((Fo.cell none (Ei n) .nil).txt true).length from by omega)];simp
theorem Do {v:List Ab}(h:v.length≤1000000):Cw v=some v:=by
 unfold Cw;rw[B0 (show L4 40 _=true from Ve (by simp;omega))];rfl
def BP:List Ab:=[⟨1,0,[],0⟩]
def T6 (b:Bool):List Ab:=[⟨2,if b then 1 else 0,[],0⟩]
def Iv (v:List Ab):Int:=(Ad v 0).fKind
def LS (v:List Ab):Int:=(Ad v 0).fInt
def MT (state n:List Ab):List Ab×A0:=
 if (Iv state≠1∧Iv state≠3)∨Iv n≠3 then(state,⟨7,[]⟩) else if DH (LS state+LS n)=true then([Ei (LS state+LS n)],⟨0,[Ei (LS state+LS n)]⟩) else(state,⟨8,[]⟩)
def QH (state:List Ab)(op:At):List Ab×A0:=
 if op.fOp=D6 then(Ad op.fArgs 0,⟨0,BP⟩) else if op.fOp=JY then MT state (Ad op.fArgs 0)
 else if op.fOp=IB then(if state=Ad op.fArgs 0 then(Ad op.fArgs 1,⟨0,T6 true⟩) else(state,⟨0,T6 false⟩)) else(state,⟨0,state⟩)
def GY (state:List Ab)(op:At):List Ab×A0×Int:=
 if DJ op≠0 then([],⟨0,[]⟩,DJ op) else if DT state≠0 then([],⟨0,[]⟩,DT state) else((QH state op).1,(QH state op).2,0)
theorem Ja {v:List Ab}(h:DT v=0):0<v.length∧(Iv v=1→LS v=0)∧(Iv v=3→-1000000000000≤LS v∧LS v≤1000000000000):=by
 obtain⟨c,r,rfl,hp,ho⟩:=Tg h;refine⟨by simp,λhk=>?_,λhk=>?_⟩
 ·have hk':c.fKind=1:=hk;have:c.fInt=0:=by
   unfold pl at hp;rw[Ve hk',Vq] at hp;simp only[Vj,Vf] at hp;exact hp.1
  exact this
 ·have hk':c.fKind=3:=hk;unfold EM at ho;rw[Ve hk',V3,Bool.not_eq_false',Vj,Vf,Vf] at ho;exact ho
theorem LO {F:Nat}(hF:10<F){a b:Int}(ha : -1000000000000≤a∧a≤1000000000000)(hb : -1000000000000≤b∧b≤1000000000000):Jx F a b=some (if DH (a+b)=true then(a+b,0) else(0,8)):=by
 have hv:Hh F [a,b]=some true:=by
  unfold Hh;have hbad:([a,b].any λn=>!DH n)=false:=by
   simp[DH];omega
  rw[DA (l:=[a,b]) (bad:=λn=>!DH n) (u:=()) (by simp;omega) (λi h=>by
   unfold Dw Bn;rw[Az (Ve (by omega)),AK (by omega) (by omega),BA h,AF rfl,AB (by omega) (by simp only[Vk,V8] at h;omega)];rfl) (by unfold Dw;rw[Ar (Vc (by omega))]),hbad]
  rfl
 unfold Jx;rw[hv,AF rfl,Ar (by rfl),AB (by omega) (by omega)];unfold HB Bn;rw[AF rfl];have:(decide (-1000000000000≤a+b)&&decide (a+b≤1000000000000))=DH (a+b):=rfl;rw[this]
 cases DH (a+b)<;>rfl
theorem Jd {op:At}(h:DJ op=0):GX op.fEntity=true∧GX op.fID=true∧0≤CT op.fOp∧(op.fArgs.length:Int)=CT op.fOp∧∀v∈op.fArgs,DT v=0:=by
 unfold DJ at h
 split at h
 ·simp at h
 ·rename_i h1
  rw[Bool.not_eq_false] at h1;simp only[Vj,Vf] at h1
  split at h
  ·rename_i h2
   refine⟨h1.1,h1.2.1,h1.2.2,h2,?_⟩;have key:∀l:List (List Ab),Ge DT l=0→∀v∈l,DT v=0:=by
    intro l
    induction l with
    | nil=>intro _ v hv;cases hv
    | cons x r ih=>
     intro hf v hv;rw[Ge] at hf
     by_cases hx:DT x=0
     ·rw[Vu hx] at hf;rcases List.mem_cons.1 hv with rfl | hv
      ·exact hx
      ·exact ih hf v hv
     ·rw[Vp hx] at hf;exact absurd hf hx
   exact key _ h
  ·simp at h
theorem PH {l:List (List Ab)}{i:Nat}(h:i<l.length):Ad l (i:Int)∈l:=by rw[BA h];exact List.getElem_mem h
theorem Qt {F:Nat}(hF:10<F){state:List Ab}{args:List (List Ab)}(hs:DT state=0)(hl:args.length=1)(ha:DT (Ad args 0)=0)(hsl:state.length≤1000000):KI F state args=some (MT state (Ad args 0)):=by
 obtain⟨s1,s2,s3⟩:=Ja hs;obtain⟨a1,a2,a3⟩:=Ja ha;unfold KI MT;rw[AK (by omega) (by omega)];have hk:(Ad state 0).fKind=Iv state:=rfl;have hk2:(Ad (Ad args 0) 0).fKind=Iv (Ad args 0):=rfl;have hi:(Ad state 0).fInt=LS state:=rfl;have hi2:(Ad (Ad args 0) 0).fInt=LS (Ad args 0):=rfl;rw[hk,hk2,hi,hi2];have hcl:∀n:Int,Cw [Ab.mk 3 n [] 0]=some [Ei n]:=λn=>Do (by simp)
 by_cases h3:Iv state=3
 ·have hsi:=s3 h3;rw[Az (Ve h3),AK (by omega) (by omega),AK (by omega) (by omega)]
  by_cases hn:Iv (Ad args 0)=3
  ·have hai:=a3 hn;have hne : ¬ ((Iv state≠1∧Iv state≠3)∨Iv (Ad args 0)≠3):=by omega
   rw[Ar (by simp[hn]),LO hF hsi hai,AF rfl,Vp hne]
   by_cases ho:DH (LS state+LS (Ad args 0))=true
   ·rw[Vu ho,Vu ho,Ar (by simp)];simp only;rw[hcl,AF rfl];rfl
   ·rw[Vp ho,Vp ho,Az (by simp)]
  ·rw[Az (by simp[hn]),Vu (.inr hn)]
 ·rw[Ar (Vc h3)]
  by_cases h1:Iv state=1
  ·have hsi:=s2 h1;rw[Az (Ve h1),AK (by omega) (by omega),AK (by omega) (by omega)]
   by_cases hn:Iv (Ad args 0)=3
   ·have hai:=a3 hn;have hne : ¬ ((Iv state≠1∧Iv state≠3)∨Iv (Ad args 0)≠3):=by omega
    rw[Ar (by simp[hn]),LO hF (by omega) hai,AF rfl,Vp hne,hsi]
    by_cases ho:DH (0+LS (Ad args 0))=true
    ·rw[Vu ho,Vu ho,Ar (by simp)];simp only;rw[hcl,AF rfl];rfl
    ·rw[Vp ho,Vp ho,Az (by simp)]
   ·rw[Az (by simp[hn]),Vu (.inr hn)]
  ·rw[Ar (Vc h1),Vu (.inl ⟨h1,h3⟩)]
theorem SL {F:Nat}(hF:100<F){n:Int}(h0 : -9223372036854775808≤n)(h1:n≤9223372036854775807):TJ F n=some (if DH n=true then([Ei n],0) else([],2)):=by
 unfold TJ N1;have hA:Ix 10 [Ei n]:=⟨by decide,by simp,λc hc=>by
  simp at hc;subst hc;exact⟨by simp[Ei],IY h0 h1,by simp[Ei]⟩⟩
 have hc:=Jo hA (by decide) (F:=F) (by omega);have hc':Jp F [Ab.mk 3 n [] 0]=some (DT [Ei n]):=hc;rw[hc',AF rfl,Od h0 h1]
 cases DH n<;>rfl
theorem Qk {F:Nat}(hF:100<F){state n:List Ab}(hs:DT state=0)(ha:DT n=0):M5 F state n=some (MT state n):=by
 obtain⟨s1,s2,s3⟩:=Ja hs;obtain⟨a1,a2,a3⟩:=Ja ha;unfold M5 MT;have hk:(Ad state 0).fKind=Iv state:=rfl;have hk2:(Ad n 0).fKind=Iv n:=rfl;have hi:(Ad state 0).fInt=LS state:=rfl;have hi2:(Ad n 0).fInt=LS n:=rfl;rw[hk,hk2,hi,hi2,MH (by omega) (by omega),MH (by omega) (by omega),B0 rfl,B0 (by unfold imp;simp),B0 (by unfold imp;simp)]
 by_cases hc:(Iv state≠1∧Iv state≠3)∨Iv n≠3
 ·rw[Vu hc,Az (by
   by_cases h1:Iv state=1
   ·rw[Ve h1,Vw,Vl];have:Iv n≠3:=by omega
    simp[this]
   ·rw[Vc h1,VL,Vq]
    by_cases h3:Iv state=3
    ·have:Iv n≠3:=by omega
     simp[this]
    ·simp[h3])]
 ·rw[Vp hc,Ar (by
   have hn:Iv n=3:=by omega
   by_cases h1:Iv state=1
   ·rw[Ve h1,Vw,Vl,hn];rfl
   ·rw[Vc h1,VL,Vq];have h3:Iv state=3:=by omega
    rw[h3,hn];rfl),B0 rfl]
  have hb : -1000000000000≤LS state∧LS state≤1000000000000:=by
   by_cases h1:Iv state=1
   ·have:=s2 h1;omega
   ·exact s3 (by omega)
  have hb2:=a3 (by omega);rw[AB (by omega) (by omega),SL hF (by omega) (by omega),AF rfl]
  cases DH (LS state+LS n)<;>rfl
theorem U6 {l:List (List Ab)}(h:0<l.length):Ad l 0∈l:=PH (i:=0) h
theorem UP {l:List (List Ab)}(h:1<l.length):Ad l 1∈l:=PH (i:=1) h
theorem TE {F:Nat}{a b:List Ab}(hF:a.length<F)(hv:a.length≤1000000):L8 F a b=some (decide (a=b)):=by
 have:L8 F a b=En F a b:=by
  unfold L8
  cases En F a b<;>rfl
 rw[this];exact Hb hF (by omega)
theorem H8 {op:Am}(h:0≤CT op):op=IA∨op=D6∨op=JY∨op=IB:=by
 unfold CT at h
 by_cases h1:op=IA
 ·exact .inl h1
 ·by_cases h2:op=D6
  ·exact .inr (.inl h2)
  ·by_cases h3:op=JY
   ·exact .inr (.inr (.inl h3))
   ·by_cases h4:op=IB
    ·exact .inr (.inr (.inr h4))
    ·rw[Vp h1,Vp h2,Vp h3,Vp h4] at h;omega
theorem TK {M F:Nat}{state:List Ab}{op:At}(hS:Ix M state)(hA:Lo M op)(hM:M≤1000000)(hF:4*M+100<F)(hF2:op.fArgs.length<F):Uq F state op=some (GY state op):=by
  have hsl:=hS.hv;unfold Uq GY;rw[Dz hA hM (by omega) hF2,AF rfl]
  by_cases he:DJ op=0
  · rw[Ar (by simp[he]),Vp (by simp[he]),LB hS hM (by omega),AF rfl]
    by_cases hs:DT state=0
    · rw[Ar (by simp[hs]),Vp (by simp[hs])]
      obtain⟨_,_,e0,el,ev⟩:=Jd he;have hcs:Cw state=some state:=Do (by omega);unfold QH;rcases H8 e0 with h | h | h | h
      · rw[h,Az (by decide),hcs,AF rfl,Vp (by decide),Vp (by decide),Vp (by decide)]
        unfold HD;rw[hcs];rfl
      · have hl:op.fArgs.length=1:=by
                                            rw[h] at el;have:CT D6=1:=by decide
                                            omega
        have hcl:Cw (Ad op.fArgs 0)=some (Ad op.fArgs 0):=Do (by have:=(hA.a _ (U6 (by omega))).hv;omega);rw[h,Ar (by decide),Az (by decide),hcs,AF rfl,Vu rfl];unfold G9;rw[AK (by omega) (by omega),hcl];rfl
      · have hl:op.fArgs.length=1:=by
                                            rw[h] at el;have:CT JY=1:=by decide
                                            omega
        rw[h,Ar (by decide),Ar (by decide),Az (by decide),hcs,AF rfl,Qt (by omega) hs hl (ev _ (U6 (by omega))) (by omega),Vp (by decide),Vu rfl];rfl
      · have hl:op.fArgs.length=2:=by
                                            rw[h] at el;have:CT IB=2:=by decide
                                            omega
        have hcl:Cw (Ad op.fArgs 1)=some (Ad op.fArgs 1):=Do (by have:=(hA.a _ (UP (by omega))).hv;omega);rw[h,Ar (by decide),Ar (by decide),Ar (by decide),B0 (by decide),hcs,AF rfl,Vp (by decide),Vp (by decide),Vu rfl];unfold IQ;rw[AK (by omega) (by omega),TE (by omega) (by omega),AF rfl]
        by_cases hq:state=Ad op.fArgs 0
        · rw[Ve hq,Vu hq,Ar (by rfl),AK (by omega) (by omega),hcl];rfl
        · rw[Vc hq,Vp hq,Az (by rfl)];rfl
    · rw[Az (by simp[hs]),Vu hs]
  · rw[Az (by simp[he]),Vu he]
theorem N0 {M F:Nat}{state:List Ab}{op:At}(hS:Ix M state)(hA:Lo M op)(hM:M≤1000000)(hF:4*M+100<F)(hF2:op.fArgs.length<F):Pn F state op=some (GY state op):=by
  have hsl:=hS.hv;unfold Pn GY;rw[Dt hA hM (by omega) hF2,AF rfl]
  by_cases he:DJ op=0
  · rw[Az (by simp[he]),Vp (by simp[he]),Jo hS hM (by omega),AF rfl]
    by_cases hs:DT state=0
    · rw[Ar (by simp[hs]),Vp (by simp[hs])]
      obtain⟨_,_,e0,el,ev⟩:=Jd he;unfold QH;rcases H8 e0 with h | h | h | h
      · rw[h,Ar (by decide),Ar (by decide),Ar (by decide),Vp (by decide),Vp (by decide),Vp (by decide)]
      · have hl:op.fArgs.length=1:=by
                                            rw[h] at el;have:CT D6=1:=by decide
                                            omega
        rw[h,Az (by decide),Vu rfl,AK (by omega) (by omega)];rfl
      · have hl:op.fArgs.length=1:=by
                                            rw[h] at el;have:CT JY=1:=by decide
                                            omega
        rw[h,Ar (by decide),Az (by decide),Vp (by decide),Vu rfl,AK (by omega) (by omega),Qk (by omega) hs (ev _ (U6 (by omega)))];rfl
      · have hl:op.fArgs.length=2:=by
                                            rw[h] at el;have:CT IB=2:=by decide
                                            omega
        rw[h,Ar (by decide),Ar (by decide),Az (by decide),Vp (by decide),Vp (by decide),Vu rfl,AK (by omega) (by omega),H5 (by omega) (by omega),AF rfl]
        by_cases hq:state=Ad op.fArgs 0
        · rw[Ve hq,Vu hq,Az rfl,AK (by omega) (by omega)];rfl
        · rw[Vc hq,Vp hq,Ar rfl];rfl
    · rw[Az (by simp[hs]),Vu hs]
  · rw[Ar (by simp[he]),Az (by simp[he]),Vu he]
theorem JQ:Ef 30000=some true:=by decide +kernel
theorem Lz {F:Nat}{a:A0}(hF:a.fValue.length<F)(hv:a.fValue.length≤1000000):B2 F a a=some true:=by
 unfold B2;rw[H5 hF (by omega),Ve rfl,Ve rfl];rfl
theorem Tj {state:List Ab}{op:At}{M:Nat}(hS:Ix M state)(hA:Lo M op)(hM:1≤M):(GY state op).1.length≤M∧(GY state op).2.1.fValue.length≤M:=by
  have hsl:=hS.hv;unfold GY
  by_cases he:DJ op≠0
  · rw[Vu he];exact⟨V7 _,V7 _⟩
  · rw[Vp he]
    by_cases hs:DT state≠0
    · rw[Vu hs];exact⟨V7 _,V7 _⟩
    · rw[Vp hs]
      rw[Decidable.not_not] at he;obtain⟨_,_,e0,el,ev⟩:=Jd he;unfold QH;rcases H8 e0 with h | h | h | h
      · rw[h,Vp (by decide),Vp (by decide),Vp (by decide)];exact⟨hsl,hsl⟩
      · have hl:op.fArgs.length=1:=by
                                            rw[h] at el;have:CT D6=1:=by decide
                                            omega
        rw[h,Vu rfl];exact⟨(hA.a _ (U6 (by omega))).hv,hM⟩
      · rw[h,Vp (by decide),Vu rfl]
        unfold MT
        split
        · exact⟨hsl,V7 _⟩
        · split
          · exact⟨hM,hM⟩
          · exact⟨hsl,V7 _⟩
      · have hl:op.fArgs.length=2:=by
                                            rw[h] at el;have:CT IB=2:=by decide
                                            omega
        rw[h,Vp (by decide),Vp (by decide),Vu rfl]
        split
        · exact⟨(hA.a _ (UP (by omega))).hv,hM⟩
        · exact⟨hsl,hM⟩
theorem Oq {α:Type}[DecidableEq α]:∀{a b:List α},a.length=b.length→((a.zip b).any λp=>!decide (p.1=p.2)) = !decide (a=b)
 | [],[],_=>rfl
 | x::a,y::b,h=>by
  have ih:=Oq (a:=a) (b:=b) (by simpa using h);rw[List.zip_cons_cons,List.any_cons,ih]
  by_cases h1:x=y
  ·subst h1
   by_cases h2:a=b
   ·subst h2;simp
   ·simp[h2]
  ·simp[h1]
 | [],_::_,h=>by simp at h
 | _::_,[],h=>by simp at h
theorem LL (a b:At):a=b↔a.fEntity=b.fEntity∧a.fID=b.fID∧a.fOp=b.fOp∧a.fArgs=b.fArgs:=by
 cases a;cases b;simp
theorem K5 {M F:Nat}{a b:At}(hA:Lo M a)(hM:M≤1000000)(hF:M<F)(hF2:a.fArgs.length<F):Bz F a b=some (decide (a=b)):=by
 unfold Bz
 by_cases hc:a.fEntity=b.fEntity∧a.fID=b.fID∧a.fOp=b.fOp∧(a.fArgs.length:Int)=(b.fArgs.length:Int)
 ·rw[Ar (by simp[hc.1,hc.2.1,hc.2.2.1,hc.2.2.2])];have hl:a.fArgs.length=b.fArgs.length:=by have:=hc.2.2.2;omega
  have hn:=hA.n;rw[DA (l:=a.fArgs.zip b.fArgs) (bad:=λp=>!decide (p.1=p.2)) (u:=()) (by rw[List.length_zip];omega) (λi h=>by
   rw[List.length_zip] at h;unfold DM;have h1:i<a.fArgs.length:=by omega
   have h2:i<b.fArgs.length:=by omega
   rw[Az (Ve (by omega)),AK (by omega) (by omega),AK (by omega) (by omega),BA h1,BA h2,H5 (by have:=(hA.a _ (List.getElem_mem h1)).hv;omega) (by have:=(hA.a _ (List.getElem_mem h1)).hv;omega),AF rfl,AB (by omega) (by omega),List.getElem_zip]) (by
   unfold DM;rw[List.length_zip,Ar (Vc (by omega))]),Oq hl]
  have he:decide (a=b)=decide (a.fArgs=b.fArgs):=by
   rw[Vt,Vf,Vf,LL];exact⟨λh=>h.2.2.2,λh=>⟨hc.1,hc.2.1,hc.2.2.1,h⟩⟩
  rw[he]
  cases decide (a.fArgs=b.fArgs)<;>rfl
 ·have he : ¬ a=b:=λe=>hc (by subst e;exact⟨rfl,rfl,rfl,rfl⟩);rw[Az (by
   simp only[VI,V0,Vg]
   by_cases h1:a.fEntity=b.fEntity
   ·by_cases h2:a.fID=b.fID
    ·by_cases h3:a.fOp=b.fOp
     ·exact .inr (.inr (.inr λh4=>hc ⟨h1,h2,h3,h4⟩))
     ·exact .inr (.inr (.inl h3))
    ·exact .inr (.inl h2)
   ·exact .inl h1),Vc he]
theorem Rk:∀a:Am,BJ a a=false
 | []=>rfl
 | x::a=>by
  show Op.bytesLess (x::a) (x::a)=false;have h : ¬ x<x:=λh=>absurd h (by simp);have ih:Op.bytesLess a a=false:=Rk a;simp[Op.bytesLess,h,ih]
theorem Mr (x y:UInt8)(a b:Am):BJ (x::a) (y::b)=(decide (x<y)||(decide (x=y)&&BJ a b)):=by
 show Op.bytesLess (x::a) (y::b)=_;simp only[Op.bytesLess]
 by_cases h:x<y
 ·simp[h]
 ·by_cases e:x=y
  ·subst e;simp[h]
  ·have:y<x:=by
    rcases Nat.lt_trichotomy x.toNat y.toNat with h1 | h1 | h1
    ·exact absurd (UInt8.lt_iff_toNat_lt.2 h1) h
    ·exact absurd (UInt8.toNat_inj.1 h1) e
    ·exact UInt8.lt_iff_toNat_lt.2 h1
   simp[h,e,this]
theorem Nr:∀{a b c:Am},BJ a b=true→BJ b c=true→BJ a c=true
 | [],[],_,h,_=>by cases h
 | [],_::_,[],_,h=>by cases h
 | [],_::_,_::_,_,_=>rfl
 | _::_,[],_,h,_=>by cases h
 | _::_,_::_,[],_,h=>by cases h
 | x::a,y::b,z::c,h,h'=>by
  rw[Mr] at h h' ⊢;simp only[VI,Vf,Vj] at h h' ⊢;have t:∀{u v:UInt8},u<v↔u.toNat<v.toNat:=UInt8.lt_iff_toNat_lt;rcases h with h | ⟨rfl,h⟩
  ·rcases h' with h' | ⟨rfl,h'⟩
   ·exact .inl (t.2 (Nat.lt_trans (t.1 h) (t.1 h')))
   ·exact .inl h
  ·rcases h' with h' | ⟨rfl,h'⟩
   ·exact .inl h'
   ·exact .inr ⟨rfl,Nr h h'⟩
theorem Ns:∀(a b:Am),BJ a b=true∨a=b∨BJ b a=true
 | [],[]=>.inr (.inl rfl)
 | [],_::_=>.inl rfl
 | _::_,[]=>.inr (.inr rfl)
 | x::a,y::b=>by
  rw[Mr,Mr];simp only[VI,Vf,Vj];rcases Nat.lt_trichotomy x.toNat y.toNat with h1 | h1 | h1
  ·exact .inl (.inl (UInt8.lt_iff_toNat_lt.2 h1))
  ·have e:=UInt8.toNat_inj.1 h1;subst e;rcases Ns a b with h | rfl | h
   ·exact .inl (.inr ⟨rfl,h⟩)
   ·exact .inr (.inl rfl)
   ·exact .inr (.inr (.inr ⟨rfl,h⟩))
  ·exact .inr (.inr (.inl (UInt8.lt_iff_toNat_lt.2 h1)))
theorem Uj {a b:Am}(h:BJ a b=true):a≠b:=λe=>by subst e;rw[Rk] at h;cases h
section
variable {T : Type}
def Ms (xs:List (Am×T)):Prop:=xs.Pairwise λp q=>BJ p.1 q.1=true
theorem Ms.nil:Ms ([]:List (Am×T)):=List.Pairwise.nil
theorem Ms.nodup {xs:List (Am×T)}(h:Ms xs):(xs.map (·.1)).Nodup:=by
 rw[List.Nodup,List.pairwise_map];exact h.imp λhpq=>Uj hpq
theorem MF {xs:List (Am×T)}{k:Am}:B3 xs k=none↔∀p∈xs,p.1≠k:=by
 induction xs with
 | nil=>simp[B3]
 | cons p r ih=>
  rw[B3]
  by_cases h:p.1=k
  ·rw[Ve h];simp[h]
  ·rw[Vc h];simp[h,ih]
theorem Ly {xs:List (Am×T)}{k:Am}{v:T}(h:B3 xs k=some v):(k,v)∈xs:=by
 induction xs with
 | nil=>cases h
 | cons p r ih=>
  rw[B3] at h
  by_cases e:p.1=k
  ·rw[Ve e] at h;cases h;subst e;exact List.mem_cons_self ..
  ·rw[Vc e] at h;exact List.mem_cons_of_mem _ (ih h)
theorem Qx (xs:List (Am×T))(k k':Am)(v:T):B3 (mput xs k v) k'=bif decide (k'=k) then(B3 xs k).map (λ_=>v) else B3 xs k':=by
 induction xs with
 | nil=>cases decide (k'=k)<;>rfl
 | cons p r ih=>
  show B3 ((bif decide (p.1=k) then(k,v) else p)::mput r k v) k'=_
  by_cases h:p.1=k
  ·rw[Ve h];simp only[Vq,B3]
   by_cases e:k'=k
   ·subst e;rw[Ve rfl,h,Ve rfl];rfl
   ·rw[Vc (Ne.symm e),Vc e,ih,Vc e,h,Vc (Ne.symm e)];rfl
  ·rw[Vc h];simp only[Vl,B3];rw[ih]
   by_cases e:k'=k
   ·subst e;rw[Ve rfl,Vc h];rfl
   ·rw[Vc e]
    cases decide (p.1=k')<;>rfl
theorem Qy (xs:List (Am×T))(k k':Am)(v:T)(h:B3 xs k=none):B3 (mins k v xs) k'=bif decide (k'=k) then some v else B3 xs k':=by
 induction xs with
 | nil=>
  show(bif decide (k=k') then some v else none)=bif decide (k'=k) then some v else none
  by_cases e:k'=k
  ·rw[Ve e,Ve e.symm]
  ·rw[Vc e,Vc (Ne.symm e)]
 | cons p r ih=>
  rw[B3] at h
  by_cases hk:p.1=k
  ·rw[Ve hk] at h;cases h
  ·rw[Vc hk] at h;rw[mins]
   cases BJ k p.1 with
   | true=>
    simp only[Vq,B3]
    by_cases e:k'=k
    ·subst e;rw[Ve rfl]
     try rfl
    ·rw[Vc e,Vc (Ne.symm e)]
     try rfl
   | false=>
    simp only[Vl,B3];rw[ih h]
    by_cases e:k'=k
    ·subst e;rw[Ve rfl,Vc hk];rfl
    ·rw[Vc e]
     cases decide (p.1=k')<;>rfl
theorem Gt (xs:List (Am×T))(k k':Am)(v:T):B3 (mset xs k v) k'=bif decide (k'=k) then some v else B3 xs k':=by
 unfold mset Bu
 cases h:B3 xs k with
 | none=>exact Qy xs k k' v h
 | some w=>
  simp only[Option.isSome_some,Vq];rw[Qx,h]
  cases decide (k'=k)<;>rfl
theorem NN {k:Am}{v:T}{q:Am×T}:∀{xs:List (Am×T)},q∈mins k v xs→q=(k,v)∨q∈xs
 | [],h=>by simp[mins] at h;exact .inl h
 | p::r,h=>by
  rw[mins] at h
  cases hs:BJ k p.1 with
  | true=>rw[hs] at h;simpa using h
  | false=>
   rw[hs] at h;rcases List.mem_cons.1 h with h | h
   ·exact .inr (by rw[h];exact List.mem_cons_self ..)
   ·rcases NN h with h | h
    ·exact .inl h
    ·exact .inr (List.mem_cons_of_mem _ h)
theorem Ms.mins {k:Am}{v:T}:∀{xs:List (Am×T)},Ms xs→B3 xs k=none→Ms (mins k v xs)
 | [],_,_=>List.pairwise_singleton ..
 | p::r,h,hk=>by
  obtain⟨h1,h2⟩:=List.pairwise_cons.1 h;rw[B3] at hk
  by_cases e:p.1=k
  ·rw[Ve e] at hk;cases hk
  ·rw[Vc e] at hk;rw[Proofs.YtfbmdidnlhifjaaGreatDoor.mins]
   cases hs:BJ k p.1 with
   | true=>exact List.pairwise_cons.2 ⟨λq hq=>by
     rcases List.mem_cons.1 hq with rfl | hq
     ·exact hs
     ·exact Nr hs (h1 q hq),h⟩
   | false=>
    have hp:BJ p.1 k=true:=by
     rcases Ns p.1 k with h | h | h
     ·exact h
     ·exact absurd h e
     ·rw[h] at hs;cases hs
    exact List.pairwise_cons.2 ⟨λq hq=>by
     rcases NN hq with rfl | hq
     ·exact hp
     ·exact h1 q hq,Ms.mins h2 hk⟩
theorem Ms.mput {xs:List (Am×T)}(h:Ms xs)(k:Am)(v:T):Ms (mput xs k v):=by
 unfold Proofs.YtfbmdidnlhifjaaGreatDoor.mput;unfold Ms;rw[List.pairwise_map];refine h.imp fun {p q} hpq=>?_;have e:∀p:Am×T,(bif decide (p.1=k) then(k,v) else p).1=p.1:=λp=>by
  by_cases hp:p.1=k
  ·rw[Ve hp];exact hp.symm
  ·rw[Vc hp];rfl
 rw[e,e];exact hpq
theorem Ms.mset {xs:List (Am×T)}(h:Ms xs)(k:Am)(v:T):Ms (mset xs k v):=by
 unfold Proofs.YtfbmdidnlhifjaaGreatDoor.mset Bu
 cases hk:B3 xs k with
 | none=>exact h.mins hk
 | some w=>exact h.mput k v
theorem NK (k:Am)(v:T)(xs:List (Am×T)):(mins k v xs).length=xs.length+1:=(J1 k v xs).length_eq
theorem JN (xs:List (Am×T))(k:Am)(v:T):(mset xs k v).length=bif Bu xs k then xs.length else xs.length+1:=by
 unfold mset
 cases Bu xs k with
 | true=>simp[mput]
 | false=>simp[NK]
end
theorem SW {α β S O:Type}{l:List α}{mk:Nat→β→S}{body:S→Option (Stp S O)}(g:β→α→β)(P:Nat→β→Prop)
  (hb:∀(i:Nat) (h:i<l.length) (acc:β),P i acc→body (mk i acc)=some (.next (mk (i+1) (g acc l[i])))∧P (i+1) (g acc l[i])) :
  ∀(d i:Nat) (acc:β),i+d=l.length→P i acc→(∀n,BI body (n+d) (mk i acc)=BI body n (mk l.length ((l.drop i).foldl g acc)))∧P l.length ((l.drop i).foldl g acc):=by
 intro d
 induction d with
 | zero=>
  intro i acc h hP;obtain rfl:i=l.length:=by omega
  rw[List.drop_length];exact⟨λn=>rfl,hP⟩
 | succ d ih=>
  intro i acc h hP;have hi:i<l.length:=by omega
  obtain⟨h1,h2⟩:=hb i hi acc hP;obtain⟨h3,h4⟩:=ih (i+1) _ (by omega) h2;rw[List.drop_eq_getElem_cons hi,List.foldl_cons];refine⟨λn=>?_,h4⟩;rw[show n+(d+1)=(n+d)+1 from by omega,BI,h1];exact h3 n
theorem KJ {α β S O:Type}{l:List α}{mk:Nat→β→S}{body:S→Option (Stp S O)}(g:β→α→β)(P:Nat→β→Prop)
  (hb:∀(i:Nat) (h:i<l.length) (acc:β),P i acc→body (mk i acc)=some (.next (mk (i+1) (g acc l[i])))∧P (i+1) (g acc l[i])) {F:Nat} (hF:l.length<F) {a:β} (hP:P 0 a) :
  (∃n,BI body F (mk 0 a)=BI body (n+1) (mk l.length (l.foldl g a)))∧P l.length (l.foldl g a):=by
 obtain⟨h1,h2⟩:=SW g P hb l.length 0 a (by omega) hP;rw[List.drop_zero] at h1 h2;exact⟨⟨F-l.length-1,by rw[← h1,show F-l.length-1+1+l.length=F from by omega]⟩,h2⟩
theorem GD {α β S O:Type}{l:List α}{mk:Nat→β→S}{body:S→Option (Stp S O)}{fin:β→O}(g:β→α→β)(P:Nat→β→Prop)
  (hb:∀(i:Nat) (h:i<l.length) (acc:β),P i acc→body (mk i acc)=some (.next (mk (i+1) (g acc l[i])))∧P (i+1) (g acc l[i]))
  (he:∀acc,P l.length acc→body (mk l.length acc)=some (.out (fin acc))) {F:Nat} (hF:l.length<F) {a:β} (hP:P 0 a) :
  BI body F (mk 0 a)=some (fin (l.foldl g a))∧P l.length (l.foldl g a):=by
 obtain⟨⟨n,h1⟩,h2⟩:=KJ g P hb hF hP;exact⟨by rw[h1,BI,he _ h2],h2⟩
theorem RE {α R U:Type}{l:List α}{p:α→Bool}{ret:α→R}{body:Int→Option (Stp Int (Out R U))}{u:U}(hb:∀(i:Nat) (h:i<l.length),body (i:Int)=Bg (p l[i]) (some (.out (.ret (ret l[i])))) (some (.next ((i:Int)+1))))(he:body (l.length:Int)=some (.out (.go u))) :
  ∀(d n i:Nat),i+d=l.length→d<n→BI body n (i:Int)=some (match (l.drop i).find? p with | some x=>.ret (ret x) | none=>.go u):=by
 intro d
 induction d with
 | zero=>
  intro n i h hn;obtain⟨n,rfl⟩:∃m,n=m+1:=⟨n-1,by omega⟩
  obtain rfl:i=l.length:=by omega
  rw[BI,he,List.drop_length];rfl
 | succ d ih=>
  intro n i h hn;obtain⟨n,rfl⟩:∃m,n=m+1:=⟨n-1,by omega⟩
  have hi:i<l.length:=by omega
  rw[BI,hb i hi,List.drop_eq_getElem_cons hi,List.find?_cons]
  cases hp:p l[i] with
  | true=>rfl
  | false=>exact ih n (i+1) (by omega) (by omega)
theorem Q0 {α R U:Type}{l:List α}{p:α→Bool}{ret:α→R}{body:Int→Option (Stp Int (Out R U))}{u:U}{F:Nat}(hF:l.length<F)(hb:∀(i:Nat) (h:i<l.length),body (i:Int)=Bg (p l[i]) (some (.out (.ret (ret l[i])))) (some (.next ((i:Int)+1))))(he:body (l.length:Int)=some (.out (.go u))) :
  BI body F 0=some (match l.find? p with | some x=>.ret (ret x) | none=>.go u):=by
 have h:=RE hb he l.length F 0 (by omega) hF;rw[List.drop_zero] at h;exact h
theorem KY {α:Type}:∀(l a:List α),l.foldl (λa v=>a++[v]) a=a++l
 | [],a=>by simp
 | x::l,a=>by rw[List.foldl_cons,KY l];simp
theorem KZ {α β:Type}(p:α→Bool)(f:α→β):∀(l:List α) (a:List β),l.foldl (λa v=>bif p v then a++[f v] else a) a=a++(l.filter p).map f
 | [],a=>by simp
 | x::l,a=>by
  rw[List.foldl_cons,KZ p f l,List.filter_cons]
  cases p x<;>simp
theorem Mc {α:Type}{n:Nat}{x:Option α}(h:n≤1000000000):Bd (L4 8 n) x=x:=B0 (Ve (by omega))
theorem Hw {α:Type}{n:Nat}{x:Option α}(h:n≤1000000000):Bd (L4 120 n) x=x:=B0 (Ve (by omega))
theorem Jz {M F:Nat}{op:At}(hA:Lo M op)(hM:M≤1000000)(hF:op.fArgs.length<F):Im F op=some op:=by
 have hn:=hA.n;unfold Im;have h:=(GD (O:=Out At (List (List Ab))) (l:=op.fArgs) (mk:=λi (acc:List (List Ab))=>((i:Int),acc)) (body:=λσ=>Dy op σ.1 σ.2) (fin:=λacc=>.go acc) (λacc v=>acc++[v]) (λi acc=>acc.length=i) (λi h acc hP=>by
  refine⟨?_,by simp[hP]⟩;unfold Dy;simp only;rw[Az (Ve (by omega)),AK (by omega) (by omega),BA h,Do (by have:=(hA.a _ (List.getElem_mem h)).hv;omega),AF rfl,OQ (by simp;omega),AB (by omega) (by omega)];rfl) (λacc hP=>by unfold Dy;simp only;rw[Ar (Vc (by omega))]) hF (a:=[]) rfl).1
 have h':BI (λσ=>Dy op σ.1 σ.2) F (0,([]:List (List Ab)))=_:=h;rw[h',AF rfl,Cs,KY,VT];rfl
theorem OH {M F:Nat}{c:Aj}(hA:Lo M c.fOp)(hM:M≤1000000)(hF:c.fOp.fArgs.length<F)(hv:c.fAnswer.fValue.length≤1000000):Eo F c=some c:=by
 unfold Eo;rw[Jz hA hM hF,AF rfl,Do hv,AF rfl]
theorem QB {M F:Nat}{a b:List (List Ab)}(hA:∀v∈a,Ix M v)(hM:M≤1000000)(hF:M<F)(hn:a.length≤1000000)(hF2:a.length<F):Hv F a b=some (decide (a=b)):=by
 unfold Hv
 by_cases hl:a.length=b.length
 ·rw[Ar (by simp[hl]),DA (l:=a.zip b) (bad:=λp=>!decide (p.1=p.2)) (u:=()) (by rw[List.length_zip];omega) (λi h=>by
   rw[List.length_zip] at h;unfold E3 ME;have h1:i<a.length:=by omega
   have h2:i<b.length:=by omega
   rw[Az (Ve (by omega)),AK (by omega) (by omega),AK (by omega) (by omega),BA h1,BA h2,Hb (by have:=(hA _ (List.getElem_mem h1)).hv;omega) (by have:=(hA _ (List.getElem_mem h1)).hv;omega),AF rfl,AF rfl,AB (by omega) (by omega),List.getElem_zip]) (by
   unfold E3;rw[List.length_zip,Ar (Vc (by omega))]),Oq hl]
  cases decide (a=b)<;>rfl
 ·rw[Az (by simp;omega),Vc (λe=>hl (by rw[e]))]
theorem NH {M F:Nat}{a b:At}(hA:Lo M a)(hM:M≤1000000)(hF:M<F)(hF2:a.fArgs.length<F):NI F a b=some (decide (a=b)):=by
 unfold NI;rw[QB hA.a hM hF hA.n hF2,Option.isSome_some,IZ,IZ,IZ,B0 rfl,G5]
 congr 1
 rw[Vt,Vf,LL];simp only[Vj,Vf]
theorem Lh {α:Type}(l:List α):(l.any λ_=>false)=false:=by induction l<;>simp_all
theorem Hn {F:Nat}{a:List Am}(hF:a.length<F)(hn:a.length≤1000000):EA F a a=some true:=by
 unfold EA;rw[Ar (by simp),DA (l:=a) (bad:=λ_=>false) (u:=()) hF (λi h=>by
  unfold Ez;rw[Az (Ve (by omega)),AK (by omega) (by omega),AK (by omega) (by omega),Ar (by simp),AB (by omega) (by omega)];rfl) (by
  unfold Ez;rw[Ar (Vc (by omega))]),Lh]
 rfl
theorem NT {M F:Nat}{a:List Aj}(hF:a.length<F)(hn:a.length≤1000000)(hM:M≤1000000)(hF1:M<F)(hA:∀c∈a,Lo M c.fOp∧c.fOp.fArgs.length<F∧c.fAnswer.fValue.length≤M):In F a a=some true:=by
 unfold In;rw[Ar (by simp),DA (l:=a) (bad:=λ_=>false) (u:=()) hF (λi h=>by
  obtain⟨h1,h2,h3⟩:=hA _ (List.getElem_mem h);unfold E2;rw[Az (Ve (by omega)),AK (by omega) (by omega),AK (by omega) (by omega),BA h,K5 h1 hM hF1 h2,Lz (by omega) (by omega),Ve rfl,Ve rfl,Ve rfl,Option.isSome_some,IZ,B0 rfl,B0 rfl,G5,Ar rfl,AB (by omega) (by omega)];rfl) (by
  unfold E2;rw[Ar (Vc (by omega))]),Lh]
 rfl
theorem Ic (a:Am) : ¬ a<a:=List.lt_irrefl a
theorem LD {a b c:Am}(h:a<b)(h2:b<c):a<c:=List.lt_trans h h2
theorem PX {a b:Am}(h:a<b) : ¬ b<a:=λh2=>Ic a (LD h h2)
theorem SG (a b:Am):a<b∨a=b∨b<a:=by
 by_cases h:a<b
 ·exact .inl h
 ·by_cases h2:b<a
  ·exact .inr (.inr h2)
  ·have e1:a≤b:=h2;have e2:b≤a:=h;exact .inr (.inl (List.le_antisymm e1 e2))
theorem JG:∀(a b:List Am),a.Pairwise (· < ·)→b.Pairwise (· < ·)→(∀x,x∈a↔x∈b)→a=b
 | [],[],_,_,_=>rfl
 | [],y::b,_,_,h=>by have:=(h y).2 (by simp);simp at this
 | x::a,[],_,_,h=>by have:=(h x).1 (by simp);simp at this
 | x::a,y::b,ha,hb,h=>by
  have ha':=List.pairwise_cons.1 ha;have hb':=List.pairwise_cons.1 hb;have e:x=y:=by
   rcases List.mem_cons.1 ((h x).1 (by simp)) with e | hx
   ·exact e
   ·rcases List.mem_cons.1 ((h y).2 (by simp)) with e | hy
    ·exact e.symm
    ·exact absurd (ha'.1 y hy) (PX (hb'.1 x hx))
  subst e;have:a=b:=JG a b ha'.2 hb'.2 λz=>by
   constructor
   ·intro hz;rcases List.mem_cons.1 ((h z).1 (by simp[hz])) with e | hz2
    ·subst e;exact absurd (ha'.1 _ hz) (Ic _)
    ·exact hz2
   ·intro hz;rcases List.mem_cons.1 ((h z).2 (by simp[hz])) with e | hz2
    ·subst e;exact absurd (hb'.1 _ hz) (Ic _)
    ·exact hz2
  rw[this]
def Bs:List Am→Am→Nat
 | [],_=>0
 | y::r,x=>if y<x then Bs r x+1 else 0
theorem HN:∀(o:List Am) (x:Am),Bs o x≤o.length
 | [],_=>Vs _
 | y::r,x=>by have:=HN r x;unfold Bs;split<;>simp;omega
def L3 (o:List Am)(x:Am):List Am:=if Bs o x=o.length∨Ll o (Bs o x)≠x then o.take (Bs o x)++[x]++o.drop (Bs o x) else o
def Hd (l:List Am)(k:Nat):List Am:=(l.take k).foldl L3 []
theorem LU:∀(o:List Am) (x:Am),∀y∈o.take (Bs o x),y<x
 | [],x,y,h=>by simp at h
 | z::r,x,y,h=>by
  unfold Bs at h
  split at h
  ·rename_i hz
   rcases List.mem_cons.1 (by simpa using h) with rfl | h
   ·exact hz
   ·exact LU r x y h
  ·simp at h
theorem LV:∀(o:List Am) (x:Am),Bs o x<o.length→¬ Ll o (Bs o x)<x
 | [],x,h=>by simp[Bs] at h
 | z::r,x,h=>by
  unfold Bs at h ⊢
  by_cases hz:z<x
  ·rw[Vu hz] at h ⊢;have:=LV r x (by simpa using h);have e:Ll (z::r) ((Bs r x+1:Nat):Int)=Ll r (Bs r x):=by simp[Ll]
   rw[e];exact this
  ·rw[Vp hz];simpa[Ll] using hz
theorem OK {o:List Am}(h:o.Pairwise (· < ·))(x:Am):(L3 o x).Pairwise (· < ·)∧∀z,z∈L3 o x↔z∈o∨z=x:=by
 unfold L3
 by_cases hc:Bs o x=o.length∨Ll o (Bs o x)≠x
 ·rw[Vu hc];have hsplit:o=o.take (Bs o x)++o.drop (Bs o x):=(VN _ _).symm;have hp:=h;rw[hsplit] at hp;obtain⟨p1,p2,p3⟩:=List.pairwise_append.1 hp;have hgt:∀y∈o.drop (Bs o x),x<y:=λy hy=>by
   have hlt:Bs o x<o.length:=by
    rcases Nat.lt_or_ge (Bs o x) o.length with h' | h'
    ·exact h'
    ·rw[List.drop_of_length_le h'] at hy;simp at hy
   have hne:Ll o (Bs o x)≠x:=hc.resolve_left (by omega);have hge:=LV o x hlt;have hx:x<Ll o (Bs o x):=by
    rcases SG x (Ll o (Bs o x)) with e | e | e
    ·exact e
    ·exact absurd e.symm hne
    ·exact absurd e hge
   rw[List.drop_eq_getElem_cons hlt] at hy p2;have e0:o[Bs o x]=Ll o (Bs o x):=by simp[Ll,hlt]
   rcases List.mem_cons.1 hy with rfl | hy
   ·rw[e0];exact hx
   ·exact LD hx (by rw[← e0];exact(List.pairwise_cons.1 p2).1 y hy)
  refine⟨?_,λz=>?_⟩
  ·rw[Vz];refine List.pairwise_append.2 ⟨p1,List.pairwise_cons.2 ⟨hgt,p2⟩,λa ha b hb=>?_⟩;rcases List.mem_cons.1 hb with rfl | hb
   ·exact LU o _ a ha
   ·exact p3 a ha b hb
  ·conv=>rhs;rw[hsplit]
   simp only[List.mem_append,Vv];constructor
   ·rintro((h | h) | h)
    ·exact .inl (.inl h)
    ·exact .inr h
    ·exact .inl (.inr h)
   ·rintro((h | h) | h)
    ·exact .inl (.inl h)
    ·exact .inr h
    ·exact .inl (.inr h)
 ·rw[Vp hc];simp only[not_or,ne_eq,Decidable.not_not] at hc;refine⟨h,λz=>⟨.inl,?_⟩⟩;rintro(hz | rfl)
  ·exact hz
  ·have hlt:Bs o z<o.length:=by have:=HN o z;omega
   have e0:o[Bs o z]=Ll o (Bs o z):=by simp[Ll,hlt]
   have e1:o[Bs o z]=z:=e0.trans hc.2;have:=List.getElem_mem hlt
   rwa [e1] at this
theorem HS {ss:List (List UInt8)}{k:Nat}(h:k<ss.length):ss.take (k+1)=ss.take k++[Ll ss k]:=by
 rw[List.take_add_one,show ss[k]? =some (Ll ss k) from by simp[Ll,h]];rfl
theorem Nv {l:List Am}{k:Nat}(h:k<l.length):Hd l (k+1)=L3 (Hd l k) (Ll l k):=by
 unfold Hd;rw[HS h,List.foldl_append];rfl
theorem Ie (l:List Am):∀k,k≤l.length→(Hd l k).Pairwise (· < ·)∧(∀z,z∈Hd l k↔z∈l.take k)∧(Hd l k).length≤k
 | 0,_=>by simp[Hd]
 | k+1,hk=>by
  obtain⟨h1,h2,h3⟩:=Ie l k (by omega);have hi:=OK h1 (Ll l k);rw[Nv (by omega)];refine⟨hi.1,λz=>?_,?_⟩
  ·rw[hi.2,h2,HS (by omega),List.mem_append,Vv]
  ·unfold L3
   split
   ·simp;have:=HN (Hd l k) (Ll l k);omega
   ·omega
theorem O0 (a b:Am):BJ a b=decide (a<b):=bytesLess_eq a b
theorem Tq {α:Type}[Inhabited α]{l:List α}{x:Int}(h0:0≤x)(h:x<(l.length:Int)):l[x.toNat]? =some (Ad l x):=by
 have hx:x.toNat<l.length:=by omega
 simp[Ad,hx]
theorem Ox {α:Type}{l:List α}{k:Nat}{c:α}(h:l[k]? =some c):l.take (k+1)=l.take k++[c]:=by
 rw[List.take_add_one,h];rfl
theorem La:∀(o:List Am) (c:Am) (k:Nat),(∀y∈o.take k,y<c)→(∀z,o[k]? =some z→¬ z<c)→k≤o.length→Bs o c=k
 | [],c,k,_,_,h=>by simp at h;subst h;rfl
 | y::r,c,0,_,h2,_=>by
  unfold Bs;rw[Vp (h2 y rfl)]
 | y::r,c,k+1,h1,h2,h3=>by
  unfold Bs;rw[Vu (h1 y (by simp)),La r c k (λz hz=>h1 z (by simp[hz])) (λz hz=>h2 z (by simpa using hz)) (by simpa using h3)]
theorem RW {F:Nat}{l o:List Am}{x:Int}(h0:0≤x)(hx:x<(l.length:Int))(hF:o.length<F)(ho:o.length≤100000):∃b,BI (λσ=>EW l o x σ) F 0=some (.go ((Bs o (Ad l x):Int),b)):=by
 obtain⟨q,h1,b,h2⟩:=DW (body:=λσ=>EW l o x σ) (λk=>0≤k∧k≤(o.length:Int)∧∀y∈o.take k.toNat,y<Ad l x) (λk=>o.length-k.toNat) (λq=>∃b,q = .go ((Bs o (Ad l x):Int),b)) (λk ⟨g0,gk,ga⟩=>by
  unfold EW
  by_cases hlt:k<(o.length:Int)
  ·have hg:=Tq g0 hlt;rw[Ve hlt,B0 (by show imp true _=true;simp only[imp];rw[MH g0 hlt];rfl),B0 (by show imp true _=true;simp only[imp];rw[MH h0 hx];rfl),V3]
   cases hs:BJ (Ad o k) (Ad l x) with
   | true=>
    have hs':Ad o k<Ad l x:=by rw[O0] at hs;exact VE hs
    refine .inl ⟨k+1,by rw[Az rfl,AB (by omega) (by omega)],⟨by omega,by omega,λy hy=>?_⟩,by omega⟩;rw[show(k+1).toNat=k.toNat+1 from by omega,Ox hg] at hy;rcases List.mem_append.1 hy with hy | hy
    ·exact ga y hy
    ·rw[List.mem_singleton.1 hy];exact hs'
   | false=>
    have hs' : ¬ Ad o k<Ad l x:=by rw[O0] at hs;exact of_decide_eq_false hs
    refine .inr ⟨_,Ar rfl,false,?_⟩;rw[La o (Ad l x) k.toNat ga (λz hz=>by rw[hg] at hz;rw[← Option.some.inj hz];exact hs') (by omega),show((k.toNat:Nat):Int)=k from by omega]
  ·rw[Vc hlt,B0 (by rfl),B0 (by rfl),VH];refine .inr ⟨_,Ar rfl,false,?_⟩;rw[La o (Ad l x) k.toNat ga (λz hz=>by rw[List.getElem?_eq_none (by omega)] at hz;cases hz) (by omega),show((k.toNat:Nat):Int)=k from by omega]) F 0 ⟨Vx 0,by omega,by simp⟩ (by show o.length-0<F;omega)
 exact⟨b,by rw[h1,h2]⟩
theorem RT {l o:List Am}{x:Int}(h0:0≤x)(hx:x<(l.length:Int))(hx2:x<100000)(ho:o.length≤100000)(b:Bool):Hq l o x (Bs o (Ad l x):Int) b=some (.next (L3 o (Ad l x),x+1)):=by
 have hf:=HN o (Ad l x);unfold Hq L3 Ht;generalize Ad l x=c at *
 by_cases he:Bs o c=o.length
 ·have e1:decide (((Bs o c:Nat):Int)=(o.length:Int))=true:=Ve (by omega);rw[e1,B0 (by rfl),B0 (by rfl),Az (by rfl),Vu (.inl he)];rw[GH (by omega) (by omega),CS (by simp;omega),AK h0 hx,CS (by simp;omega),CS (by simp;omega),AB (by omega) (by omega),VK];rfl
 ·have e1:decide (((Bs o c:Nat):Int)=(o.length:Int))=false:=Vc (by omega);have e2:Ad o ((Bs o c:Nat):Int)=Ll o ((Bs o c:Nat):Int):=rfl;rw[e1,B0 (by show imp true _=true;simp only[imp];rw[MH (by omega) (by omega)];rfl),B0 (by show imp true _=true;simp only[imp];rw[MH h0 hx];rfl),e2,V6]
  by_cases hq:Ll o ((Bs o c:Nat):Int)=c
  ·rw[Vp (by rintro(h | h);exact he h;exact h hq),Ar (by rw[Ve hq];rfl),AB (by omega) (by omega)]
  ·rw[Vu (.inr hq),Az (by rw[Vc hq];rfl)];rw[GH (by omega) (by omega),CS (by simp;omega),AK h0 hx,CS (by simp;omega),CS (by simp;omega),AB (by omega) (by omega),VK];rfl
theorem NY {F:Nat}{l:List Am}(hl:l.length≤2000)(hF:2000<F):KW F l=some (Hd l l.length):=by
 unfold KW;obtain⟨o,h1,h2⟩:=DW (body:=λσ:List Am×Int=>Hu F l σ.1 σ.2) (λσ=>0≤σ.2∧σ.2≤(l.length:Int)∧σ.1=Hd l σ.2.toNat) (λσ=>l.length-σ.2.toNat) (λq=>q = .go (Hd l l.length)) (λ⟨o,x⟩ ⟨h0,hx,ho⟩=>by
  dsimp only at h0 hx ho ⊢;subst ho;unfold Hu
  by_cases hlt:x<(l.length:Int)
  ·have hlen:=(Ie l x.toNat (by omega)).2.2;obtain⟨b,hb⟩:=RW (F:=F) h0 hlt (o:=Hd l x.toNat) (by omega) (by omega);refine .inl ⟨(L3 (Hd l x.toNat) (Ad l x),x+1),?_,⟨by show 0≤x+1;omega,by show x+1≤_;omega,?_⟩,by show l.length-(x+1).toNat<l.length-x.toNat;omega⟩
   ·rw[Az (Ve hlt),AF hb,Cs];exact RT h0 hlt (by omega) (by omega) b
   ·show L3 (Hd l x.toNat) (Ad l x)=Hd l (x+1).toNat;rw[show(x+1).toNat=x.toNat+1 from by omega,Nv (by omega)];rw[show((x.toNat:Nat):Int)=x from by omega];rfl
  ·refine .inr ⟨_,Ar (Vc hlt),?_⟩;rw[show x.toNat=l.length from by omega]) F ([],0) ⟨Vx 0,by show(0:Int)≤_;omega,by simp[Hd]⟩ (by show l.length-0<F;omega)
 subst h2;rw[AF h1,Cs];rfl
theorem RZ {F:Nat}{l:List Am}{s:Am}(hF:l.length<F)(hn:l.length≤1000000):Sb F l s=some (decide (s∈l)):=by
 unfold Sb;rw[Q0 (l:=l) (p:=λx=>decide (x=s)) (ret:=λ_=>true) (u:=()) hF (λi h=>by
  unfold KX;rw[Az (Ve (by omega)),AK (by omega) (by omega),BA h,AB (by omega) (by omega)]) (by unfold KX;rw[Ar (Vc (by omega))])]
 cases hf:l.find? (λx=>decide (x=s)) with
 | some x=>
  have h1:=List.find?_some hf;have h2:=List.mem_of_find?_eq_some hf;rw[Ve (by rw[← VE h1];exact h2)];rfl
 | none=>
  have h1:=List.find?_eq_none.1 hf;rw[Vc (λhm=>h1 s hm (Ve rfl))];rfl
def Ck (cs:List Aj)(e:Am):List Aj:=cs.filter λc=>decide (c.fOp.fEntity=e)
def QD (c:Aj):Bool:=decide (0≤c.fTo)
def CY (s:List Ab)(l:List Aj):List Ab:=l.foldl (λs c=>(GY s c.fOp).1) s
def On (cs:List Aj)(e:Am):List Ab:=CY BP ((Ck cs e).filter QD)
def Uh (cs:List Aj)(e:Am):List Am:=((Ck cs e).filter λc=>decide (c.fTo<0)).map λc=>c.fOp.fID
structure Su (c:Aj):Prop where
 op:Lo 250 c.fOp
 ne:c.fOp.fArgs.length≤4
 er:DJ c.fOp=0
 an:c.fAnswer.fValue.length≤250
 to:c.fTo = -1∨0≤c.fTo
def GS (s:List Ab):Prop:=Ix 250 s∧DT s=0
theorem Sm {c:Ab}(h1:c.fStr.length≤250)(h2:BE .i64 c.fInt=true)(h3:c.fN≤9223372036854775807):Ix 250 [c]:=⟨by decide,(by show 1≤250;decide),λx hx=>by rw[List.mem_singleton.1 hx];exact⟨h1,h2,h3⟩⟩
theorem Sd:GS BP:=⟨Sm (by decide) (by decide) (by decide),by decide +kernel⟩
theorem Ts (s n:List Ab):(MT s n).1=s∨∃k,DH k=true∧(MT s n).1=[Ei k]:=by
 unfold MT
 split
 ·exact .inl rfl
 ·split
  ·rename_i h;exact .inr ⟨_,h,rfl⟩
  ·exact .inl rfl
theorem P8 {s:List Ab}{op:At}(h:GS s)(hA:Lo 250 op)(he:DJ op=0):GS (GY s op).1∧(GY s op).2.2=0∧(GY s op).2.1.fValue.length≤250:=by
  have hl:=Tj h.1 hA (by decide);refine⟨?_,?_,hl.2⟩
  · unfold GY
    rw[Vp (λx=>x he),Vp (λx=>x h.2)];obtain⟨_,_,e0,el,ev⟩:=Jd he;unfold QH;have ha:∀v∈op.fArgs,GS v:=λv hv=>⟨hA.a v hv,ev v hv⟩
    rcases H8 e0 with h1 | h1 | h1 | h1
    · rw[h1,Vp (by decide),Vp (by decide),Vp (by decide)];exact h
    · have hl:op.fArgs.length=1:=by
                                          rw[h1] at el;have:CT D6=1:=by decide
                                          omega
      rw[h1,Vu rfl];exact ha _ (U6 (by omega))
    · rw[h1,Vp (by decide),Vu rfl]
      rcases Ts s (Ad op.fArgs 0) with h2 | ⟨k,h2,h3⟩
      · rw[h2];exact h
      · rw[h3]
        have h4:=h2;unfold DH at h4;simp only[Vj,Vf] at h4;refine⟨Sm (V7 _) (IY (by show _≤k;omega) (by show k≤_;omega)) (by show(0:Int)≤_;omega),?_⟩;rw[Od (by omega) (by omega),Vu h2]
    · have hl:op.fArgs.length=2:=by
                                          rw[h1] at el;have:CT IB=2:=by decide
                                          omega
      rw[h1,Vp (by decide),Vp (by decide),Vu rfl]
      split
      · exact ha _ (UP (by omega))
      · exact h
  · unfold GY
    rw[Vp (λx=>x he),Vp (λx=>x h.2)]
theorem Sc:∀{l:List Aj} {s:List Ab},GS s→(∀c∈l,Su c)→GS (CY s l)
 | [],s,h,_=>h
 | c::l,s,h,hl=>Sc (l:=l) (P8 h (hl c List.mem_cons_self).op (hl c List.mem_cons_self).er).1 (λx hx=>hl x (List.mem_cons_of_mem _ hx))
theorem M9 {cs:List Aj}{e:Am}{c:Aj}(h:c∈Ck cs e):c∈cs∧c.fOp.fEntity=e:=by
 obtain⟨h1,h2⟩:=List.mem_filter.1 h;exact⟨h1,VE h2⟩
theorem P7 {cs:List Aj}(h:∀c∈cs,Su c)(e:Am):GS (On cs e):=Sc Sd λc hc=>h c (M9 (List.mem_filter.1 hc).1).1
theorem G4 (A B:List Aj)(e:Am):Ck (A++B) e=Ck A e++Ck B e:=List.filter_append ..
theorem CN (c:Aj)(B:List Aj)(e:Am):Ck (c::B) e=if c.fOp.fEntity=e then c::Ck B e else Ck B e:=by
 unfold Ck;rw[List.filter_cons]
 by_cases h:c.fOp.fEntity=e<;>simp[h]
theorem OW {α:Type}(l:List α)(p q:α→Bool):(l.filter p).filter q=l.filter λa=>p a&&q a:=by
 rw[List.filter_filter];congr 1;funext a;exact Bool.and_comm _ _
theorem Ob {α β:Type}(p:α→Bool)(f:β→α→β):∀(l:List α) (a:β),l.foldl (λa x=>bif p x then f a x else a) a=(l.filter p).foldl f a
 | [],a=>rfl
 | x::l,a=>by
  rw[List.foldl_cons,Ob p f l,List.filter_cons]
  cases p x<;>rfl
def UQ (cs:List Aj)(i:Nat)(r:List Am):Prop:=r.Pairwise (· < ·)∧(∀x,x∈r↔x∈(cs.take i).map λc=>c.fOp.fEntity)∧r.length≤i
section
variable {F : Nat} {t : Int} {cs : List Aj} (hF : 30000 ≤ F) (hn : cs.length ≤ 1000) (hok : ∀ c ∈ cs, Su c)
include hF hn hok
theorem K8 (e:Am):M1 F ⟨t,cs⟩ e=some (On cs e):=by
 unfold M1 Pk;rw[AF rfl];have h:=(GD (O:=Out (List Ab) (List Ab)) (l:=cs) (mk:=λi (acc:List Ab)=>(acc,(i:Int))) (body:=λσ=>DO F ⟨t,cs⟩ e σ.1 σ.2) (fin:=λacc=>.go acc) (λacc c=>bif decide (c.fOp.fEntity=e)&&decide (0≤c.fTo) then(GY acc c.fOp).1 else acc) (λi acc=>GS acc) (λi h acc hP=>by
  have hc:=hok _ (List.getElem_mem h);unfold DO Ij;simp only;rw[Az (Ve (by omega)),AK (by omega) (by omega),BA h]
  cases hq:decide ((cs[i]).fOp.fEntity=e)&&decide (0≤(cs[i]).fTo) with
  | false=>exact⟨by rw[Ar rfl,AB (by omega) (by omega)];rfl,hP⟩
  | true=>
   refine⟨?_,(P8 hP hc.op hc.er).1⟩;rw[Az rfl,N0 hP.1 hc.op (by decide) (by omega) (by have:=hc.ne;omega),AF rfl,AB (by omega) (by omega)];rfl) (λacc hP=>by unfold DO;simp only;rw[Ar (Vc (by omega))]) (F:=F) (by omega) (a:=BP) Sd).1
 have h':BI (λσ=>DO F ⟨t,cs⟩ e σ.1 σ.2) F (BP,0)=_:=h;have h2:Bo (BI (λσ=>DO F ⟨t,cs⟩ e σ.1 σ.2) F (BP,0)) (BD λν=>Ii ν)=some (On cs e):=by
  rw[h',AF rfl,Cs,Ob (λc:Aj=>decide (c.fOp.fEntity=e)&&decide (0≤c.fTo)) (λacc c=>(GY acc c.fOp).1)];unfold Ii On CY Ck QD;rw[OW]
 exact h2
omit hok in
theorem K9:∃r,M3 F ⟨t,cs⟩=some r∧UQ cs cs.length r:=by
 unfold M3;have h:=GD (O:=Out (List Am) (List Am)) (l:=cs) (mk:=λi (acc:List Am)=>(acc,(i:Int))) (body:=λσ=>E7 F ⟨t,cs⟩ σ.1 σ.2) (fin:=λacc=>.go acc) (λacc c=>bif decide (c.fOp.fEntity∈acc) then acc else Hd (acc++[c.fOp.fEntity]) (acc++[c.fOp.fEntity]).length) (UQ cs) (λi h acc hP=>by
  obtain⟨p1,p2,p3⟩:=hP;have htk:(cs.take (i+1)).map (λc=>c.fOp.fEntity)=(cs.take i).map (λc=>c.fOp.fEntity)++[(cs[i]).fOp.fEntity]:=by
   rw[List.take_add_one,Vi h,VU];rfl
  unfold E7 Ik;simp only;rw[Az (Ve (by omega)),AK (by omega) (by omega),BA h,RZ (by omega) (by omega),AF rfl]
  cases hq:decide ((cs[i]).fOp.fEntity∈acc) with
  | true=>
   refine⟨by rw[Ar (by rfl),AB (by omega) (by omega)];rfl,p1,λx=>?_,by simp only[Vq];omega⟩;simp only[Vq];rw[htk,List.mem_append,Vv,p2];refine⟨.inl,?_⟩;rintro(hx | rfl)
   ·exact hx
   ·exact(p2 _).1 (VE hq)
  | false=>
   obtain⟨q1,q2,q3⟩:=Ie (acc++[(cs[i]).fOp.fEntity]) (acc++[(cs[i]).fOp.fEntity]).length (Vs _);refine⟨?_,q1,λx=>?_,by simp only[Vl];simp at q3 ⊢;omega⟩
   ·rw[Az (by rfl),CS (by simp;omega),NY (by simp;omega) (by omega),AF rfl,AB (by omega) (by omega)];rfl
   ·simp only[Vl];rw[q2,htk,VY,List.mem_append,List.mem_append,p2]) (λacc hP=>by unfold E7;simp only;rw[Ar (Vc (by omega))]) (F:=F) (by omega) (a:=[]) ⟨List.Pairwise.nil,λx=>by simp,Vs _⟩
 have h':BI (λσ=>E7 F ⟨t,cs⟩ σ.1 σ.2) F (([]:List Am),0)=_:=h.1;rw[h',AF rfl,Cs];exact⟨_,rfl,h.2⟩
end
def Gh (e:Am):Nat→List Aj→List Int
 | _,[]=>[]
 | k,c::r=>if c.fOp.fEntity=e then(k:Int)::Gh e (k+1) r else Gh e (k+1) r
theorem Ep (e:Am):∀(A B:List Aj) (k:Nat),Gh e k (A++B)=Gh e k A++Gh e (k+A.length) B
 | [],B,k=>rfl
 | c::A,B,k=>by
  show Gh e k (c::(A++B))=_;rw[Gh,Gh,Ep e A B (k+1),show k+1+A.length=k+(c::A).length from by simp;omega]
  split<;>rfl
theorem GF (e:Am):∀(A:List Aj) (k:Nat),(Gh e k A).length=(Ck A e).length
 | [],k=>rfl
 | c::A,k=>by
  rw[Gh,CN]
  split
  ·rw[Vk,Vk,GF e A]
  ·exact GF e A _
theorem Di {α:Type}[Inhabited α](A:List α)(c:α)(B:List α):Ad (A++c::B) (A.length:Int)=c:=by simp[Ad]
theorem Gn {α:Type}(A:List α)(c c':α)(B:List α):List.set (A++c::B) A.length c'=A++c'::B:=by simp
theorem Sq {α:Type}[Inhabited α]{cs:List α}{p:Nat}(hp:p<cs.length):∃A c B,cs=A++c::B∧A.length=p∧Ad cs (p:Int)=c:=
 ⟨cs.take p,cs[p],cs.drop (p+1),by rw[← List.drop_eq_getElem_cons hp,VN],by simp;omega,BA hp⟩
theorem OU {α:Type}[Inhabited α]{cs:List α}{p q:Nat}(y:α)(hp:p<cs.length):Ad (cs.set p y) (q:Int)=if p=q then y else Ad cs (q:Int):=by
 unfold Ad;rw[VK,VR]
 by_cases h:p=q
 ·subst h;rw[Vu rfl,Vu hp,Vu rfl];rfl
 ·rw[Vp h,Vp h]
theorem MR {α:Type}[Inhabited α]{A B:List α}{q:Nat}(hq:q<A.length):Ad (A++B) (q:Int)=Ad A (q:Int):=by
 unfold Ad;rw[VK,V2 hq]
theorem P2 (e:Am):∀(B A:List Aj),(Gh e A.length B).map (Ad (A++B))=Ck B e
 | [],A=>rfl
 | c::B,A=>by
  have h:=P2 e B (A++[c]);rw[Vz,Vo] at h;have h':List.map (Ad (A++c::B)) (Gh e (A.length+1) B)=Ck B e:=h;rw[Gh,CN]
  split
  ·rw[VC,Di,h']
  ·exact h'
theorem P1 (e:Am):∀(B:List Aj) (k:Nat),∀i∈Gh e k B,(k:Int)≤i∧i<(k:Int)+(B.length:Int)
 | [],k,i,h=>by cases h
 | c::B,k,i,h=>by
  rw[Gh] at h;rw[Vk];have key:∀i∈Gh e (k+1) B,(k:Int)≤i∧i<(k:Int)+((B.length+1:Nat):Int):=λi hi=>by
   have:=P1 e B (k+1) i hi;omega
  split at h
  ·rcases List.mem_cons.1 h with rfl | h
   ·omega
   ·exact key i h
  ·exact key i h
theorem Js {e:Am}:∀{cs D O:List Aj} {c:Aj},Ck cs e=D++c::O→∃A B,cs=A++c::B∧Ck A e=D∧Ck B e=O∧c.fOp.fEntity=e
 | [],D,O,c,h=>by cases D<;>cases h
 | x::r,D,O,c,h=>by
  rw[CN] at h
  by_cases hx:x.fOp.fEntity=e
  ·rw[Vu hx] at h
   cases D with
   | nil=>cases h;exact⟨[],r,rfl,rfl,rfl,hx⟩
   | cons d D'=>
    rw[VO] at h;injection h with h1 h2
    obtain⟨A,B,e1,e2,e3,e4⟩:=Js h2;exact⟨x::A,B,by rw[e1];rfl,by rw[CN,Vu hx,e2,h1],e3,e4⟩
  ·rw[Vp hx] at h;obtain⟨A,B,e1,e2,e3,e4⟩:=Js h;exact⟨x::A,B,by rw[e1];rfl,by rw[CN,Vp hx,e2],e3,e4⟩
theorem Kl {cs:List Aj}{e:Am}(h:∀c∈cs,¬ c.fOp.fEntity=e):Ck cs e=[]:=List.filter_eq_nil_iff.2 λc hc=>by simp[h c hc]
def Dn:List Ab→List Aj→Prop
 | _,[]=>True
 | s,c::r=>c.fAnswer=(GY s c.fOp).2.1∧c.fFrom≤c.fTo∧Dn (GY s c.fOp).1 r
theorem PP:∀{D:List Aj} {s:List Ab} {c:Aj},Dn s D→c.fAnswer=(GY (CY s D) c.fOp).2.1→c.fFrom≤c.fTo→Dn s (D++[c])
 | [],s,c,_,h1,h2=>⟨h1,h2,trivial⟩
 | x::D,s,c,h,h1,h2=>⟨h.1,h.2.1,PP h.2.2 h1 h2⟩
theorem Rl (s:List Ab)(D:List Aj)(c:Aj):CY s (D++[c])=(GY (CY s D) c.fOp).1:=by
 unfold CY;rw[List.foldl_append];rfl
structure QI (en:Ai) (cs:List Aj) (e:Am):Prop where
 ex:∃D O,Ck cs e=D++O∧(∀c∈D,0≤c.fTo)∧(∀c∈O,c.fTo = -1)∧en.fDone=(D.length:Int)∧en.fState=CY BP D∧Dn BP D
 ix:en.fCalls=Gh e 0 cs
structure Mh (d:Aq) (es:List Ai) (cs:List Aj):Prop where
 now:0≤d.fNow∧d.fNow≤1073741824
 ems:Ms d.fEntities
 ent:∀e k,B3 d.fEntities e=some k→∃p:Nat,k=(p:Int)∧p<es.length∧QI (Ad es (p:Int)) cs e
 inj:∀e e' k,B3 d.fEntities e=some k→B3 d.fEntities e'=some k→e=e'
 enm:∀e,Bu d.fEntities e=true↔∃c∈cs,c.fOp.fEntity=e
 eln:d.fEntities.length≤cs.length
 cln:d.fCalls.length≤cs.length
 cal:∀id k,B3 d.fCalls id=some k→∃p:Nat,k=(p:Int)∧p<cs.length∧(Ad cs (p:Int)).fOp.fID=id
 cnm:∀c∈cs,Bu d.fCalls c.fOp.fID=true
 nod:(cs.map λc=>c.fOp.fID).Nodup
 ok:∀c∈cs,Su c
 frm:∀c∈cs,c.fFrom≤d.fNow∧c.fTo≤d.fNow
 len:cs.length≤200
theorem Tb:Mh ⟨0,[],[]⟩ [] [] where
 now:=by decide
 ems:=Ms.nil
 ent _ _ h:=by cases h
 inj _ _ _ h:=by cases h
 enm e:=⟨λh=>(by cases h),λ⟨c,h,_⟩=>(by cases h)⟩
 eln:=Vs _
 cln:=Vs _
 cal _ _ h:=by cases h
 cnm _ h:=by cases h
 nod:=List.nodup_nil
 ok _ h:=by cases h
 frm _ h:=by cases h
 len:=by decide
theorem DR {T:Type}{m:List (Am×T)}{k:Am}{z r:T}(h:B3 m k=some r):Ay m k z=r:=by unfold Ay;rw[h];rfl
theorem C4 {T:Type}{m:List (Am×T)}{k:Am}{r:T}(h:B3 m k=some r):Bu m k=true:=by unfold Bu;rw[h];rfl
theorem Cq {T:Type}{m:List (Am×T)}{k:Am}(h:B3 m k=none):Bu m k=false:=by unfold Bu;rw[h];rfl
theorem Jc {cs D O:List Aj}{e:Am}(h:Ck cs e=D++O)(hD:∀c∈D,0≤c.fTo)(hO:∀c∈O,c.fTo = -1):(Ck cs e).filter QD=D:=by
 have h1:D.filter QD=D:=List.filter_eq_self.2 λc hc=>Ve (hD c hc);have h2:O.filter QD=[]:=List.filter_eq_nil_iff.2 λc hc=>by unfold QD;rw[hO c hc];decide
 rw[h,List.filter_append,h1,h2,VB]
theorem QI.st {en:Ai}{cs:List Aj}{e:Am}(h:QI en cs e):en.fState=On cs e:=by
 obtain⟨D,O,h1,h2,h3,_,h5,_⟩:=h.ex;unfold On;rw[Jc h1 h2 h3,h5]
theorem Mh.st {d:Aq}{es:List Ai}{cs:List Aj}(h:Mh d es cs)(e:Am):GA d es cs e=some (On cs e):=by
 unfold GA
 cases hg:B3 d.fEntities e with
 | none=>
  have hh:=Cq hg;rw[hh,Ar rfl];have:Ck cs e=[]:=Kl λc hc he=>by
   have:=(h.enm e).2 ⟨c,hc,he⟩;rw[hh] at this;cases this
  unfold On;rw[this];rfl
 | some k=>
  obtain⟨p,rfl,hp,hr⟩:=h.ent e k hg;rw[C4 hg,Az rfl,DR hg,AK (by omega) (by omega),hr.st,Do (by have:=(P7 h.ok e).1.hv;omega)];rfl
section
variable {F : Nat} {d : Aq} {es : List Ai} {cs : List Aj} (hF : 30000 ≤ F) (h : Mh d es cs)
include hF h
omit h in
theorem Sl {c:Aj}(hc:Su c):Eo F c=some c:=OH hc.op (by decide) (by have:=hc.ne;omega) (by have:=hc.an;omega)
theorem HH (e:Am):GC F d es cs e=some (Ck cs e):=by
 unfold GC
 cases hg:B3 d.fEntities e with
 | none=>
  have hh:=Cq hg;rw[hh,Az (by rfl)];have:Ck cs e=[]:=Kl λc hc he=>by
   have:=(h.enm e).2 ⟨c,hc,he⟩;rw[hh] at this;cases this
  rw[this]
 | some k=>
  obtain⟨p,rfl,hp,hr⟩:=h.ent e k hg;have hmv:Ay d.fEntities e (-1)=(p:Int):=DR hg;have hl:=h.len;have hle:(Gh e 0 cs).length≤200:=by rw[GF];unfold Ck;exact Nat.le_trans (List.length_filter_le ..) hl
  have hok:=h.ok;rw[C4 hg,Ar (by rfl),hmv,AK (by omega) (by omega)];have h0:=(GD (O:=Out (List Aj) (List Aj)) (l:=Gh e 0 cs) (mk:=λi (acc:List Aj)=>(acc,(i:Int))) (body:=λσ=>D1 F d es cs e σ.1 σ.2) (fin:=λacc=>.go acc) (λacc i=>acc++[Ad cs i]) (λi acc=>acc.length≤i) (λi hi acc hP=>by
   refine⟨?_,by simp;omega⟩;obtain⟨r1,r2⟩:=P1 e cs 0 _ (List.getElem_mem hi);have hc:Su (Ad cs (Gh e 0 cs)[i]):=hok _ (by
    obtain⟨q,hq⟩:∃q:Nat,(Gh e 0 cs)[i]=(q:Int):=⟨(Gh e 0 cs)[i].toNat,by omega⟩
    rw[hq,BA (by omega)];exact List.getElem_mem _)
   unfold D1;simp only;rw[hmv,hr.ix,Az (Ve (by omega)),AK (by omega) (by omega),BA hi,B0 (Ve (by omega)),AK (by omega) (by omega)];rw[show Eo F (Aj.mk ((Ad cs (Gh e 0 cs)[i]).fOp) ((Ad cs (Gh e 0 cs)[i]).fAnswer) ((Ad cs (Gh e 0 cs)[i]).fFrom) ((Ad cs (Gh e 0 cs)[i]).fTo))=some (Ad cs (Gh e 0 cs)[i]) from Sl hF hc,AF rfl,Hw (by simp;omega),AB (by omega) (by omega)];rfl) (λacc hP=>by
   unfold D1;simp only;rw[hmv,hr.ix,Ar (Vc (by omega))]) (F:=F) (by omega) (a:=[]) (Vs _)).1
  have h':BI (λσ=>D1 F d es cs e σ.1 σ.2) F (([]:List Aj),0)=_:=h0;rw[h',AF rfl,Cs];have hfm:=KZ (λ_:Int=>true) (λi=>Ad cs i) (Gh e 0 cs) [];simp only[Vq,List.filter_eq_self.2 (λ_ _=>rfl:∀a∈Gh e 0 cs,(λ_:Int=>true) a=true)] at hfm;rw[hfm,VT];have hm:=P2 e cs [];exact congrArg some hm
theorem Hj (e:Am):D9 F d es cs e=some (Uh cs e):=by
 unfold D9;rw[HH hF h e,AF rfl];have hl:(Ck cs e).length≤200:=Nat.le_trans (List.length_filter_le ..) h.len;have h0:=(GD (O:=Out (List Am) (List Am)) (l:=Ck cs e) (mk:=λi (acc:List Am)=>(acc,(i:Int))) (body:=λσ=>Cz (Ck cs e) σ.1 σ.2) (fin:=λacc=>.go acc) (λacc c=>bif decide (c.fTo<0) then acc++[c.fOp.fID] else acc) (λi acc=>acc.length≤i) (λi hi acc hP=>by
  have hc:=(h.ok _ (M9 (List.getElem_mem hi)).1).to;have hd:decide (((Ck cs e)[i]).fTo = -1)=decide (((Ck cs e)[i]).fTo<0):=by rw[Vt];simp only[Vf];omega
  unfold Cz Dx;simp only;rw[Az (Ve (by omega)),AK (by omega) (by omega),BA hi,hd]
  cases hq:decide (((Ck cs e)[i]).fTo<0) with
  | false=>exact⟨by rw[Ar rfl,AB (by omega) (by omega)];rfl,by simp only[Vl];omega⟩
  | true=>exact⟨by rw[Az rfl,CS (by simp;omega),AB (by omega) (by omega)];rfl,by simp only[Vq];simp;omega⟩) (λacc hP=>by unfold Cz;simp only;rw[Ar (Vc (by omega))]) (F:=F) (by omega) (a:=[]) (Vs _)).1
 have h':BI (λσ=>Cz (Ck cs e) σ.1 σ.2) F (([]:List Am),0)=_:=h0;rw[h',AF rfl,Cs,KZ (λc:Aj=>decide (c.fTo<0)) (λc=>c.fOp.fID)];rfl
omit hF in
theorem RS {A B:List Aj}{c:Aj}(hs:cs=A++c::B):(∀x∈A,¬ x.fOp.fID=c.fOp.fID)∧∀x∈B,¬ x.fOp.fID=c.fOp.fID:=by
 have hn:=h.nod;rw[hs,VU,VC] at hn;obtain⟨_,n2,n3⟩:=List.nodup_append.1 hn;have n4:=List.nodup_cons.1 n2;refine⟨λx hx he=>?_,λx hx he=>n4.1 (List.mem_map.2 ⟨x,hx,he⟩)⟩;exact n3 _ (List.mem_map.2 ⟨x,hx,rfl⟩) _ List.mem_cons_self he
omit hF in
theorem Jy {r:List Am}(hr:UQ cs cs.length r):GB d es cs=some r:=by
 unfold GB;have hk:∀x,x∈d.fEntities.map (·.1)↔∃c∈cs,c.fOp.fEntity=x:=λx=>by
  rw[← h.enm x]
  cases hg:B3 d.fEntities x with
  | none=>
   rw[Cq hg];exact⟨λhm=>by obtain⟨p,hp,e⟩:=List.mem_map.1 hm;exact absurd e (MF.1 hg p hp),λhx=>by cases hx⟩
  | some k=>
   rw[C4 hg];exact⟨λ_=>rfl,λ_=>List.mem_map.2 ⟨_,Ly hg,rfl⟩⟩
 have hok:KU d.fEntities=true:=by
  unfold KU;simp only[Vj,Vf,V9];refine⟨by have:=h.eln;have:=h.len;omega,λp hp=>?_⟩;obtain⟨c,hc,e⟩:=(hk p.1).1 (List.mem_map.2 ⟨p,hp,rfl⟩);have:=(h.ok c hc).op.e;rw[e] at this;unfold Sz;simp only[Vf];omega
 rw[B0 hok];have hst:(d.fEntities.map (·.1)).Pairwise (· < ·):=List.pairwise_map.2 (h.ems.imp fun {p q} hpq=>by
  rw[O0] at hpq;exact VE hpq)
 have hmk:JO d.fEntities=d.fEntities.map (·.1):=by
  unfold JO;exact List.mergeSort_of_pairwise (hst.imp fun {a b} hab=>Ve (List.le_of_lt hab))
 rw[hmk]
 congr 1
 refine JG _ _ hst hr.1 λx=>?_;rw[hk,hr.2.1,VY,List.mem_map]
end
def OS (op:At)(now:Int):Aj:=⟨op,⟨0,[]⟩,now,-1⟩
section
variable {d : Aq} {es : List Ai} {cs : List Aj}
theorem O8 {x:Aj}{e:Am}(hx : ¬ x.fOp.fEntity=e):Ck [x] e=[]:=by rw[CN,Vp hx];rfl
theorem Pt {x:Aj}{e:Am}(hx:x.fOp.fEntity=e):Ck [x] e=[x]:=by rw[CN,Vu hx];rfl
theorem QI.other {en:Ai}{e:Am}{x:Aj}(hr:QI en cs e)(hx : ¬ x.fOp.fEntity=e):QI en (cs++[x]) e where
 ex:=by
  obtain⟨D,O,h1,h2⟩:=hr.ex;exact⟨D,O,by rw[G4,O8 hx,VB,h1],h2⟩
 ix:=by rw[Ep,Gh,Vp hx,Gh,VB,hr.ix]
theorem QI.add {en:Ai}{e:Am}{x:Aj}(hr:QI en cs e)(hx:x.fOp.fEntity=e)(ht:x.fTo = -1):QI ⟨en.fState,en.fCalls++[(cs.length:Int)],en.fDone⟩ (cs++[x]) e where
 ex:=by
  obtain⟨D,O,h1,h2,h3,h4⟩:=hr.ex;refine⟨D,O++[x],by rw[G4,Pt hx,h1,Vz],h2,λc hc=>?_,h4⟩;rcases List.mem_append.1 hc with hc | hc
  ·exact h3 c hc
  ·rw[List.mem_singleton.1 hc];exact ht
 ix:=by rw[Ep,Gh,Vu hx,Gh,hr.ix,V4]
theorem QI.new {e:Am}{x:Aj}(h0:Ck cs e=[])(hx:x.fOp.fEntity=e)(ht:x.fTo = -1):QI ⟨BP,[(cs.length:Int)],0⟩ (cs++[x]) e where
 ex:=⟨[],[x],by rw[G4,Pt hx,h0],λc hc=>(by cases hc),λc hc=>(by rw[List.mem_singleton.1 hc];exact ht),rfl,rfl,trivial⟩
 ix:=by
  have:Gh e 0 cs=[]:=List.length_eq_zero_iff.1 (by rw[GF,h0];rfl);rw[Ep,this,Gh,Vu hx,Gh,V4];rfl
theorem P3 (h:Mh d es cs)(hlen:cs.length<200){op:At}{now:Int}(ho:Lo 250 op)(hne:op.fArgs.length≤4)(he:DJ op=0)(hnow:d.fNow≤now∧now≤1073741824)(hid:B3 d.fCalls op.fID=none)
  {fE:List (Am×Int)} {es':List Ai} (ems:Ms fE) (ent:∀e k,B3 fE e=some k→∃p:Nat,k=(p:Int)∧p<es'.length∧QI (Ad es' (p:Int)) (cs++[OS op now]) e)
  (inj:∀e e' k,B3 fE e=some k→B3 fE e'=some k→e=e') (enm:∀e,Bu fE e=true↔(∃c∈cs,c.fOp.fEntity=e)∨op.fEntity=e) (eln:fE.length≤cs.length+1) :
  Mh ⟨now,fE,mset d.fCalls op.fID (cs.length:Int)⟩ es' (cs++[OS op now]) where
 now:=by have:=h.now;exact⟨by show 0≤now;omega,hnow.2⟩
 ems:=ems
 ent:=ent
 inj:=inj
 enm e:=by
  rw[enm e];constructor
  ·rintro(⟨c,hc,he⟩ | he)
   ·exact⟨c,List.mem_append_left _ hc,he⟩
   ·exact⟨OS op now,by simp,he⟩
  ·rintro⟨c,hc,he⟩;rcases List.mem_append.1 hc with hc | hc
   ·exact .inl ⟨c,hc,he⟩
   ·rw[List.mem_singleton.1 hc] at he;exact .inr he
 eln:=by rw[Vo];exact eln
 cln:=by
  rw[Vo,JN,Cq hid];have:=h.cln;simp only[Vl,Vk,V8];omega
 cal id k hk:=by
  have hk:B3 (mset d.fCalls op.fID (cs.length:Int)) id=some k:=hk;rw[Gt] at hk
  by_cases e:id=op.fID
  ·rw[Ve e,Vq] at hk
   cases hk
   exact⟨cs.length,rfl,by simp,by rw[Di];exact e.symm⟩
  ·rw[Vc e,Vl] at hk;obtain⟨p,h1,h2,h3⟩:=h.cal id k hk;exact⟨p,h1,by simp;omega,by rw[MR h2];exact h3⟩
 cnm c hc:=by
  show Bu (mset d.fCalls op.fID (cs.length:Int)) c.fOp.fID=true;unfold Bu;rw[Gt]
  by_cases e:c.fOp.fID=op.fID
  ·rw[Ve e];rfl
  ·rw[Vc e];rcases List.mem_append.1 hc with hc | hc
   ·exact h.cnm c hc
   ·rw[List.mem_singleton.1 hc] at e;exact absurd rfl e
 nod:=by
  rw[VU];refine List.nodup_append.2 ⟨h.nod,by simp,λa ha b hb e=>?_⟩;obtain⟨c,hc,rfl⟩:=List.mem_map.1 ha;have hb:b=op.fID:=by simpa[OS] using hb
  have:=h.cnm c hc;rw[e,hb,Cq hid] at this;cases this
 ok c hc:=by
  rcases List.mem_append.1 hc with hc | hc
  ·exact h.ok c hc
  ·rw[List.mem_singleton.1 hc];exact⟨ho,hne,he,V7 _,.inl rfl⟩
 frm c hc:=by
  show c.fFrom≤now∧c.fTo≤now;rcases List.mem_append.1 hc with hc | hc
  ·have:=h.frm c hc;omega
  ·rw[List.mem_singleton.1 hc];have:=h.now;exact⟨Vx _,by show -1≤now;omega⟩
 len:=by simp;omega
theorem RP (h:Mh d es cs){now:Int}(hnow:d.fNow≤now∧now≤1073741824):Mh ⟨now,d.fEntities,d.fCalls⟩ es cs:=
 { h with now:=(by have:=h.now;exact⟨by show 0≤now;omega,hnow.2⟩),frm:=λc hc=>(by have:=h.frm c hc;show c.fFrom≤now∧c.fTo≤now;omega) }
theorem RQ (h:Mh d es cs){e:Am}{p:Nat}{now:Int}(hnow:d.fNow≤now∧now≤1073741824)(hg:B3 d.fEntities e=some (p:Int))(hp:p<es.length){A B D O:List Aj}{c:Aj}(hs:cs=A++c::B)(hA:Ck A e=D)(hB:Ck B e=O)(hce:c.fOp.fEntity=e)
  (hD:∀x∈D,0≤x.fTo) (hO:∀x∈O,x.fTo = -1) (hDn:Dn BP D) (hix:(Ad es (p:Int)).fCalls=Gh e 0 cs) (hc0:GS (CY BP D)) :
  Mh ⟨now,d.fEntities,d.fCalls⟩ (es.set p ⟨(GY (CY BP D) c.fOp).1,(Ad es (p:Int)).fCalls,(D.length:Int)+1⟩) (A++⟨c.fOp,(GY (CY BP D) c.fOp).2.1,c.fFrom,now⟩::B):=by
 have hc:Su c:=h.ok c (by rw[hs];simp);have hfr:=h.frm c (by rw[hs];simp);have hn0:=h.now;have hdo:=P8 hc0 hc.op hc.er;have hmem:∀x,x∈A++(⟨c.fOp,(GY (CY BP D) c.fOp).2.1,c.fFrom,now⟩:Aj)::B→x∈cs∨x=⟨c.fOp,(GY (CY BP D) c.fOp).2.1,c.fFrom,now⟩:=λx hx=>by
  rw[hs];simp only[List.mem_append,VG] at hx ⊢;rcases hx with hx | hx | hx
  ·exact .inl (.inl hx)
  ·exact .inr hx
  ·exact .inl (.inr (.inr hx))
 have hset:A++(⟨c.fOp,(GY (CY BP D) c.fOp).2.1,c.fFrom,now⟩:Aj)::B=cs.set A.length ⟨c.fOp,(GY (CY BP D) c.fOp).2.1,c.fFrom,now⟩:=by rw[hs,Gn]
 have hAl:A.length<cs.length:=by rw[hs];simp
 have hat:Ad cs (A.length:Int)=c:=by rw[hs];exact Di A c B
 refine { now:=⟨by show 0≤now;omega,hnow.2⟩,ems:=h.ems,inj:=h.inj,eln:=by rw[hset,VM];exact h.eln,cln:=by rw[hset,VM];exact h.cln,len:=by rw[hset,VM];exact h.len,ent:=?_,enm:=?_,cal:=?_,cnm:=?_,nod:=?_,ok:=?_,frm:=?_ }
 ·intro e' k hk;have hk:B3 d.fEntities e'=some k:=hk;obtain⟨q,rfl,hq,hr⟩:=h.ent e' k hk;refine⟨q,rfl,by rw[VM];exact hq,?_⟩;rw[OU _ hp]
  by_cases hpq:p=q
  ·subst hpq;obtain rfl:e'=e:=h.inj _ _ _ hk hg;rw[Vu rfl];refine⟨⟨D++[⟨c.fOp,(GY (CY BP D) c.fOp).2.1,c.fFrom,now⟩],O,?_,λx hx=>?_,hO,by simp,by rw[Rl],PP hDn rfl (by show c.fFrom≤now;omega)⟩,?_⟩
   ·rw[G4,CN,Vu hce,hA,hB,Vz];rfl
   ·rcases List.mem_append.1 hx with hx | hx
    ·exact hD x hx
    ·rw[List.mem_singleton.1 hx];show 0≤now;omega
   ·show(Ad es (p:Int)).fCalls=_;rw[hix,hs,Ep,Ep,Gh,Gh]
  ·rw[Vp hpq];have hne : ¬ c.fOp.fEntity=e':=λhe=>by
    have h1:e'=e:=he.symm.trans hce;subst h1;rw[hg] at hk;exact hpq (by have:=Option.some.inj hk;omega)
   obtain⟨D',O',x1,x2⟩:=hr.ex;refine⟨⟨D',O',?_,x2⟩,?_⟩
   ·rw[← x1,hs,G4,G4,CN,CN,Vp hne,Vp hne]
   ·rw[hr.ix,hs,Ep,Ep,Gh,Gh,Vp hne]
 ·intro e';show Bu d.fEntities e'=true↔_;rw[h.enm e'];constructor
  ·rintro⟨x,hx,he⟩;rw[hs] at hx;simp only[List.mem_append,VG] at hx;rcases hx with hx | rfl | hx
   ·exact⟨x,by simp[hx],he⟩
   ·exact⟨⟨x.fOp,(GY (CY BP D) x.fOp).2.1,x.fFrom,now⟩,by simp,he⟩
   ·exact⟨x,by simp[hx],he⟩
  ·rintro⟨x,hx,he⟩;rcases hmem x hx with hx | rfl
   ·exact⟨x,hx,he⟩
   ·exact⟨c,by rw[hs];simp,he⟩
 ·intro id k hk;obtain⟨q,h1,h2,h3⟩:=h.cal id k hk;refine⟨q,h1,by rw[hset,VM];exact h2,?_⟩;rw[hset,OU _ hAl]
  by_cases hq:A.length=q
  ·subst hq;rw[Vu rfl];rw[hat] at h3;exact h3
  ·rw[Vp hq];exact h3
 ·intro x hx;show Bu d.fCalls x.fOp.fID=true;rcases hmem x hx with hx | rfl
  ·exact h.cnm x hx
  ·exact h.cnm c (by rw[hs];simp)
 ·have hn:=h.nod;rw[hs,VU,VC] at hn;rw[VU,VC];exact hn
 ·intro x hx;rcases hmem x hx with hx | rfl
  ·exact h.ok x hx
  ·exact⟨hc.op,hc.ne,hc.er,hdo.2.2,.inr (by show 0≤now;omega)⟩
 ·intro x hx;show x.fFrom≤now∧x.fTo≤now;rcases hmem x hx with hx | rfl
  ·have:=h.frm x hx;omega
  ·exact⟨by show c.fFrom≤now;omega,Vx _⟩
end
theorem Ol {α:Type}[Inhabited α]{A B:List α}{i:Nat}(hi:i<A.length):Ad (A++B) (i:Int)=A[i]:=by rw[MR hi,BA hi]
section
variable {F : Nat} {d : Aq} {es : List Ai} {cs : List Aj} (hF : 30000 ≤ F) (h : Mh d es cs)
include hF h
theorem Rs {op:At}(hA:Lo 250 op)(hne:op.fArgs.length≤4)(he:DJ op=0){now:Int}(hnow:d.fNow≤now∧now≤1073741824){p:Nat}(hp:p<cs.length)(hid:(Ad cs (p:Int)).fOp.fID=op.fID) :
  Eb F ⟨d.fNow,cs⟩ op now=some (if (Ad cs (p:Int)).fOp=op then(0,⟨now,cs⟩) else(19,⟨d.fNow,cs⟩)):=by
 have hn0:=h.now;have hl:=h.len;obtain⟨A,c,B,hs,hAl,hc0⟩:=Sq hp;rw[hc0] at hid ⊢;obtain⟨i1,i2⟩:=RS h hs;have hc:Su c:=h.ok c (by rw[hs];simp);unfold Eb;rw[Dt hA (by decide) (by omega) (by omega),AF rfl,he,Ar (by rfl),Ar (by rw[Vc (by omega),Vc (by omega)];rfl),Ar (Vc (by show ¬ now<d.fNow;omega))];obtain⟨⟨n,hlop⟩,_⟩:=KJ (O:=Out (Int×AE) Bool) (l:=A) (mk:=λi (acc:Bool)=>(acc,(i:Int))) (body:=λσ=>Cb F ⟨d.fNow,cs⟩ op now σ.1 σ.2) (λacc x=>bif acc then true else decide (x.fOp.fEntity=op.fEntity)) (λ_ _=>True) (λi hi acc _=>by
  refine⟨?_,trivial⟩;have hnid : ¬ (A[i]).fOp.fID=op.fID:=λe=>i1 _ (List.getElem_mem hi) (by rw[e,hid]);have hat:Ad cs (i:Int)=A[i]:=by rw[hs];exact Ol hi
  have hlt:(i:Int)<(cs.length:Int):=by rw[hs];simp;omega
  unfold Cb EP;simp only;rw[Az (Ve hlt),AK (by omega) hlt,hat,Ar (Vc hnid)]
  cases acc with
  | true=>rw[Az rfl,AB (by omega) (by omega)];rfl
  | false=>rw[Ar rfl,AB (by omega) (by omega)];rfl) (F:=F) (by rw[hs] at hl;simp at hl;omega) (a:=false) trivial
 have hlop':BI (λσ=>Cb F ⟨d.fNow,cs⟩ op now σ.1 σ.2) F (false,0)=_:=hlop;rw[hlop',BI];have hat:Ad cs (A.length:Int)=c:=by rw[hAl];exact hc0
 have hlt:(A.length:Int)<(cs.length:Int):=by omega
 generalize A.foldl _ false=acc;have hb:Cb F ⟨d.fNow,cs⟩ op now acc (A.length:Int)=some (.out (.ret (if c.fOp=op then(0,⟨now,cs⟩) else(19,⟨d.fNow,cs⟩)))):=by
  unfold Cb;simp only;rw[Az (Ve hlt),AK (by omega) hlt,hat,Az (Ve hid),K5 hc.op (by decide) (by omega) (by have:=hc.ne;omega),AF rfl]
  by_cases e:c.fOp=op
  ·rw[Ve e,Ar (by rfl),Vu e]
  ·rw[Vc e,Az (by rfl),Vp e]
 rw[hb];rfl
theorem Rr {op:At}(hA:Lo 250 op)(hne:op.fArgs.length≤4)(he:DJ op=0){now:Int}(hnow:d.fNow≤now∧now≤1073741824)(hid:∀c∈cs,¬ c.fOp.fID=op.fID) :
  Eb F ⟨d.fNow,cs⟩ op now=some (0,⟨now,cs++[OS op now]⟩):=by
 have hn0:=h.now;have hl:=h.len;unfold Eb;rw[Dt hA (by decide) (by omega) (by omega),AF rfl,he,Ar (by rfl),Ar (by rw[Vc (by omega),Vc (by omega)];rfl),Ar (Vc (by show ¬ now<d.fNow;omega))];have hlop:=(GD (O:=Out (Int×AE) Bool) (l:=cs) (mk:=λi (acc:Bool)=>(acc,(i:Int))) (body:=λσ=>Cb F ⟨d.fNow,cs⟩ op now σ.1 σ.2) (fin:=λacc=>.go acc) (λacc x=>bif acc then true else decide (x.fOp.fEntity=op.fEntity)) (λ_ _=>True) (λi hi acc _=>by
  refine⟨?_,trivial⟩;unfold Cb EP;simp only;rw[Az (Ve (by omega)),AK (by omega) (by omega),BA hi,Ar (Vc (hid _ (List.getElem_mem hi)))]
  cases acc with
  | true=>rw[Az rfl,AB (by omega) (by omega)];rfl
  | false=>rw[Ar rfl,AB (by omega) (by omega)];rfl) (λacc _=>by unfold Cb;simp only;rw[Ar (Vc (by omega))]) (F:=F) (by omega) (a:=false) trivial).1
 have hlop':BI (λσ=>Cb F ⟨d.fNow,cs⟩ op now σ.1 σ.2) F (false,0)=_:=hlop;rw[hlop',AF rfl,Cs];generalize cs.foldl _ false=acc;unfold JJ EO;simp only;rw[Ar (Vc (by omega))];obtain⟨r,hr,hr2⟩:=K9 (t:=d.fNow) hF (show cs.length≤1000 by omega);have h3:=hr2.2.2
 cases acc with
 | true=>rw[Ar (by rfl),Ar rfl,Hw (by simp;omega)];rfl
 | false=>rw[Az (by rfl),hr,AF rfl,Ar (Vc (by omega)),Hw (by simp;omega)];rfl
theorem Rh (hlen:cs.length<200){op:At}(hA:Lo 250 op)(hne:op.fArgs.length≤4)(now:Int) :
  ∃r d' es' cs',Cg F d es cs op now=some (r,d',es',cs')∧Eb F ⟨d.fNow,cs⟩ op now=some (r,⟨d'.fNow,cs'⟩)∧Mh d' es' cs'∧cs'.length≤cs.length+1∧(¬ r=0→d'=d∧es'=es∧cs'=cs):=by
 have hn0:=h.now;have hl:=h.len
 by_cases he:DJ op=0
 ·by_cases ht:now<0∨1073741824<now
  ·have hb:(decide (now<0)||decide (1073741824<now))=true:=by simpa using ht
   refine⟨2,d,es,cs,?_,?_,h,by omega,λ_=>⟨rfl,rfl,rfl⟩⟩
   ·unfold Cg;rw[Dz hA (by decide) (by omega) (by omega),AF rfl,he,Ar (by rfl),Az hb]
   ·unfold Eb;rw[Dt hA (by decide) (by omega) (by omega),AF rfl,he,Ar (by rfl),Az hb]
  ·have hb:(decide (now<0)||decide (1073741824<now))=false:=by simp only[VA,Vg];omega
   by_cases ht2:now<d.fNow
   ·refine⟨11,d,es,cs,?_,?_,h,by omega,λ_=>⟨rfl,rfl,rfl⟩⟩
    ·unfold Cg;rw[Dz hA (by decide) (by omega) (by omega),AF rfl,he,Ar (by rfl),Ar hb,Az (Ve ht2)]
    ·unfold Eb;rw[Dt hA (by decide) (by omega) (by omega),AF rfl,he,Ar (by rfl),Ar hb,Az (Ve ht2)]
   ·have hnow:d.fNow≤now∧now≤1073741824:=by omega
    cases hg:B3 d.fCalls op.fID with
    | some k=>
     obtain⟨p,rfl,hp,hid⟩:=h.cal _ _ hg;have hc:Su (Ad cs (p:Int)):=h.ok _ (by rw[BA hp];exact List.getElem_mem hp);have hr:=Rs hF h hA hne he hnow hp hid
     by_cases e:(Ad cs (p:Int)).fOp=op
     ·refine⟨0,⟨now,d.fEntities,d.fCalls⟩,es,cs,?_,by rw[hr,Vu e],RP h hnow,by omega,λx=>absurd rfl x⟩;unfold Cg;rw[Dz hA (by decide) (by omega) (by omega),AF rfl,he,Ar (by rfl),Ar hb,Ar (Vc ht2),C4 hg,Az rfl,DR hg,B0 (Ve (by omega)),AK (by omega) (by omega),NH hc.op (by decide) (by omega) (by have:=hc.ne;omega),AF rfl,Ve e,Ar (by rfl)]
     ·refine⟨19,d,es,cs,?_,by rw[hr,Vp e],h,by omega,λ_=>⟨rfl,rfl,rfl⟩⟩;unfold Cg;rw[Dz hA (by decide) (by omega) (by omega),AF rfl,he,Ar (by rfl),Ar hb,Ar (Vc ht2),C4 hg,Az rfl,DR hg,B0 (Ve (by omega)),AK (by omega) (by omega),NH hc.op (by decide) (by omega) (by have:=hc.ne;omega),AF rfl,Vc e,Az (by rfl)]
    | none=>
     have hnid:∀c∈cs,¬ c.fOp.fID=op.fID:=λc hc e=>by
      have:=h.cnm c hc;rw[e,Cq hg] at this;cases this
     have hr:=Rr hF h hA hne he hnow hnid;have hx1:=h.cln;have hx2:=h.eln;have hfull:∀b:Bool,((decide ((d.fCalls.length:Int)=256))||(b&&(decide ((d.fEntities.length:Int)=256))))=false:=λb=>by
      rw[Vc (by omega),Vc (by omega),VF];rfl
     cases hge:B3 d.fEntities op.fEntity with
     | none=>
      have hh:=Cq hge;have hown:Ck cs op.fEntity=[]:=Kl λc hc e=>by
       have:=(h.enm op.fEntity).2 ⟨c,hc,e⟩;rw[hh] at this;cases this
      refine⟨0,⟨now,mset d.fEntities op.fEntity (es.length:Int),mset d.fCalls op.fID (cs.length:Int)⟩,es++[⟨BP,[(cs.length:Int)],0⟩],cs++[OS op now],?_,hr,?_,by simp,λx=>absurd rfl x⟩
      ·unfold Cg LA;rw[Dz hA (by decide) (by omega) (by omega),AF rfl,he,Ar (by rfl),Ar hb,Ar (Vc ht2),Cq hg,Ar rfl,Ar (hfull _),hh,Az (by rfl),AF rfl,Jz hA (by decide) (by omega),AF rfl,Di,AK (by omega) (by simp;omega),Mc (by simp),VK,Gn];rfl
      ·refine P3 h hlen hA hne he hnow hg (h.ems.mset _ _) ?_ ?_ ?_ (by rw[JN,hh];simp only[Vl];omega)
       ·intro e k hk;rw[Gt] at hk
        by_cases ee:e=op.fEntity
        ·subst ee;rw[Ve rfl,Vq] at hk
         cases hk
         exact⟨es.length,rfl,by simp,by rw[Di];exact QI.new hown rfl rfl⟩
        ·rw[Vc ee,Vl] at hk;obtain⟨p,h1,h2,h3⟩:=h.ent e k hk;exact⟨p,h1,by simp;omega,by rw[MR h2];exact h3.other (λx=>ee x.symm)⟩
       ·intro e e' k hk hk';rw[Gt] at hk hk';have key:∀x,B3 d.fEntities x=some (es.length:Int)→False:=λx hx=>by
         obtain⟨p,h1,h2,_⟩:=h.ent x _ hx;omega
        by_cases ee:e=op.fEntity
        ·rw[Ve ee,Vq] at hk
         cases hk
         by_cases ee':e'=op.fEntity
         ·rw[ee,ee']
         ·rw[Vc ee',Vl] at hk';exact(key _ hk').elim
        ·rw[Vc ee,Vl] at hk
         by_cases ee':e'=op.fEntity
         ·rw[Ve ee',Vq] at hk'
          cases hk'
          exact(key _ hk).elim
         ·rw[Vc ee',Vl] at hk';exact h.inj _ _ _ hk hk'
       ·intro e;rw[← h.enm e];unfold Bu;rw[Gt]
        by_cases ee:e=op.fEntity
        ·rw[Ve ee];exact⟨λ_=>.inr ee.symm,λ_=>rfl⟩
        ·rw[Vc ee];exact⟨.inl,λx=>x.resolve_right λy=>ee y.symm⟩
     | some k=>
      obtain⟨p,rfl,hp,hrec⟩:=h.ent _ _ hge;have hixl:(Ad es (p:Int)).fCalls.length≤200:=by rw[hrec.ix,GF];exact Nat.le_trans (List.length_filter_le ..) hl
      refine⟨0,⟨now,d.fEntities,mset d.fCalls op.fID (cs.length:Int)⟩,es.set p ⟨(Ad es (p:Int)).fState,(Ad es (p:Int)).fCalls++[(cs.length:Int)],(Ad es (p:Int)).fDone⟩,cs++[OS op now],?_,hr,?_,by simp,λx=>absurd rfl x⟩
      ·unfold Cg;rw[Dz hA (by decide) (by omega) (by omega),AF rfl,he,Ar (by rfl),Ar hb,Ar (Vc ht2),Cq hg,Ar rfl,Ar (hfull _),C4 hge,Ar (by rfl),Jz hA (by decide) (by omega),AF rfl,DR hge,AK (by omega) (by omega),Mc (by simp;omega),VK];rfl
      ·refine P3 h hlen hA hne he hnow hg h.ems ?_ h.inj ?_ (by omega)
       ·intro e k hk;obtain⟨q,h1,h2,h3⟩:=h.ent e k hk;refine⟨q,h1,by rw[VM];exact h2,?_⟩;rw[OU _ hp]
        by_cases hpq:p=q
        ·subst hpq;rw[Vu rfl];obtain rfl:e=op.fEntity:=h.inj _ _ _ (by rw[hk,h1]) hge;exact h3.add rfl rfl
        ·rw[Vp hpq];refine h3.other λx=>hpq ?_;have x:op.fEntity=e:=x;rw[← x,hge] at hk;have:=Option.some.inj hk;omega
       ·intro e;rw[h.enm e];refine⟨.inl,?_⟩;rintro(x | rfl)
        ·exact x
        ·exact(h.enm _).1 (C4 hge)
 ·refine⟨DJ op,d,es,cs,?_,?_,h,by omega,λ_=>⟨rfl,rfl,rfl⟩⟩
  ·unfold Cg;rw[Dz hA (by decide) (by omega) (by omega),AF rfl,Az (by rw[Vc he];rfl)]
  ·unfold Eb;rw[Dt hA (by decide) (by omega) (by omega),AF rfl,Az (by rw[Vc he];rfl)]
end
def JC:Aj:=⟨⟨[],[],[],[]⟩,⟨0,[]⟩,0,0⟩
section
variable {F : Nat} {d : Aq} {es : List Ai} {cs : List Aj} (hF : 30000 ≤ F) (h : Mh d es cs)
include hF h
theorem K4 {e:Am}{now:Int}(hnow:d.fNow≤now∧now≤1073741824)(hno:∀c∈Ck cs e,0≤c.fTo):Ih F ⟨d.fNow,cs⟩ e now=some (JC,false,⟨d.fNow,cs⟩):=by
 have hn0:=h.now;have hl:=h.len;unfold Ih;rw[Ar (by rw[Vc (by omega),Vc (by omega),Vc (show ¬ now<d.fNow by omega)];rfl),K8 hF (by omega) h.ok,AF rfl];have hlop:=(GD (O:=Out (Aj×Bool×AE) Unit) (l:=cs) (mk:=λi (_:Unit)=>(i:Int)) (body:=λσ=>Cu F ⟨d.fNow,cs⟩ e now (On cs e) σ) (fin:=λacc=>.go acc) (λacc _=>acc) (λ_ _=>True) (λi hi acc _=>by
  refine⟨?_,trivial⟩;have hb:(decide ((cs[i]).fOp.fEntity=e)&&decide ((cs[i]).fTo<0))=false:=by
   by_cases he:(cs[i]).fOp.fEntity=e
   ·have:=hno _ (List.mem_filter.2 ⟨List.getElem_mem hi,Ve he⟩);rw[Vc (show ¬ (cs[i]).fTo<0 by omega),VF]
   ·rw[Vc he,VH]
  unfold Cu;simp only;rw[Az (Ve (by omega)),AK (by omega) (by omega),BA hi,hb,Ar rfl,AB (by omega) (by omega)];rfl) (λacc _=>by unfold Cu;simp only;rw[Ar (Vc (by omega))]) (F:=F) (by omega) (a:=()) trivial).1
 have hlop':BI (λσ=>Cu F ⟨d.fNow,cs⟩ e now (On cs e) σ) F 0=_:=hlop;rw[hlop',AF rfl,Cs];rfl
theorem O2 {e:Am}{now:Int}(hnow:d.fNow≤now∧now≤1073741824){A B D O:List Aj}{c:Aj}(hs:cs=A++c::B)(hA:Ck A e=D)(hB:Ck B e=O)(hce:c.fOp.fEntity=e)(hD:∀x∈D,0≤x.fTo)(hO:∀x∈O,x.fTo = -1)(hc1:c.fTo = -1) :
  Ih F ⟨d.fNow,cs⟩ e now=some (⟨c.fOp,(GY (CY BP D) c.fOp).2.1,c.fFrom,now⟩,true,⟨now,A++⟨c.fOp,(GY (CY BP D) c.fOp).2.1,c.fFrom,now⟩::B⟩):=by
 have hn0:=h.now;have hl:=h.len;have hc:Su c:=h.ok c (by rw[hs];simp);have hst:On cs e=CY BP D:=by
  unfold On;rw[Jc (D:=D) (O:=c::O) (by rw[hs,G4,CN,Vu hce,hA,hB]) hD (λx hx=>by
   rcases List.mem_cons.1 hx with rfl | hx
   ·exact hc1
   ·exact hO x hx)]
 have hgs:GS (CY BP D):=by rw[← hst];exact P7 h.ok e
 unfold Ih;rw[Ar (by rw[Vc (by omega),Vc (by omega),Vc (show ¬ now<d.fNow by omega)];rfl),K8 hF (by omega) h.ok,AF rfl,hst];obtain⟨⟨n,hlop⟩,_⟩:=KJ (O:=Out (Aj×Bool×AE) Unit) (l:=A) (mk:=λi (_:Unit)=>(i:Int)) (body:=λσ=>Cu F ⟨d.fNow,cs⟩ e now (CY BP D) σ) (λacc _=>acc) (λ_ _=>True) (λi hi acc _=>by
  refine⟨?_,trivial⟩;have hat:Ad cs (i:Int)=A[i]:=by rw[hs];exact Ol hi
  have hlt:(i:Int)<(cs.length:Int):=by rw[hs];simp;omega
  have hb:(decide ((A[i]).fOp.fEntity=e)&&decide ((A[i]).fTo<0))=false:=by
   by_cases he:(A[i]).fOp.fEntity=e
   ·have:=hD (A[i]) (by rw[← hA];exact List.mem_filter.2 ⟨List.getElem_mem hi,Ve he⟩);rw[Vc (show ¬ (A[i]).fTo<0 by omega),VF]
   ·rw[Vc he,VH]
  unfold Cu;simp only;rw[Az (Ve hlt),AK (by omega) hlt,hat,hb,Ar rfl,AB (by omega) (by omega)];rfl) (F:=F) (by rw[hs] at hl;simp at hl;omega) (a:=()) trivial
 have hlop':BI (λσ=>Cu F ⟨d.fNow,cs⟩ e now (CY BP D) σ) F 0=BI (λσ=>Cu F ⟨d.fNow,cs⟩ e now (CY BP D) σ) (n+1) (A.length:Int):=hlop;rw[hlop',BI];have hcl:cs.length=A.length+(B.length+1):=by rw[hs];simp
 have hlt:(A.length:Int)<(cs.length:Int):=by omega
 have hat:Ad cs (A.length:Int)=c:=by rw[hs];exact Di A c B
 have hset:∀y:Aj,List.set cs A.length y=A++y::B:=λy=>by rw[hs,Gn]
 have hlen:∀y:Aj,(A++y::B).length=cs.length:=λy=>by rw[hs];simp
 have hb:Cu F ⟨d.fNow,cs⟩ e now (CY BP D) (A.length:Int)=some (.out (.ret (⟨c.fOp,(GY (CY BP D) c.fOp).2.1,c.fFrom,now⟩,true,⟨now,A++⟨c.fOp,(GY (CY BP D) c.fOp).2.1,c.fFrom,now⟩::B⟩))):=by
  unfold Cu;simp only;rw[Az (Ve hlt),AK (by omega) hlt,hat,Az (by rw[Ve hce,Ve (show c.fTo<0 by omega)];rfl),N0 hgs.1 hc.op (by decide) (by omega) (by have:=hc.ne;omega),AF rfl,VK,hset];unfold Oj;simp only;rw[hlen,AK (by omega) hlt,Di,Gn,hlen,AK (by omega) hlt,Di]
 rw[hb];rfl
theorem Ph (e:Am)(now:Int):∃c b d' es' cs',ET F d es cs e now=some (c,b,d',es',cs')∧Ih F ⟨d.fNow,cs⟩ e now=some (c,b,⟨d'.fNow,cs'⟩)∧Mh d' es' cs'∧cs'.length=cs.length∧(b=false→d'=d∧es'=es∧cs'=cs)∧(Lo 250 c.fOp∧c.fOp.fArgs.length≤4∧c.fAnswer.fValue.length≤250):=by
 have hn0:=h.now;have hl:=h.len;have hz:Lo 250 JC.fOp∧JC.fOp.fArgs.length≤4∧JC.fAnswer.fValue.length≤250:=⟨⟨by decide,by decide,by decide,by decide,λv hv=>by cases hv⟩,by decide,by decide⟩
 by_cases ht:now<d.fNow
 ·refine⟨JC,false,d,es,cs,?_,?_,h,rfl,λ_=>⟨rfl,rfl,rfl⟩,hz⟩
  ·unfold ET CO;rw[Az (Ve ht),Az rfl];rfl
  ·unfold Ih;rw[Az (by rw[Ve (show now<d.fNow from ht)];simp)];rfl
 ·by_cases ht2:1073741824<now
  ·refine⟨JC,false,d,es,cs,?_,?_,h,rfl,λ_=>⟨rfl,rfl,rfl⟩,hz⟩
   ·unfold ET CO;rw[Ar (Vc ht),Ve ht2,Az rfl];rfl
   ·unfold Ih;rw[Az (by rw[Ve ht2];simp)];rfl
  ·have hnow:d.fNow≤now∧now≤1073741824:=by omega
   have hj:ET F d es cs e now=CO F d es cs e now false:=by
    unfold ET;rw[Ar (Vc ht),Vc ht2]
   rw[hj]
   cases hg:B3 d.fEntities e with
   | none=>
    have hh:=Cq hg;have hown:Ck cs e=[]:=Kl λc hc he=>by
     have:=(h.enm e).2 ⟨c,hc,he⟩;rw[hh] at this;cases this
    refine⟨JC,false,d,es,cs,?_,K4 hF h hnow (by rw[hown];exact λc hc=>by cases hc),h,rfl,λ_=>⟨rfl,rfl,rfl⟩,hz⟩;unfold CO;rw[Ar rfl,hh,Ar rfl];rfl
   | some k=>
    obtain⟨p,rfl,hp,hrec⟩:=h.ent _ _ hg;obtain⟨D,O,x1,x2,x3,x4,x5,x6⟩:=hrec.ex;have hfl:(Ad es (p:Int)).fCalls.length=D.length+O.length:=by rw[hrec.ix,GF,x1,Vo]
    have hDl:D.length+O.length≤200:=by rw[← Vo,← x1];exact Nat.le_trans (List.length_filter_le ..) hl
    cases O with
    | nil=>
     refine⟨JC,false,d,es,cs,?_,K4 hF h hnow (by rw[x1,VB];exact x2),h,rfl,λ_=>⟨rfl,rfl,rfl⟩,hz⟩;unfold CO;rw[Ar rfl,C4 hg,Az rfl,DR hg,AK (by omega) (by omega),Az (Ve (by rw[x4,hfl,V8];rfl))];rfl
    | cons c O=>
     obtain⟨A,B,hs,hA,hB,hce⟩:=Js x1;have hc1:c.fTo = -1:=x3 c List.mem_cons_self;have hO:∀x∈O,x.fTo = -1:=λx hx=>x3 x (List.mem_cons_of_mem _ hx);have hc:Su c:=h.ok c (by rw[hs];simp);have hgs:GS (CY BP D):=by
      have:=P7 h.ok e;rw[← hrec.st,x5] at this;exact this
     have hdo:=P8 hgs hc.op hc.er;have hi:Ad (Ad es (p:Int)).fCalls (D.length:Int)=(A.length:Int):=by
      rw[hrec.ix,hs,Ep,Gh,Vu hce,← hA,← GF e A 0,Di,V4]
     have hcl:cs.length=A.length+(B.length+1):=by rw[hs];simp
     have hlt:(A.length:Int)<(cs.length:Int):=by omega
     have hat:Ad cs (A.length:Int)=c:=by rw[hs];exact Di A c B
     have hset:∀y:Aj,List.set cs A.length y=A++y::B:=λy=>by rw[hs,Gn]
     have hlen:∀y:Aj,(A++y::B).length=cs.length:=λy=>by rw[hs];simp
     rw[Vk] at hfl hDl;have hcop:Eo F ⟨c.fOp,(GY (CY BP D) c.fOp).2.1,c.fFrom,now⟩=some ⟨c.fOp,(GY (CY BP D) c.fOp).2.1,c.fFrom,now⟩:=Sl hF ⟨hc.op,hc.ne,hc.er,hdo.2.2,.inr (by show 0≤now;omega)⟩;refine⟨⟨c.fOp,(GY (CY BP D) c.fOp).2.1,c.fFrom,now⟩,true,⟨now,d.fEntities,d.fCalls⟩,es.set p ⟨(GY (CY BP D) c.fOp).1,(Ad es (p:Int)).fCalls,(D.length:Int)+1⟩,A++⟨c.fOp,(GY (CY BP D) c.fOp).2.1,c.fFrom,now⟩::B,?_,O2 hF h hnow hs hA hB hce x2 hO hc1,RQ h hnow hg hp hs hA hB hce x2 hO x6 hrec.ix hgs,hlen _,λx=>(by cases x),hc.op,hc.ne,hdo.2.2⟩;unfold CO;rw[Ar rfl,C4 hg,Az rfl,DR hg,AK (by omega) (by omega),x4,Ar (Vc (by omega)),AK (by omega) (by omega),hi,B0 (Ve (by omega)),AK (by omega) hlt,hat,x5,TK hgs.1 hc.op (by decide) (by omega) (by have:=hc.ne;omega),AF rfl,Ar (by rw[Ve hdo.2.1];rfl),AB (by omega) (by omega),VK,VK,hset];unfold Oj;simp only;rw[hlen,AK (by omega) hlt,Di,Gn,hlen,AK (by omega) hlt,Di,hcop,AF rfl]
end
def UH (l:List AP):Prop:=l.length≤50∧∀o∈l,Lo 250 o.fOp∧o.fOp.fArgs.length≤4
def Ok (l:List AP):Bool:=decide (50<l.length)||l.any λo=>Hy o.fOp
theorem JP {F:Nat}(hF:100<F)(l:List AP):Co F l=some (!Ok l):=by
 unfold Co Ok;rw[show decide ((50:Int)<(l.length:Int))=decide (50<l.length) from EH 50 l]
 cases hl:decide (50<l.length) with
 | true=>rfl
 | false=>
  have hl' : ¬ 50<l.length:=of_decide_eq_false hl;rw[Ar rfl,DA (l:=l) (bad:=λo=>Hy o.fOp) (u:=()) (by omega) (λi h=>by
   unfold D2;rw[Az (Ve (by omega)),AK (by omega) (by omega),BA h,Q4 hF,AF rfl,Bool.not_not,AB (by omega) (by omega)]) (by unfold D2;rw[Ar (Vc (by omega))])]
  cases l.any _<;>rfl
theorem R1 {l:List AP}(hb:Ok l=false)(hc:∀o∈l,o.fOp.fArgs.all (λv=>v.all EQ)=true):UH l:=by
 unfold Ok at hb;simp only[VA,Vg,List.any_eq_false] at hb;refine⟨by omega,λo ho=>?_⟩;have h1:Hy o.fOp=false:=by have:=hb.2 o ho;simpa using this
 refine⟨Lo.of h1 (hc o ho),?_⟩;unfold Hy at h1;simp only[VA,Vg] at h1;omega
section
variable {F : Nat} {d : Aq} {es : List Ai} {cs : List Aj} (hF : 30000 ≤ F) (h : Mh d es cs)
include hF h
theorem N7 (e:Am):In F (Ck cs e) (Ck cs e)=some true:=by
 have hl:(Ck cs e).length≤200:=Nat.le_trans (List.length_filter_le ..) h.len;exact NT (M:=250) (by omega) (by omega) (by decide) (by omega) λc hc=>by
  have:=h.ok c (M9 hc).1;exact⟨this.op,by have:=this.ne;omega,this.an⟩
theorem Pd (e:Am):EA F (Uh cs e) (Uh cs e)=some true:=by
 have hl:(Uh cs e).length≤200:=by
  unfold Uh;rw[Vr];exact Nat.le_trans (List.length_filter_le ..) (Nat.le_trans (List.length_filter_le ..) h.len)
 exact Hn (by omega) (by omega)
omit hF in
theorem SH (e:Am):E5 F (On cs e) (On cs e)=some true∨F≤250:=by
 have:=(P7 h.ok e).1.hv;rcases Nat.lt_or_ge 250 F with hf | hf
 ·exact .inl (by rw[H5 (by omega) (by omega),Ve rfl])
 ·exact .inr hf
end
theorem PZ {F:Nat}(hF:30000≤F){l:List AP}(hl:UH l){d:Aq}{es:List Ai}{cs:List Aj}(h:Mh d es cs){i:Nat}(hi:i<l.length)(hc:cs.length≤i) :
  ∃d' es' cs',CQ F l (i:Int) d.fNow d.fEntities d.fCalls es cs=some (.next ((i:Int)+1,d'.fNow,d'.fEntities,d'.fCalls,es',cs'))∧Mh d' es' cs'∧cs'.length≤i+1:=by
 obtain⟨hl1,hl2⟩:=hl;obtain⟨hA,hne⟩:=hl2 _ (List.getElem_mem hi)
 by_cases hk1:(l[i]).fKind=1
 ·obtain⟨c,b,d',es',cs',h1,h2,h3,h4,h5,h6,h7,h8⟩:=Ph hF h (l[i]).fOp.fEntity (l[i]).fNow;refine⟨d',es',cs',?_,h3,by omega⟩;unfold CQ EV;rw[Az (Ve (by omega)),AK (by omega) (by omega),BA hi,Az (Ve hk1)];have h1':ET F ⟨d.fNow,d.fEntities,d.fCalls⟩ es cs (l[i]).fOp.fEntity (l[i]).fNow=_:=h1;rw[h1',AF rfl,AB (by omega) (by omega)]
 ·obtain⟨r,d',es',cs',h1,h2,h3,h4,h5⟩:=Rh hF h (by omega) hA hne (l[i]).fNow;refine⟨d',es',cs',?_,h3,by omega⟩;unfold CQ EV;rw[Az (Ve (by omega)),AK (by omega) (by omega),BA hi,Ar (Vc hk1)];have h1':Cg F ⟨d.fNow,d.fEntities,d.fCalls⟩ es cs (l[i]).fOp (l[i]).fNow=_:=h1;rw[h1',AF rfl,AB (by omega) (by omega)]
theorem Rm {F:Nat}(hF:30000≤F){l:List AP}(hl:UH l):∃ (d:Aq) (es:List Ai) (cs:List Aj),Mh d es cs∧cs.length≤50∧BI (λσ:Int×Int×(List (Am×Int))×(List (Am×Int))×(List Ai)×(List Aj)=>CQ F l σ.1 σ.2.1 σ.2.2.1 σ.2.2.2.1 σ.2.2.2.2.1 σ.2.2.2.2.2) F (0,0,[],[],[],[])=some (.go (d.fNow,d.fEntities,d.fCalls,es,cs)):=by
 obtain⟨o,h1,d,es,cs,h2,h3,h4⟩:=DW (body:=λσ:Int×Int×(List (Am×Int))×(List (Am×Int))×(List Ai)×(List Aj)=>CQ F l σ.1 σ.2.1 σ.2.2.1 σ.2.2.2.1 σ.2.2.2.2.1 σ.2.2.2.2.2)
  (λσ=>∃ (i:Nat) (d:Aq) (es:List Ai) (cs:List Aj),σ=((i:Int),d.fNow,d.fEntities,d.fCalls,es,cs)∧Mh d es cs∧i≤l.length∧cs.length≤i) (λσ=>l.length-σ.1.toNat) (λo=>∃ (d:Aq) (es:List Ai) (cs:List Aj),o = .go (d.fNow,d.fEntities,d.fCalls,es,cs)∧Mh d es cs∧cs.length≤50) (λσ ⟨i,d,es,cs,hs,h,hi,hc⟩=>by
  subst hs;simp only
  by_cases hlt:i<l.length
  ·obtain⟨d',es',cs',r1,r2,r3⟩:=PZ hF hl h hlt hc;exact .inl ⟨_,r1,⟨i+1,d',es',cs',rfl,r2,by omega,r3⟩,by simp only;omega⟩
  ·refine .inr ⟨_,?_,⟨d,es,cs,rfl,h,by have:=hl.1;omega⟩⟩;unfold CQ;rw[Ar (Vc (by omega))]) F _ ⟨0,⟨0,[],[]⟩,[],[],rfl,Tb,V7 _,Vs _⟩ (by have:=hl.1;show l.length-0<F;omega)
 exact⟨d,es,cs,h3,h4,by rw[← h2];exact h1⟩
theorem RN:@ED=@CQ:=rfl
theorem NR (l:List AP)(bad:AP)(hc:∀o∈l,o.fOp.fArgs.all (λv=>v.all EQ)=true)(hcb:bad.fOp.fArgs.all (λv=>v.all EQ)=true):IX 30000 l bad=some true:=by
 have hF:30000≤30000:=Vs _;unfold IX R8;rw[JP (by decide),JP (by decide),JQ,Option.isSome_some,Option.isSome_some,B0 rfl,IZ,B0 rfl,G5,G5]
 by_cases hb:Ok l=false∧Ok [bad]=false
 ·obtain⟨hok1,hok2⟩:=R1 hb.2 (λo ho=>by rw[List.mem_singleton.1 ho];exact hcb);obtain⟨hA,hne⟩:=hok2 bad (by simp);obtain⟨d,es,cs,h,hlen,hlop⟩:=Rm hF (R1 hb.1 hc);have hl:=h.len;rw[hb.1,hb.2,Ar (by rfl),AF rfl,RN];simp only;rw[hlop,AF rfl,Cs];simp only;unfold EB C6 C5;have q1:GA ⟨d.fNow,d.fEntities,d.fCalls⟩ es cs bad.fOp.fEntity=_:=h.st _;have q2:D9 30000 ⟨d.fNow,d.fEntities,d.fCalls⟩ es cs bad.fOp.fEntity=_:=Hj hF h _;have q3:GC 30000 ⟨d.fNow,d.fEntities,d.fCalls⟩ es cs bad.fOp.fEntity=_:=HH hF h _;obtain⟨r,hr,hr2⟩:=K9 (t:=d.fNow) hF (show cs.length≤1000 by omega);have h3:=hr2.2.2;have q4:GB ⟨d.fNow,d.fEntities,d.fCalls⟩ es cs=_:=Jy h hr2;have hst:E5 30000 (On cs bad.fOp.fEntity) (On cs bad.fOp.fEntity)=some true:=(SH h _).resolve_right (by decide);rw[q1,AF rfl,q2,AF rfl,q3,AF rfl,q4,AF rfl,JQ]
  by_cases hk:bad.fKind=1
  ·obtain⟨c,b,d',es',cs',s1,s2,s3,s4,s5,s6⟩:=Ph hF h bad.fOp.fEntity bad.fNow;have s1':ET 30000 ⟨d.fNow,d.fEntities,d.fCalls⟩ es cs bad.fOp.fEntity bad.fNow=_:=s1;rw[Az (Ve hk),s1',AF rfl];simp only
   cases b with
   | true=>rfl
   | false=>
    obtain⟨rfl,rfl,rfl⟩:=s5 rfl;rw[Ar rfl,h.st,AF rfl,hst,AF rfl,Az rfl,Hj hF h,AF rfl,Pd hF h,AF rfl,Az rfl,HH hF h,AF rfl,N7 hF h,AF rfl,Az rfl,Jy h hr2,AF rfl,Hn (by omega) (by omega)];rfl
  ·obtain⟨r',d',es',cs',s1,s2,s3,s4,s5⟩:=Rh hF h (by omega) hA hne bad.fNow;have s1':Cg 30000 ⟨d.fNow,d.fEntities,d.fCalls⟩ es cs bad.fOp bad.fNow=_:=s1;rw[Ar (Vc hk),s1',AF rfl];simp only
   by_cases h0:r'=0
   ·rw[Az (Ve h0)];rfl
   ·obtain⟨rfl,rfl,rfl⟩:=s5 h0;rw[Ar (Vc h0),h.st,AF rfl,hst,AF rfl,Az rfl,Hj hF h,AF rfl,Pd hF h,AF rfl,Az rfl,HH hF h,AF rfl,N7 hF h,AF rfl,Az rfl,Jy h hr2,AF rfl,Hn (by omega) (by omega)];rfl
 ·rw[Az (by
   cases h1:Ok l with
   | true=>rfl
   | false=>
    cases h2:Ok [bad] with
    | true=>rfl
    | false=>exact absurd ⟨h1,h2⟩ hb)]
  rfl
end Go.Proofs.YtfbmdidnlhifjaaGreatDoor
namespace Go.Proofs.YtfbmdidnlhifjaaGreatDoor.lawEntityKeeps
open Go
set_option linter.unusedVariables false
theorem Pv {o:AP}(h:N9 o=true):o.fOp.fArgs.all (λv=>v.all EQ)=true:=by
 unfold N9 at h;simp only[Vj] at h;have h2:=h.1.2;unfold SQ at h2;simp only[Vj] at h2;exact List.all_eq_true.2 λv hv=>(Bool.and_eq_true_iff.1 (List.all_eq_true.1 h2.2.1 v hv)).1
theorem SP {l:List AP}(h:(l.all N9&&decide (l.length≤9223372036854775807))=true):∀o∈l,o.fOp.fArgs.all (λv=>v.all EQ)=true:=λo ho=>
 Pv (List.all_eq_true.1 (Bool.and_eq_true_iff.1 h).1 o ho)
theorem UV:Va:=λl bad h hb=>⟨30000,NR l bad (SP h) (Pv hb)⟩
end Go.Proofs.YtfbmdidnlhifjaaGreatDoor.lawEntityKeeps
