/-
  Texts of the proof, put together: LvG, LvH, LvI, LvJ, LvK, LvL, LvM, LvN, LvO, LvP, PO, LmA, LmB, LmS, LmC, LmD, LwTimerWorks.
-/
import Derived.Test.YtmmbdclkpijkpaaGreatDoorTW3
namespace Go.Proofs.YtmmbdclkpijkpaaGreatDoor
open Go
set_option linter.unusedVariables false
set_option linter.unusedSimpArgs false
theorem GL {x:Int}(h : -9223372036854775808≤x)(h':x≤9223372036854775807):IntKind.wrap .i64 x=x:=by
 simp only[IntKind.wrap,IntKind.bits,IntKind.signed];simp;omega
def Fo.dep:Fo→Nat
 | .nil=>0
 | .cell _ _ r=>max 1 r.dep
 | .node _ _ kids r=>max (kids.dep+1) r.dep
theorem En (k:Option Ak)(s:A6):(II k s).fDepth=s.fDepth∧(II k s).fOutside=s.fOutside∧(II k s).fLong=(s.fLong||(Bv k).any λc=>decide (200<(c.fStr.length:Int))):=by
 cases k with
 | none=>simp[II,Bv]
 | some x=>simp[II,Ta,Bv]
theorem HQ:∀(f:Fo) (d:Nat) (s:A6),(d:Int)≤s.fDepth→(f.sh d s).fDepth=max s.fDepth ((d:Int)+f.dep)
 | .nil,d,s,h=>by simp only[Fo.sh,Fo.dep];omega
 | .cell k c r,d,s,h=>by
  have hk:=(En k s).1;have e:(G3 d (II k s) c).fDepth=max s.fDepth ((d:Int)+1):=by rw[G3,hk]
  rw[Fo.sh,HQ r d _ (by rw[e];omega),e,Fo.dep];omega
 | .node k c kids r,d,s,h=>by
  have hk:=(En k s).1;have e:(G3 d (II k s) c).fDepth=max s.fDepth ((d:Int)+1):=by rw[G3,hk]
  have e2:=HQ kids (d+1) (G3 d (II k s) c) (by rw[e];omega);rw[e] at e2;rw[Fo.sh,HQ r d _ (by rw[e2];omega),e2,Fo.dep];omega
def Hc (c:Ac):Bool:=decide (c.fKind=3)&&!(decide ((-1000000000000)≤c.fInt)&&decide (c.fInt≤1000000000000))
def Gz (c:Ac):Bool:=decide (200<(c.fStr.length:Int))
theorem M6 (k:Option Ak):(Bv k).any Hc=false:=by cases k<;>simp[Bv,Hc]
theorem Lc:∀(f:Fo) (d:Nat) (s:A6),(f.sh d s).fOutside=(s.fOutside||f.flat.any Hc)
 | .nil,d,s=>by simp[Fo.sh,Fo.flat]
 | .cell k c r,d,s=>by
  rw[Fo.sh,Lc r,G3,(En k s).2.1];simp only[Fo.flat,List.any_append,List.any_cons,M6,U0,Bool.or_assoc];rfl
 | .node k c kids r,d,s=>by
  rw[Fo.sh,Lc r,Lc kids,G3,(En k s).2.1];simp only[Fo.flat,List.any_append,List.any_cons,M6,U0,Bool.or_assoc];rfl
theorem Jb:∀(f:Fo) (d:Nat) (s:A6),(f.sh d s).fLong=(s.fLong||f.flat.any Gz)
 | .nil,d,s=>by simp[Fo.sh,Fo.flat]
 | .cell k c r,d,s=>by
  rw[Fo.sh,Jb r,G3,(En k s).2.2];simp only[Fo.flat,List.any_append,List.any_cons,Bool.or_assoc];rfl
 | .node k c kids r,d,s=>by
  rw[Fo.sh,Jb r,Jb kids,G3,(En k s).2.2];simp only[Fo.flat,List.any_append,List.any_cons,Bool.or_assoc];rfl
def QV (c:Ac):Int:=
 bif decide (c.fKind=1) then 4 else bif decide (c.fKind=2) then 5-c.fInt else bif decide (c.fKind=3) then((Lib.itoa c.fInt).length:Int) else
 bif decide (c.fKind=4) then Iy c.fStr else 2
def Lq:Option Ak→Int
 | none=>0
 | some s=>Iy s+1
def Fo.byt:Fo→Int
 | .nil=>0
 | .cell k c r=>Lq k+QV c+r.byt
 | .node k c kids r=>Lq k+(c.fN+1)+kids.byt+r.byt
theorem JI (s:Ak):2≤Iy s:=by unfold Iy;omega
theorem Jl (k:Option Ak):0≤Lq k:=by
 cases k with
 | none=>exact Uw 0
 | some s=>have:=JI s;simp only[Lq];omega
theorem NR {c:Ac}(hp:pl c=true):0≤QV c:=by
 unfold QV
 cases h1:decide (c.fKind=1) with
 | true=>simp
 | false=>
  cases h2:decide (c.fKind=2) with
  | true=>
   simp[pl,h1,h2] at hp;simp only[Un,Ut];omega
  | false=>
   cases h3:decide (c.fKind=3) with
   | true=>simp
   | false=>
    cases h4:decide (c.fKind=4) with
    | true=>have:=JI c.fStr;simp only[Un,Ut];omega
    | false=>simp
theorem R0 {c:Ac}(hp:pl c=true):0≤c.fN:=by
 simp only[pl,← Bool.decide_or] at hp
 cases h1:decide (c.fKind=1)<;>cases h2:decide (c.fKind=2)<;>cases h3:decide (c.fKind=3)<;>cases h4:decide (c.fKind=4)<;>cases h5:decide (c.fKind=5)<;>cases h6:decide (c.fKind=6)<;>simp[h1,h2,h3,h4,h5,h6] at hp<;>omega
theorem Ib {c:Ac}(hp:pl c=true)(hn:0<c.fN):(c.fKind=5∨c.fKind=6)∧c.fInt=0∧c.fStr=[]:=by
 cases h1:decide (c.fKind=1)<;>cases h2:decide (c.fKind=2)<;>cases h3:decide (c.fKind=3)<;>cases h4:decide (c.fKind=4)<;>cases h5:decide (c.fKind=5)<;>cases h6:decide (c.fKind=6)<;>simp[pl,h1,h2,h3,h4,h5,h6] at hp<;>(simp only[Ud,Ue] at *;first | omega | exact⟨by omega,hp.1,hp.2.1⟩)
theorem PG {c:Ac}(hp:pl c=true)(hn:decide (0<c.fN)=false):Sw c=QV c:=by
 have hN:=R0 hp;have h0:c.fN=0:=by simp only[Ue] at hn;omega
 unfold Sw QV;rw[h0]
 cases h1:decide (c.fKind=1) with
 | true=>rfl
 | false=>
  cases h2:decide (c.fKind=2) with
  | true=>
   simp[pl,h1,h2] at hp;simp only[Un,Ut];exact GL (by omega) (by omega)
  | false=>rfl
theorem PF {c:Ac}(hp:pl c=true)(hn:0<c.fN)(hm:c.fN≤9223372036854775000):Sw c=c.fN+1:=by
 obtain⟨hk,_,_⟩:=Ib hp hn;unfold Sw;rw[Uh (by omega),Uh (by omega),Uh (by omega),Uh (by omega)];simp only[Un];rw[GL (x:=c.fN-1) (by omega) (by omega),GL (by omega) (by omega)];omega
theorem Gq:∀{f:Fo} {m:Bool} {l:Option Ak},f.wf m l=true→0≤f.byt
 | .nil,_,_,_=>Uw 0
 | .cell k c r,m,l,h=>by
  simp only[Fo.wf,Ui] at h;have h1:=Gq h.2;have h2:=NR h.1.1.2;have h3:=Jl k;simp only[Fo.byt];omega
 | .node k c kids r,m,l,h=>by
  simp only[Fo.wf,Ui,Ud] at h;have h1:=Gq h.2;have h2:=Gq h.1.2;have h3:=Jl k;simp only[Fo.byt];omega
theorem K1 (k:Option Ak)(s:A6)(h0:0≤s.fBytes)(h:s.fBytes+Lq k≤9223372036854775807):(II k s).fBytes=s.fBytes+Lq k:=by
 cases k with
 | none=>simp[II,Lq]
 | some x=>
  have:=JI x;simp only[Lq] at h;simp only[II,Ta,Lq];exact GL (by omega) (by omega)
theorem HR:∀(f:Fo) (m:Bool) (l:Option Ak) (d:Nat) (s:A6),f.wf m l=true→0≤s.fBytes→s.fBytes+f.byt≤9223372036854775000→(f.sh d s).fBytes=s.fBytes+f.byt
 | .nil,_,_,d,s,_,_,_=>by simp[Fo.sh,Fo.byt]
 | .cell k c r,m,l,d,s,hw,h0,h=>by
  simp only[Fo.wf,Ui,U1] at hw;obtain⟨⟨⟨w1,w2⟩,w3⟩,w4⟩:=hw;have h1:=Gq w4;have h2:=NR w2;have h3:=Jl k;simp only[Fo.byt] at h;have e1:=K1 k s h0 (by omega);have e:(G3 d (II k s) c).fBytes=s.fBytes+Lq k+QV c:=by
   rw[G3,e1,PG w2 w3];exact GL (by omega) (by omega)
  rw[Fo.sh,HR r _ _ d _ w4 (by rw[e];omega) (by rw[e];omega),e,Fo.byt];omega
 | .node k c kids r,m,l,d,s,hw,h0,h=>by
  simp only[Fo.wf,Ui,Ud] at hw;obtain⟨⟨⟨⟨⟨w1,w2⟩,w3⟩,w5⟩,w6⟩,w4⟩:=hw;have h1:=Gq w4;have h2:=Gq w6;have h3:=Jl k;simp only[Fo.byt] at h;have e1:=K1 k s h0 (by omega);have e:(G3 d (II k s) c).fBytes=s.fBytes+Lq k+(c.fN+1):=by
   rw[G3,e1,PF w2 w3 (by omega)];exact GL (by omega) (by omega)
  have e2:=HR kids _ _ (d+1) (G3 d (II k s) c) w6 (by rw[e];omega) (by rw[e];omega);rw[Fo.sh,HR r _ _ d _ w4 (by rw[e2,e];omega) (by rw[e2,e];omega),e2,e,Fo.byt];omega
def Ka (s:Ak):Ak:=s.flatMap λc=>bif (decide (c=34)||decide (c=92)) then[92,c] else[c]
def H5 (s:Ak):Ak:=34::(Ka s++[34])
theorem JZ:∀s:Ak,(Ka s).length=s.length+s.count 34+s.count 92
 | []=>rfl
 | c::s=>by
  have ih:=JZ s;unfold Ka at ih ⊢;rw[List.flatMap_cons,Uq,ih]
  by_cases h1:c=34
  ·subst h1;simp;omega
  ·by_cases h2:c=92
   ·subst h2;simp;omega
   ·simp[h1,h2,List.count_cons];omega
theorem Md (s:Ak):((H5 s).length:Int)=Iy s:=by
 simp only[H5,Uo,Uq,JZ,UN,Iy];omega
def IM (c:Ac):Ak:=
 bif decide (c.fKind=1) then[110,117,108,108] else
 bif decide (c.fKind=2) then(bif decide (c.fInt=1) then[116,114,117,101] else[102,97,108,115,101]) else
 bif decide (c.fKind=3) then Lib.itoa c.fInt else
 bif decide (c.fKind=4) then H5 c.fStr else
 bif decide (c.fKind=6) then[123,125] else[91,93]
def KH:Option Ak→Ak
 | none=>[]
 | some s=>H5 s++[58]
def Pu (c:Ac)(s:Ak):Ak:=bif decide (c.fKind=6) then 123::(s++[125]) else 91::(s++[93])
def EN (first:Bool):Ak:=bif first then[] else[44]
def Fo.txt:Bool→Fo→Ak
 | _,.nil=>[]
 | b,.cell k c r=>EN b++KH k++IM c++r.txt false
 | b,.node k c kids r=>EN b++KH k++Pu c (kids.txt true)++r.txt false
theorem NW (k:Option Ak):((KH k).length:Int)=Lq k:=by
 cases k with
 | none=>rfl
 | some s=>simp only[KH,Uq,Lq,UK];have:=Md s;omega
theorem OY {c:Ac}(hp:pl c=true):((IM c).length:Int)=QV c:=by
  unfold IM QV
  cases h1:decide (c.fKind=1) with
  | true=>rfl
  | false=>
    cases h2:decide (c.fKind=2) with
    | true=>
      simp[pl,h1,h2] at hp;simp only[Un,Ut]
      cases h7:decide (c.fInt=1) with
      | true=>simp only[Ud] at h7;simp[h7]
      | false=>
                 simp only[Ue] at h7;have:c.fInt=0:=by omega
                 simp[this]
    | false=>
      cases h3:decide (c.fKind=3) with
      | true=>rfl
      | false=>
        cases h4:decide (c.fKind=4) with
        | true=>simpa using Md c.fStr
        | false=>cases h6:decide (c.fKind=6)<;>rfl
theorem L0 (c:Ac)(s:Ak):(Pu c s).length=s.length+2:=by
 unfold Pu
 cases decide (c.fKind=6)<;>simp
theorem HK:∀(f:Fo) (m:Bool) (l:Option Ak) (b:Bool),f.wf m l=true→((f.txt b).length:Int)=f.byt+(bif b then((f.cnt-1:Nat):Int) else(f.cnt:Int))
 | .nil,m,l,b,_=>by cases b<;>rfl
 | .cell k c r,m,l,b,hw=>by
  simp only[Fo.wf,Ui,U1] at hw;obtain⟨⟨⟨w1,w2⟩,w3⟩,w4⟩:=hw;have ih:=HK r _ _ false w4;have a:=NW k;have d:=OY w2;simp only[Un] at ih
  cases b<;>simp only[Fo.txt,Fo.byt,Fo.cnt,EN,Ut,Un,Uq,UN,UK]<;>omega
 | .node k c kids r,m,l,b,hw=>by
  simp only[Fo.wf,Ui,Ud] at hw;obtain⟨⟨⟨⟨⟨w1,w2⟩,w3⟩,w5⟩,w6⟩,w4⟩:=hw;have ih:=HK r _ _ false w4;have ih2:=HK kids _ _ true w6;have a:=NW k;have d:=L0 c (kids.txt true);simp only[Un,Ut] at ih ih2
  cases b<;>simp only[Fo.txt,Fo.byt,Fo.cnt,EN,Ut,Un,Uq,UN,UK]<;>omega
def Fo.put (k:Option Ak):Fo→Fo→Fo
 | .cell _ c _,r=>.cell k c r
 | .node _ c kids _,r=>.node k c kids r
 | .nil,_=>.nil
theorem Qd (P:Nat)(m:Bool)(last:Option Ak)(k:Nat)(xs:List Ac):Ge (P+2) m last (k+1) xs =
  match Gm m last xs with
  | none=>none
  | some (key,ys)=>match Ge (P+2) false none 1 ys with
   | none=>none
   | some (f,zs)=>match Ge (P+1) m key k zs with
    | none=>none
    | some (r,us)=>some (f.put key r,us):=by
 rw[Ge]
 cases hk:Gm m last xs with
 | none=>rfl
 | some p=>
  obtain⟨key,ys⟩:=p;simp only;rw[Ge];simp only[Gm,Un]
  cases ys with
  | nil=>rfl
  | cons c ys=>
   simp only
   cases hp:pl c with
   | false=>rfl
   | true=>
    simp only[Uu,Un]
    cases hn:decide (0<c.fN) with
    | true=>
     simp only[Ut]
     cases hq:Ge (P+1) (decide (c.fKind=6)) none c.fN.toNat ys with
     | none=>rfl
     | some q=>
      obtain⟨kids,zs⟩:=q;simp only[Ge]
      cases hr:Ge (P+1) m key k zs with
      | none=>rfl
      | some q=>obtain⟨a,b⟩:=q;rfl
    | false=>
     simp only[Un,Ge]
     cases hr:Ge (P+1) m key k ys with
     | none=>rfl
     | some q=>obtain⟨a,b⟩:=q;rfl
def JJ (m:Bool)(last:Option Ak)(k:Nat)(xs:List Ac):Option (Fo×List Ac):=Ge (xs.length+1) m last k xs
theorem Iz (m:Bool)(last:Option Ak)(xs:List Ac):JJ m last 0 xs=some (.nil,xs):=rfl
theorem Er (m:Bool)(last:Option Ak)(k:Nat)(xs:List Ac):JJ m last (k+1) xs =
  match Gm m last xs with
  | none=>none
  | some (key,ys)=>match EV ys with
   | none=>none
   | some (f,zs)=>match JJ m key k zs with
    | none=>none
    | some (r,us)=>some (f.put key r,us):=by
 unfold JJ EV;rw[ET (xs.length+1) (xs.length+2) m last (k+1) xs (by omega) (by omega),Qd]
 cases hk:Gm m last xs with
 | none=>rfl
 | some p=>
  obtain⟨key,ys⟩:=p;have h1:=(Jg hk).1;have hy:ys.length≤xs.length:=by rw[h1];simp
  simp only;rw[ET (xs.length+2) (ys.length+1) false none 1 ys (by omega) (by omega)]
  cases hf:Ge (ys.length+1) false none 1 ys with
  | none=>rfl
  | some q=>
   obtain⟨f,zs⟩:=q;have h2:=(EF _ _ _ _ _ _ _ hf).1;have hz:zs.length≤ys.length:=by rw[h2];simp
   simp only;rw[ET (xs.length+1) (zs.length+1) m key k zs (by omega) (by omega)]
   all_goals (cases Ge (zs.length+1) m key k zs<;>rfl)
theorem KD {S O:Type}{body:S→Option (Stp S O)}{n:Nat}{s s':S}{o:O}(h:body s=some (.next s'))(h':Cu body n s'=some o):Cu body (n+1) s=some o:=by rw[Cu,h];exact h'
theorem Hn {S O:Type}{body:S→Option (Stp S O)}{n:Nat}{s:S}{o:O}(h:body s=some (.out o)):Cu body (n+1) s=some o:=by rw[Cu,h]
theorem Mf:EV []=none:=rfl
theorem EU (c:Ac)(r:List Ac):EV (c::r)=bif !pl c then none else bif decide (0<c.fN) then(match JJ (decide (c.fKind=6)) none c.fN.toNat r with
  | none=>none
  | some (kids,zs)=>some (.node none c kids .nil,zs)) else some (.cell none c .nil,r):=by
 unfold EV;rw[Ge];simp only[Gm,Un]
 cases hp:pl c with
 | false=>rfl
 | true=>
  simp only[Uu,Un]
  cases hn:decide (0<c.fN) with
  | true=>
   simp only[Ut];unfold JJ;rw[Uo]
   cases hq:Ge (r.length+1) (decide (c.fKind=6)) none c.fN.toNat r with
   | none=>rfl
   | some q=>obtain⟨kids,zs⟩:=q;rfl
  | false=>rfl
theorem Me {f:Fo}(h:f.one=true)(key:Option Ak)(r:Fo):(f.put key r).flat=Bv key++(f.flat++r.flat):=by
 cases f with
 | nil=>cases h
 | cell k c r'=>
  cases k with
  | some s=>cases h
  | none=>cases r' with
   | nil=>simp[Fo.put,Fo.flat,Bv]
   | cell _ _ _=>cases h
   | node _ _ _ _=>cases h
 | node k c kids r'=>
  cases k with
  | some s=>cases h
  | none=>cases r' with
   | nil=>simp[Fo.put,Fo.flat,Bv]
   | cell _ _ _=>cases h
   | node _ _ _ _=>cases h
theorem Qg {f:Fo}(h:f.one=true):1≤f.flat.length:=by
 cases f with
 | nil=>cases h
 | cell k c r'=>simp[Fo.flat];omega
 | node k c kids r'=>simp[Fo.flat];omega
theorem GU {xs ys:List Ac}{f:Fo}(h:EV xs=some (f,ys)):xs=f.flat++ys∧f.wf false none=true∧f.one=true:=
 ⟨(EF _ _ _ _ _ _ _ h).1,(EF _ _ _ _ _ _ _ h).2.1,NI h⟩
def Gy (v:List Ac)(i:Int):Int:=match EV (v.drop i.toNat) with
 | none=>-1
 | some (f,_)=>i+f.flat.length
def Ig (m:Bool)(last:Option Ak)(v:List Ac)(i:Int)(k:Nat):Int:=match JJ m last k (v.drop i.toNat) with
 | none=>-1
 | some (f,_)=>i+f.flat.length
theorem K9 {v:List Ac}{i:Int}(h0:0≤i)(h1:i≤v.length):Gy v i = -1∨(i<Gy v i∧Gy v i≤v.length):=by
 unfold Gy
 cases h:EV (v.drop i.toNat) with
 | none=>exact .inl rfl
 | some q=>
  obtain⟨f,ys⟩:=q;obtain⟨h2,_,h3⟩:=GU h;have:=Qg h3;have hl:(v.drop i.toNat).length=f.flat.length+ys.length:=by rw[h2];simp
  rw[List.length_drop] at hl
  right;simp only;omega
structure T0 (F M:Nat) (v:List Ac):Prop where
 hM:M≤1152921504606846976
 hv:v.length≤M
 hF:M<F
 hc:∀c∈v,c.fStr.length≤M
theorem OE (ok:Bool){i:Int}(h0:0≤i)(h1:i≤1152921504606846976):Bn ok i=some (bif ok then i+1 else -1):=by
 unfold Bn
 cases ok
 ·rfl
 ·rw[AR rfl,AI (by omega) (by omega)];rfl
theorem NH {F:Nat}{c:Ac}(hF:c.fStr.length<F)(hs:c.fStr.length≤1152921504606846976):Ko F c=some (decide (c.fKind=4)&&pl c):=by
 unfold Ko;rw[O3 hF (by omega)];simp only[Option.isSome_some,ov,U6,imp,UF,Bk,Ut]
 cases h4:decide (c.fKind=4) with
 | false=>rfl
 | true=>
  simp only[Ud] at h4;simp[pl,h4]
theorem Cy {v:List Ac}{i:Int}{c:Ac}{r:List Ac}(h0:0≤i)(h:v.drop i.toNat=c::r):Aj v i=c:=by
 have:=(B6 h0 h).1;simp[Aj,this]
section
variable {M : Nat} {v : List Ac}
theorem Hk {F:Nat}(hA:T0 F M v){g:List Ac→Int→Option Int}{n:Int}(hn:n≤9223372036854775807):∀(L:Nat) (i x:Int),0≤i→i≤v.length→0≤x→x≤n→(∀j,i≤j→j≤v.length→g v j=some (Gy v j))→v.length-i.toNat<L→
  ∃o,Cu (λσ=>Cb v n g σ.1 σ.2) L (i,x)=some o∧B9 (λν=>Dh ν) o=some (Ig false none v i (n-x).toNat)
 | 0,i,x,_,_,_,_,_,h=>by omega
 | L+1,i,x,h0,h1,hx,hxn,hg,hL=>by
  cases hxl:decide (x<n) with
  | false=>
   refine⟨.go i,Hn (by show Cb v n g i x=_;unfold Cb;rw[A7 hxl]),?_⟩;simp only[Ue] at hxl;rw[show(n-x).toNat=0 from by omega];simp[B9,Dh,Ig,Iz,Fo.flat]
  | true=>
   have hb:Cb v n g i x=Bm (decide (Gy v i<0)) (some (.out (.ret (-1)))) (Bk (BH .i64 (x+1))<|some (.next (Gy v i,x+1))):=by unfold Cb;rw[AR hxl,hg i (Uw i) h1,AP rfl]
   simp only[Ud] at hxl;obtain⟨k,hk⟩:∃k,(n-x).toNat=k+1:=⟨(n-x).toNat-1,by omega⟩
   rw[hk];have e:Ig false none v i (k+1)=bif decide (Gy v i<0) then -1 else Ig false none v (Gy v i) k:=by
    unfold Ig;rw[Er];simp only[Gm,Un]
    cases hp:EV (v.drop i.toNat) with
    | none=>simp[Gy,hp]
    | some q=>
     obtain⟨f,ys⟩:=q;obtain⟨q1,q2,q3⟩:=GU hp;have hi:Gy v i=i+f.flat.length:=by simp[Gy,hp]
     have hd:v.drop (Gy v i).toNat=ys:=by rw[hi];exact C3 h0 q1
     rw[hd,Uh (by omega)];simp only[Un]
     cases hr:JJ false none k ys with
     | none=>rfl
     | some q=>
      obtain⟨r,zs⟩:=q;simp only[Me q3,Bv,List.nil_append,Uq,hi];omega
   rw[e];rcases K9 (v:=v) h0 h1 with hneg | ⟨hlt,hle⟩
   ·exact⟨.ret (-1),Hn (hb.trans (by rw[hneg,AR (by decide)])),by rw[hneg];rfl⟩
   ·have hM:=hA.hM;have hvM:=hA.hv;obtain⟨o,ho1,ho2⟩:=Hk hA hn L (Gy v i) (x+1) (by omega) hle (by omega) (by omega) (λj hj=>hg j (by omega)) (by omega);exact⟨o,KD (hb.trans (by rw[A7 (Uh (by omega)),AI (by omega) (by omega)])) ho1,by rw[ho2,show(n-(x+1)).toNat=k from by omega,Uh (by omega)];rfl⟩
theorem JE {F:Nat}(hA:T0 F M v){g:List Ac→Int→Option Int}{n:Int}(hn:n≤9223372036854775807):∀(L:Nat) (i x:Int) (last:Ak),0≤i→i≤v.length→0≤x→x≤n→(∀j,i≤j→j≤v.length→g v j=some (Gy v j))→v.length-i.toNat<L→
  ∃o,Cu (λσ=>Cz F v n g σ.1 σ.2.1 σ.2.2) L (i,last,x)=some o∧B9 (λν=>Ep ν) o=some (Ig true (bif decide (0<x) then some last else none) v i (n-x).toNat)
 | 0,i,x,_,_,_,_,_,_,h=>by omega
 | L+1,i,x,last,h0,h1,hx,hxn,hg,hL=>by
  have hM:=hA.hM;have hvM:=hA.hv;have hMF:=hA.hF
  cases hxl:decide (x<n) with
  | false=>
   refine⟨.go i,Hn (by show Cz F v n g i last x=_;unfold Cz;rw[A7 hxl]),?_⟩;simp only[Ue] at hxl;rw[show(n-x).toNat=0 from by omega];simp[B9,Ep,Ig,Iz,Fo.flat]
  | true=>
   have hxl':=hxl;simp only[Ud] at hxl;obtain⟨k,hk⟩:∃k,(n-x).toNat=k+1:=⟨(n-x).toNat-1,by omega⟩
   rw[hk]
   cases hd:v.drop i.toNat with
   | nil=>
    have hl:v.length≤i.toNat:=by simpa using hd
    refine⟨.ret (-1),Hn (by
     show Cz F v n g i last x=_;unfold Cz;rw[AR hxl',BU (by simp[imp,show(v.length:Int)≤i from by omega]),BU (by simp[imp,show(v.length:Int)≤i from by omega]),AR (by simp[show(v.length:Int)≤i from by omega])]),?_⟩
    simp[B9,Ig,hd,Er,Gm]
   | cons c r=>
    obtain⟨g1,g2,g3⟩:=B6 h0 hd;have hcM:=hA.hc c (Um g1);have hat:=Cy h0 hd;have hnl:decide ((v.length:Int)≤i)=false:=by simp;omega
    have hb:Cz F v n g i last x=Bm (!(decide (c.fKind=4)&&pl c)||decide (0<x)&&(Bz c.fStr last||decide (c.fStr=last))) (some (.out (.ret (-1)))) (B0 (g v (i+1)) λha=>Bm (decide (ha<0)) (some (.out (.ret (-1)))) (Bk (BH .i64 (x+1))<|some (.next (ha,c.fStr,x+1)))):=by
     unfold Cz;rw[AR hxl',BU (by simp only[imp];rw[RI h0 g3];simp),hat,NH (by omega) (by omega),BU (by simp[imp])];simp only[hnl,ov,U6,U0];rw[Bd h0 g3,AI (by omega) (by omega)]
    have hpk:Gm true (bif decide (0<x) then some last else none) (c::r)=bif (!(decide (c.fKind=4)&&pl c)||decide (0<x)&&(Bz c.fStr last||decide (c.fStr=last))) then none else some (some c.fStr,r):=by
     simp only[Gm,Ut]
     cases h4:decide (c.fKind=4) with
     | false=>simp
     | true=>
      cases hp:pl c with
      | false=>simp
      | true=>
       have hok:=(Lm hp (by simpa using h4)).2
       cases h0x:decide (0<x) with
       | false=>simp[Cc,hok]
       | true=>cases hs:(Bz c.fStr last||decide (c.fStr=last))<;>simp[Cc,hok,hs]
    cases ht:(!(decide (c.fKind=4)&&pl c)||decide (0<x)&&(Bz c.fStr last||decide (c.fStr=last))) with
    | true=>
     rw[ht] at hpk;refine⟨.ret (-1),Hn (hb.trans (AR ht)),?_⟩;simp only[Ig,hd,Er,hpk,Ut];rfl
    | false=>
     rw[ht] at hpk;rw[A7 ht,hg (i+1) (by omega) (by omega),AP rfl] at hb;have e:Ig true (bif decide (0<x) then some last else none) v i (k+1)=bif decide (Gy v (i+1)<0) then -1 else Ig true (some c.fStr) v (Gy v (i+1)) k:=by
      unfold Ig;rw[hd,Er,hpk];simp only[Un];have hx:Gy v (i+1)=match EV r with | none=>-1 | some (f,_)=>i+1+f.flat.length:=by unfold Gy;rw[g2]
      cases hp:EV r with
      | none=>rw[hp] at hx;simp[hx]
      | some q=>
       obtain⟨f,ys⟩:=q;obtain⟨q1,q2,q3⟩:=GU hp;rw[hp] at hx;simp only at hx;have hd2:v.drop (Gy v (i+1)).toNat=ys:=by rw[hx];exact C3 (by omega) (g2.trans q1)
       rw[hd2,Uh (by omega)];simp only[Un]
       cases hr:JJ true (some c.fStr) k ys with
       | none=>rfl
       | some q=>
        obtain⟨r',zs⟩:=q;simp only[Me q3,Bv,Uq,Uo,UN,hx];omega
     rw[e];rcases K9 (v:=v) (i:=i+1) (by omega) (by omega) with hneg | ⟨hlt,hle⟩
     ·exact⟨.ret (-1),Hn (hb.trans (by rw[hneg,AR (by decide)])),by rw[hneg];rfl⟩
     ·obtain⟨o,ho1,ho2⟩:=JE hA hn L (Gy v (i+1)) (x+1) c.fStr (by omega) hle (by omega) (by omega) (λj hj=>hg j (by omega)) (by omega);exact⟨o,KD (hb.trans (by rw[A7 (Uh (by omega)),AI (by omega) (by omega)])) ho1,by rw[ho2,show(n-(x+1)).toNat=k from by omega,Ul (show(0:Int)<x+1 from by omega),Uh (by omega)];rfl⟩
theorem Mq {i:Int}{c:Ac}{r:List Ac}(h0:0≤i)(hd:v.drop i.toNat=c::r)(hp:pl c=true):Gy v i=Ig (decide (c.fKind=6)) none v (i+1) c.fN.toNat:=by
 have g2:=(B6 h0 hd).2.1;have hN:=R0 hp;unfold Gy Ig;rw[hd,EU,g2,hp];simp only[Uu,Un]
 cases hn:decide (0<c.fN) with
 | true=>
  simp only[Ut]
  cases hq:JJ (decide (c.fKind=6)) none c.fN.toNat r with
  | none=>rfl
  | some q=>
   obtain⟨kids,zs⟩:=q;simp only[Fo.flat,Bv,List.nil_append,Uo,UO];omega
 | false=>
  simp only[Ue] at hn;rw[show c.fN.toNat=0 from by omega,Iz];simp[Fo.flat,Bv]
theorem Ma (hA:T0 (M+1) M v)(hN:∀c∈v,c.fN≤9223372036854775807):∀(d F:Nat) (i:Int),0≤i→i≤v.length→v.length-i.toNat=d→M+2*d+3<F→C8 F v i=some (Gy v i):=by
 have hM:=hA.hM;have hvM:=hA.hv;intro d
 induction d using Nat.strongRecOn with
 | ind d ih=>
  intro F i h0 h1 hd hF;obtain⟨F,rfl⟩:∃G,F=G+1:=⟨F-1,by omega⟩
  obtain⟨F,rfl⟩:∃G,F=G+1:=⟨F-1,by omega⟩
  rw[C8];unfold Li
  cases hdr:v.drop i.toNat with
  | nil=>
   have hl:v.length≤i.toNat:=by simpa using hdr
   rw[AR (by simp;omega)];simp[Gy,hdr,Mf]
  | cons c r=>
   obtain⟨g1,g2,g3⟩:=B6 h0 hdr;have hcM:=hA.hc c (Um g1);have hcN:=hN c (Um g1);rw[A7 (by simp;omega),Bd h0 g3,Cy h0 hdr];simp only[OE _ h0 (show i≤1152921504606846976 by omega),Option.isSome_some,ov,U6,imp,UF,BU (x:=_) (rfl:true=true)];have hg:∀j,i+1≤j→j≤v.length→C8 F v j=some (Gy v j):=λj hj hj2=>ih (v.length-j.toNat) (by omega) F j (by omega) hj2 rfl (by omega);have hpl0:pl c=false→Gy v i = -1:=λhp=>by simp[Gy,hdr,EU,hp]
   have hleaf:pl c=true→c.fN=0→Gy v i=i+1:=λhp h0'=>by simp[Gy,hdr,EU,hp,h0',Fo.flat,Bv]
   have hscal:∀b:Bool,pl c=b→(b=true→c.fN=0)→Gy v i=bif b then i+1 else -1:=λb hb hz=>by
    cases b
    ·exact hpl0 hb
    ·exact hleaf hb (hz rfl)
   by_cases k1:c.fKind=1
   ·rw[AR (by simp[k1])];have hp:pl c=(decide (c.fInt=0)&&(decide (c.fStr=[])&&decide (c.fN=0))):=by simp[pl,k1]
    rw[hscal _ hp (λh=>by simp at h;exact h.2.2)]
    cases decide (c.fInt=0)<;>cases decide (c.fStr=[])<;>cases decide (c.fN=0)<;>rfl
   rw[A7 (by simp[k1])]
   by_cases k2:c.fKind=2
   ·rw[AR (by simp[k2])];have hp:pl c=((decide (c.fInt=0)||decide (c.fInt=1))&&(decide (c.fStr=[])&&decide (c.fN=0))):=by simp[pl,k2]
    rw[hscal _ hp (λh=>by simp at h;exact h.2.2)]
    cases decide (c.fInt=0)<;>cases decide (c.fInt=1)<;>cases decide (c.fStr=[])<;>cases decide (c.fN=0)<;>rfl
   rw[A7 (by simp[k2])]
   by_cases k3:c.fKind=3
   ·rw[AR (by simp[k3])];have hp:pl c=(decide (c.fStr=[])&&decide (c.fN=0)):=by simp[pl,k3]
    rw[hscal _ hp (λh=>by simp at h;exact h.2)]
    cases decide (c.fStr=[])<;>cases decide (c.fN=0)<;>rfl
   rw[A7 (by simp[k3])]
   by_cases k4:c.fKind=4
   ·rw[AR (by simp[k4]),NH (by omega) (by omega),AP rfl,AP rfl];rw[Ul k4,Uz,hscal (pl c) rfl (λhp=>by have:=(Lm hp k4).1;rw[this])]
   rw[A7 (by simp[k4])]
   by_cases k5:c.fKind=5
   ·have hp:pl c=(decide (c.fInt=0)&&(decide (c.fStr=[])&&decide (0≤c.fN))):=by simp[pl,k5]
    rw[show(decide (c.fKind=5)&&(decide (c.fInt=0)&&(decide (c.fStr=[])&&decide (0≤c.fN))))=pl c from by rw[hp,Ul k5,Uz]];have k5' : ¬ c.fKind=6:=by omega
    cases hb:pl c with
    | false=>rw[A7 rfl,A7 (by simp[k5]),hpl0 hb]
    | true=>
     have hn0:=R0 hb;rw[AR rfl,AI (by omega) (by omega),Eq];unfold Gj;obtain⟨o,ho1,ho2⟩:=Hk (F:=F) ⟨hM,hvM,by omega,hA.hc⟩ hcN F (i+1) 0 (by omega) (by omega) (Uw 0) hn0 hg (by omega);rw[AP ho1,ho2,AP rfl,Mq h0 hdr hb,Uh k5',Int.sub_zero]
   rw[A7 (by simp[k5])]
   by_cases k6:c.fKind=6
   ·have hp:pl c=(decide (c.fInt=0)&&(decide (c.fStr=[])&&decide (0≤c.fN))):=by simp[pl,k6]
    rw[show(decide (c.fKind=6)&&(decide (c.fInt=0)&&(decide (c.fStr=[])&&decide (0≤c.fN))))=pl c from by rw[hp,Ul k6,Uz]]
    cases hb:pl c with
    | false=>rw[A7 rfl,hpl0 hb]
    | true=>
     have hn0:=R0 hb;rw[AR rfl,AI (by omega) (by omega),Ix];unfold Je;obtain⟨o,ho1,ho2⟩:=JE (F:=F) ⟨hM,hvM,by omega,hA.hc⟩ hcN F (i+1) 0 [] (by omega) (by omega) (Uw 0) hn0 hg (by omega);rw[AP ho1,ho2,AP rfl,Mq h0 hdr hb,Ul k6,Int.sub_zero];rfl
   ·rw[A7 (by simp[k6]),hpl0 (by simp[pl,k1,k2,k3,k4,k5,k6])]
theorem Ni (hA:T0 (M+1) M v)(hN:∀c∈v,c.fN≤9223372036854775807){F:Nat}(hF:3*M+3<F):HY F v=some (decide (Gy v 0=v.length)):=by
 have hvM:=hA.hv;unfold HY;rw[Ma hA hN v.length F 0 (Uw 0) (by omega) (by simp) (by omega)];simp only[imp,Option.isSome_some,UF,BU,ov,U6]
 cases v with
 | nil=>simp[Gy,Mf]
 | cons c r=>
  rw[show decide (0<((c::r).length:Int))=true from by simp,Uz]
  first | done | rfl
end
theorem NJ {m:Bool}{last key:Option Ak}{r:List Ac}(h:Cc m last key=true):Gm m last (Bv key++r)=some (key,r):=by
 cases key with
 | none=>
  have:m=false:=by simpa[Cc] using h
  subst this;rfl
 | some s=>
  have h':=h;simp only[Cc,Ui] at h;obtain⟨⟨h1,h2⟩,h3⟩:=h;subst h1;have hp:pl ⟨4,0,s,0⟩=true:=by simp[pl,h2]
  show(bif pl ⟨4,0,s,0⟩&&decide ((4:Int)=4)&&Cc true last (some s) then _ else _)=_;rw[hp,h'];rfl
theorem Jh:∀(f:Fo) (m:Bool) (last:Option Ak) (ys:List Ac),f.wf m last=true→JJ m last f.cnt (f.flat++ys)=some (f,ys)
 | .nil,_,_,_,_=>rfl
 | .cell k c r,m,last,ys,hw=>by
  simp only[Fo.wf,Ui,U1] at hw;obtain⟨⟨⟨w1,w2⟩,w3⟩,w4⟩:=hw;simp only[Fo.cnt,Fo.flat,U5,UR];rw[Er,NJ w1];simp only[EU,w2,w3,Uu,Un,Jh r m k ys w4,Fo.put]
 | .node k c kids r,m,last,ys,hw=>by
  simp only[Fo.wf,Ui,Ud] at hw;obtain⟨⟨⟨⟨⟨w1,w2⟩,w3⟩,w5⟩,w6⟩,w4⟩:=hw;simp only[Fo.cnt,Fo.flat,U5,UR];rw[Er,NJ w1];have e:c.fN.toNat=kids.cnt:=by omega
  simp only[EU,w2,Ul w3,Uu,Un,Ut,e,Jh kids _ none (r.flat++ys) w6,Jh r m k ys w4,Fo.put]
theorem Rz {f:Fo}{ys:List Ac}(h1:f.one=true)(hw:f.wf false none=true):EV (f.flat++ys)=some (f,ys):=by
 have:=Jh f false none ys hw;have hc:f.cnt=1:=by
  cases f with
  | nil=>cases h1
  | cell k c r=>cases k with
   | some _=>cases h1
   | none=>cases r with
    | nil=>rfl
    | _=>cases h1
  | node k c kids r=>cases k with
   | some _=>cases h1
   | none=>cases r with
    | nil=>rfl
    | _=>cases h1
 rw[hc] at this;exact this
structure IW (M:Nat) (v:List Ac):Prop where
 hM:M≤1000000000
 hv:v.length≤M
 hc:∀c∈v,c.fStr.length≤M∧BH .i64 c.fInt=true∧c.fN≤9223372036854775807
theorem IW.lk {M F:Nat}{v:List Ac}(h:IW M v)(hF:M<F):Oh F M v:=⟨by have:=h.hM;omega,by have:=h.hM;omega,h.hv,hF,h.hc⟩
theorem IW.rf {M F:Nat}{v:List Ac}(h:IW M v)(hF:M<F):T0 F M v:=⟨by have:=h.hM;omega,h.hv,hF,λc hc=>(h.hc c hc).1⟩
theorem IW.drop {M:Nat}{v:List Ac}(h:IW M v)(k:Nat):IW M (v.drop k):=⟨h.hM,by have:=h.hv;rw[List.length_drop];omega,λc hc=>h.hc c (List.mem_of_mem_drop hc)⟩
theorem IW.take {M:Nat}{v:List Ac}(h:IW M v)(k:Nat):IW M (v.take k):=⟨h.hM,by have:=h.hv;rw[List.length_take];omega,λc hc=>h.hc c (List.mem_of_mem_take hc)⟩
def whole (v:List Ac):Option Fo:=match EV v with
 | some (f,[])=>some f
 | _=>none
theorem MU {v:List Ac}{f:Fo}(h:whole v=some f):v=f.flat∧f.wf false none=true∧f.one=true:=by
 unfold whole at h
 cases hp:EV v with
 | none=>rw[hp] at h;cases h
 | some q=>
  obtain⟨g,ys⟩:=q;rw[hp] at h
  cases ys with
  | cons _ _=>cases h
  | nil=>
   cases h
   obtain⟨h1,h2,h3⟩:=GU hp;exact⟨by simpa using h1,h2,h3⟩
def RM (f:Fo):Int:=
 bif f.flat.any Hc then 2 else bif f.flat.any Gz||(decide (200<f.flat.length)||(decide (8<f.dep)||decide (4000<(f.txt true).length))) then 3 else 0
def QH (v:List Ac):Int:=match whole v with
 | none=>1
 | some f=>RM f
theorem NL {f:Fo}(h1:f.one=true):f.cnt=1:=by
 cases f with
 | nil=>cases h1
 | cell k c r=>cases k with
  | some _=>cases h1
  | none=>cases r with
   | nil=>rfl
   | _=>cases h1
 | node k c kids r=>cases k with
  | some _=>cases h1
  | none=>cases r with
   | nil=>rfl
   | _=>cases h1
theorem Ll (s:Ak):Iy s≤2*s.length+2+s.length:=by
 have h1:s.count 34≤s.length:=List.count_le_length;have h2:s.count 92≤s.length:=List.count_le_length;unfold Iy;omega
theorem SD {c:Ac}{M:Nat}(hp:pl c=true)(hs:c.fStr.length≤M)(hi:(Lib.itoa c.fInt).length≤21):QV c≤3*M+21:=by
 have:=Ll c.fStr;unfold QV
 cases h1:decide (c.fKind=1) with
 | true=>simp only[Ut];omega
 | false=>
  cases h2:decide (c.fKind=2) with
  | true=>
   simp[pl,h1,h2] at hp;simp only[Un,Ut];omega
  | false=>
   cases h3:decide (c.fKind=3) with
   | true=>simp only[Un,Ut];omega
   | false=>cases h4:decide (c.fKind=4)<;>simp only[Un,Ut]<;>omega
theorem Lz {M:Nat}:∀{f:Fo} {m:Bool} {l:Option Ak},f.wf m l=true→(∀c∈f.flat,c.fStr.length≤M∧BH .i64 c.fInt=true∧c.fN≤9223372036854775807)→f.byt+f.cnt≤(3*M+24)*f.flat.length
 | .nil,_,_,_,_=>by simp[Fo.byt,Fo.flat,Fo.cnt]
 | .cell k c r,m,l,hw,hc=>by
  simp only[Fo.wf,Ui,U1] at hw;obtain⟨⟨⟨w1,w2⟩,w3⟩,w4⟩:=hw;simp only[Fo.flat] at hc;have ih:=Lz w4 (λx hx=>hc x (by simp[hx]));obtain⟨c1,c2,c3⟩:=hc c (by simp);have i64:=EC c2;have hl:=SD w2 c1 (Lib.itoa_length_le c.fInt i64.1 i64.2);have hk:Lq k≤(3*M+24)*(Bv k).length:=by
   cases k with
   | none=>simp[Lq,Bv]
   | some s=>
    have:=(hc ⟨4,0,s,0⟩ (by simp[Bv])).1;have h2:=Ll s;simp only at this;simp only[Lq,Bv,UK];omega
  simp only[Fo.byt,Fo.flat,Fo.cnt,Uq,Uo];have e:((3*(M:Int)+24)*(((Bv k).length+(r.flat.length+1):Nat):Int))=(3*(M:Int)+24)*(Bv k).length+((3*(M:Int)+24)*r.flat.length+(3*(M:Int)+24)):=by
   push_cast;rw[Int.mul_add,Int.mul_add,Int.mul_one]
  rw[e]
  push_cast at *
  omega
 | .node k c kids r,m,l,hw,hc=>by
  simp only[Fo.wf,Ui,Ud] at hw;obtain⟨⟨⟨⟨⟨w1,w2⟩,w3⟩,w5⟩,w6⟩,w4⟩:=hw;simp only[Fo.flat] at hc;have ih:=Lz w4 (λx hx=>hc x (by simp[hx]));have ih2:=Lz w6 (λx hx=>hc x (by simp[hx]));have hcf:=BT kids;have hk:Lq k≤(3*M+24)*(Bv k).length:=by
   cases k with
   | none=>simp[Lq,Bv]
   | some s=>
    have:=(hc ⟨4,0,s,0⟩ (by simp[Bv])).1;have h2:=Ll s;simp only at this;simp only[Lq,Bv,UK];omega
  simp only[Fo.byt,Fo.flat,Fo.cnt,Uq,Uo];have e:((3*(M:Int)+24)*(((Bv k).length+(kids.flat.length+r.flat.length+1):Nat):Int))=(3*(M:Int)+24)*(Bv k).length+((3*(M:Int)+24)*kids.flat.length+(3*(M:Int)+24)*r.flat.length+(3*(M:Int)+24)):=by
   push_cast;rw[Int.mul_add,Int.mul_add,Int.mul_add,Int.mul_one]
  rw[e]
  push_cast at *
  omega
theorem KQ {M:Nat}(hM:M≤1000000){f:Fo}{m:Bool}{l:Option Ak}(hw:f.wf m l=true)(hl:f.flat.length≤M)(hc:∀c∈f.flat,c.fStr.length≤M∧BH .i64 c.fInt=true∧c.fN≤9223372036854775807):f.byt≤4000000000000:=by
 have:=Lz (M:=M) hw hc;have h2:(3*M+24)*f.flat.length≤(3*1000000+24)*1000000:=Nat.mul_le_mul (by omega) (by omega);have h3:(((3*M+24)*f.flat.length:Nat):Int)=(3*(M:Int)+24)*f.flat.length:=by push_cast;rfl
 omega
theorem Ot {M F:Nat}{v:List Ac}(hA:IW M v)(hM:M≤1000000)(hF:M<F):J0 F v=some (QH v):=by
 unfold J0 QH whole;have hvM:=hA.hv;rcases RB (hA.lk hF) with⟨f,ys,hp,hl⟩ | ⟨hp,sh',hl⟩
 ·rw[hl,AP rfl,hp];obtain⟨h1,h2,h3⟩:=GU hp;have hlen:v.length=f.flat.length+ys.length:=by rw[h1];simp
  cases ys with
  | cons c r=>
   rw[AR];simp only[Uo] at hlen;simp;omega
  | nil=>
   simp only[UN,Nat.add_zero] at hlen;rw[A7 (by simp[hlen])];have hc:∀c∈f.flat,c.fStr.length≤M∧BH .i64 c.fInt=true∧c.fN≤9223372036854775807:=λc hc=>hA.hc c (by rw[h1];simp[hc]);have hb:=KQ hM h2 (by omega) hc;have hb0:=Gq h2;have e1:(f.sh 0 Kh).fOutside=f.flat.any Hc:=by rw[Lc];rfl
   have e2:(f.sh 0 Kh).fLong=f.flat.any Gz:=by rw[Jb];rfl
   have e3:(f.sh 0 Kh).fDepth=f.dep:=by rw[HQ f 0 Kh (by simp[Kh])];simp[Kh]
   have e4:(f.sh 0 Kh).fBytes=(f.txt true).length:=by
    rw[HR f false none 0 Kh h2 (by simp[Kh]) (by simp[Kh];omega),HK f false none true h2,NL h3];simp[Kh]
   simp only;rw[e1,e2,e3,e4,hlen];unfold RM
   cases f.flat.any Hc with
   | true=>rw[AR rfl];rfl
   | false=>
    rw[A7 rfl];have a1:decide ((200:Int)<(f.flat.length:Int))=decide (200<f.flat.length):=by rw[Uy];simp;omega
    have a2:decide ((8:Int)<(f.dep:Int))=decide (8<f.dep):=by rw[Uy];simp;omega
    have a3:decide ((4000:Int)<((f.txt true).length:Int))=decide (4000<(f.txt true).length):=by rw[Uy];simp;omega
    rw[a1,a2,a3]
    cases(f.flat.any Gz||(decide (200<f.flat.length)||(decide (8<f.dep)||decide (4000<(f.txt true).length))))<;>rfl
 ·rw[hl,AP rfl,hp];rfl
theorem Lo {v:List Ac}{p:Int}{f:Fo}{ys:List Ac}(h1:f.one=true)(hw:f.wf false none=true)(hd:v.drop p.toNat=f.flat++ys):Gy v p=p+f.flat.length:=by
 unfold Gy;rw[hd,Rz h1 hw]
theorem N3 {c:Ac}(hp:pl c=true)(hn:decide (0<c.fN)=false):(Fo.cell none c .nil).wf false none=true:=by simp[Fo.wf,Cc,hp,hn]
theorem N2 {c:Ac}{kids:Fo}(hp:pl c=true)(hn:0<c.fN)(hk:c.fN=kids.cnt)(hw:kids.wf (decide (c.fKind=6)) none=true):(Fo.node none c kids .nil).wf false none=true:=by simp[Fo.wf,Cc,hp,hn,hk,hw];omega
section
variable {M : Nat} {v : List Ac}
theorem IW.next (hA:IW M v){F:Nat}(hF:3*M+3<F){p:Int}(h0:0≤p)(h1:p≤v.length):C8 F v p=some (Gy v p):=by
 have hM:=hA.hM;have hvM:=hA.hv;exact Ma (hA.rf (Ur M)) (λc hc=>(hA.hc c hc).2.2) (v.length-p.toNat) F p h0 h1 rfl (by omega)
theorem HX {F:Nat}{p:Int}{c:Ac}{r:List Ac}(h0:0≤p)(hpM:p≤1152921504606846976)(hd:v.drop p.toNat=c::r)(hp:pl c=true)(hn:decide (0<c.fN)=false):Cj (F+2) v p=some 1:=by
 obtain⟨g1,g2,g3⟩:=B6 h0 hd;rw[Cj];unfold EQ;rw[Bd h0 g3,Cy h0 hd]
 cases hk:(!decide (c.fKind=5)&&!decide (c.fKind=6)) with
 | true=>rw[AR rfl]
 | false=>
  rw[A7 rfl,AI (by omega) (by omega),AP (Hn (o:=.go 0) (by
   show BZ (F+1) v p _ 0 (p+1) 0=_;unfold BZ;rw[Cy h0 hd,A7 hn]))]
  simp only[B9,Da];rw[AI (by omega) (by omega)];rfl
theorem K5 {F:Nat}{i:Int}{rec:List Ac→Int→Option Int}{most at_ x L:Int}{m:Bool}{p q:Int}{pc:Ac}(hpc:Aj v i=pc)(hm:decide (pc.fKind=6)=m)(hx:x<pc.fN)(hx0:0≤x)(hpcN:pc.fN≤9223372036854775807)
  (ha0:0≤at_) (haM:at_≤1152921504606846976) (hp:p=bif m then at_+1 else at_) (hr:rec v p=some L) (hq:C8 F v p=some q):BZ F v i rec most at_ x=some (.next (max most L,q,x+1)):=by
 unfold BZ;rw[hpc,AR (by simpa using hx),hm]
 cases m with
 | true=>
  simp only[Ut] at hp;rw[AR rfl,AI (by omega) (by omega),← hp,hr,AP rfl]
  cases hl:decide (most<L) with
  | true=>rw[AR rfl,hq,AP rfl,AI (by omega) (by omega),Int.max_eq_right (by simp at hl;omega)]
  | false=>rw[A7 rfl,hq,AP rfl,AI (by omega) (by omega),Int.max_eq_left (by simp at hl;omega)]
 | false=>
  simp only[Un] at hp;rw[A7 rfl,← hp,hr,AP rfl]
  cases hl:decide (most<L) with
  | true=>rw[AR rfl,hq,AP rfl,AI (by omega) (by omega),Int.max_eq_right (by simp at hl;omega)]
  | false=>rw[A7 rfl,hq,AP rfl,AI (by omega) (by omega),Int.max_eq_left (by simp at hl;omega)]
theorem Jk {m:Bool}{last key:Option Ak}(h:Cc m last key=true):((Bv key).length:Int)=bif m then 1 else 0:=by
  cases key with
  | none=>
            have:m=false:=by simpa[Cc] using h
            subst this;rfl
  | some s=>simp only[Cc,Ui] at h;rw[h.1.1];rfl
theorem Mc (hA:IW M v):∀(g:Fo) (F L:Nat) (i at_ x most:Int) (m:Bool) (last:Option Ak) (ys:List Ac) (pc:Ac),Aj v i=pc→decide (pc.fKind=6)=m→pc.fN≤9223372036854775807→g.wf m last=true→v.drop at_.toNat=g.flat++ys→0≤at_→at_≤v.length→pc.fN=x+g.cnt→0≤x→0≤most→most≤1152921504606846976→g.cnt<L→3*M+5+g.flat.length<F→
  ∃o,Cu (λσ=>BZ F v i (Cj F) σ.1 σ.2.1 σ.2.2) L (most,at_,x)=some o∧B9 (λν=>Da ν) o=some (max most (g.dep:Int)+1):=by
 have hM:=hA.hM;have hvM:=hA.hv;have fin:∀(F L:Nat) (i at_ x most:Int) (pc:Ac),Aj v i=pc→pc.fN≤x→0≤most→most≤1152921504606846976→0<L→∃o,Cu (λσ=>BZ F v i (Cj F) σ.1 σ.2.1 σ.2.2) L (most,at_,x)=some o∧B9 (λν=>Da ν) o=some (most+1):=λF L i at_ x most pc hpc hx h0 hb hL=>by
  obtain⟨L,rfl⟩:∃K,L=K+1:=⟨L-1,by omega⟩
  refine⟨.go most,Hn (by show BZ F v i _ most at_ x=_;unfold BZ;rw[hpc,A7 (by simp;omega)]),?_⟩;simp only[B9,Da];rw[AI (by omega) (by omega)]
 have depM:∀g:Fo,g.dep≤g.flat.length:=by
  intro g
  induction g with
  | nil=>simp[Fo.dep]
  | cell k c r ih=>simp[Fo.dep,Fo.flat];omega
  | node k c kids r ih1 ih2=>simp[Fo.dep,Fo.flat];omega
 intro g
 induction g with
 | nil=>
  intro F L i at_ x most m last ys pc hpc hm hpN hw hd h0 h1 hN hx hmo hmM hL hF;obtain⟨o,h1,h2⟩:=fin F L i at_ x most pc hpc (by simp[Fo.cnt] at hN;omega) hmo hmM (by omega);exact⟨o,h1,by rw[h2];simp only[Fo.dep];congr 2<;>omega⟩
 | cell k c r ih=>
  intro F L i at_ x most m last ys pc hpc hm hpN hw hd h0 h1 hN hx hmo hmM hL hF;simp only[Fo.wf,Ui,U1] at hw;obtain⟨⟨⟨w1,w2⟩,w3⟩,w4⟩:=hw;simp only[Fo.flat,U5,UR] at hd;simp only[Fo.cnt] at hN hL;simp only[Fo.flat,Uq,Uo] at hF;obtain⟨L,rfl⟩:∃K,L=K+1:=⟨L-1,by omega⟩
  obtain⟨F,rfl⟩:∃K,F=K+2:=⟨F-2,by omega⟩
  have hd1:=C3 h0 hd;have hkl:=Jk w1;obtain⟨g1,g2,g3⟩:=B6 (by omega) hd1;have hlen:at_+(Bv k).length=bif m then at_+1 else at_:=by rw[hkl];cases m<;>simp
  have hq:=hA.next (F:=F+2) (by omega) (p:=at_+(Bv k).length) (by omega) (by omega);rw[Lo (f:=.cell none c .nil) (ys:=r.flat++ys) rfl (N3 w2 w3) hd1] at hq;have hb:=K5 (most:=most) (x:=x) hpc hm (by omega) hx hpN h0 (by omega) hlen (HX (F:=F) (by omega) (by omega) hd1 w2 w3) hq;have hdd:=depM r;obtain⟨o,ho1,ho2⟩:=ih (F+2) L i (at_+(Bv k).length+((Fo.cell none c .nil).flat.length:Int)) (x+1) (max most 1) m k ys pc hpc hm hpN w4 (by rw[show(Fo.cell none c .nil).flat.length=1 from rfl];exact g2) (by omega) (by rw[show(Fo.cell none c .nil).flat.length=1 from rfl];omega) (by omega) (by omega) (by omega) (by omega) (by omega) (by omega);refine⟨o,KD hb ho1,?_⟩;rw[ho2,Fo.dep];congr 2<;>omega
 | node k c kids r ihk ih=>
  intro F L i at_ x most m last ys pc hpc hm hpN hw hd h0 h1 hN hx hmo hmM hL hF;simp only[Fo.wf,Ui,Ud] at hw;obtain⟨⟨⟨⟨⟨w1,w2⟩,w3⟩,w5⟩,w6⟩,w4⟩:=hw;simp only[Fo.flat,U5,UR] at hd;simp only[Fo.cnt] at hN hL;simp only[Fo.flat,Uq,Uo] at hF;obtain⟨L,rfl⟩:∃K,L=K+1:=⟨L-1,by omega⟩
  obtain⟨F,rfl⟩:∃K,F=K+1:=⟨F-1,by omega⟩
  have hd1:=C3 h0 hd;have hkl:=Jk w1;obtain⟨g1,g2,g3⟩:=B6 (by omega) hd1;have hcN:=(hA.hc c (Um g1)).2.2;have hlen:at_+(Bv k).length=bif m then at_+1 else at_:=by rw[hkl];cases m<;>simp
  have hq:=hA.next (F:=F+1) (by omega) (p:=at_+(Bv k).length) (by omega) (by omega);have hfl:(Fo.node none c kids .nil).flat=c::kids.flat:=by simp[Fo.flat,Bv]
  rw[Lo (f:=.node none c kids .nil) (ys:=r.flat++ys) rfl (N2 w2 w3 w5 w6) (by rw[hd1,hfl];simp)] at hq;have hdk:=depM kids;have hdd:=depM r;have hcf:=BT kids;have hvl:(v.drop (at_+(Bv k).length+1).toNat).length=kids.flat.length+(r.flat.length+ys.length):=by rw[g2];simp
  rw[List.length_drop] at hvl;have hrec:Cj (F+1) v (at_+(Bv k).length)=some ((kids.dep:Int)+1):=by
   rw[Cj];unfold EQ;rw[Bd (by omega) g3,Cy (by omega) hd1];have ha:=(Ib w2 w3).1;rw[A7 (by simp;omega),AI (by omega) (by omega)];obtain⟨o,ho1,ho2⟩:=ihk F F (at_+(Bv k).length) (at_+(Bv k).length+1) 0 0 _ none (r.flat++ys) c (Cy (by omega) hd1) rfl hcN w6 (by rw[g2]) (by omega) (by omega) (by omega) (Uw 0) (Uw 0) (by omega) (by omega) (by omega);rw[AP ho1,ho2];congr 2<;>omega
  have hb:=K5 (most:=most) (x:=x) hpc hm (by omega) hx hpN h0 (by omega) hlen hrec hq;obtain⟨o,ho1,ho2⟩:=ih (F+1) L i (at_+(Bv k).length+((Fo.node none c kids .nil).flat.length:Int)) (x+1) (max most ((kids.dep:Int)+1)) m k ys pc hpc hm hpN w4 (by
   have:=C3 (by omega) g2;rw[hfl,Uo,show at_+(Bv k).length+((kids.flat.length+1:Nat):Int)=at_+(Bv k).length+1+kids.flat.length from by omega];exact this) (by omega) (by rw[hfl,Uo];omega) (by omega) (by omega) (by omega) (by omega) (by omega) (by omega)
  refine⟨o,KD hb ho1,?_⟩;rw[ho2,Fo.dep];congr 2<;>omega
theorem Nh (hA:IW M v){F:Nat}{p:Int}{f:Fo}{ys:List Ac}(h0:0≤p)(h1:f.one=true)(hw:f.wf false none=true)(hd:v.drop p.toNat=f.flat++ys)(hF:3*M+6+f.flat.length<F):Cj F v p=some (f.dep:Int):=by
 have hM:=hA.hM;have hvM:=hA.hv
 cases f with
 | nil=>cases h1
 | cell k c r=>
  cases k with
  | some s=>cases h1
  | none=>
   cases r with
   | nil=>
    simp only[Fo.wf,Ui,U1] at hw;obtain⟨F,rfl⟩:∃K,F=K+2:=⟨F-2,by omega⟩
    have hd':v.drop p.toNat=c::ys:=by simpa[Fo.flat,Bv] using hd
    rw[HX h0 (by have:=(B6 h0 hd').2.2;omega) hd' hw.1.1.2 hw.1.2];rfl
   | cell _ _ _=>cases h1
   | node _ _ _ _=>cases h1
 | node k c kids r=>
  cases k with
  | some s=>cases h1
  | none=>
   cases r with
   | nil=>
    simp only[Fo.wf,Ui,Ud] at hw;obtain⟨⟨⟨⟨⟨w1,w2⟩,w3⟩,w5⟩,w6⟩,w4⟩:=hw;have hd':v.drop p.toNat=c::(kids.flat++ys):=by simpa[Fo.flat,Bv] using hd
    obtain⟨g1,g2,g3⟩:=B6 h0 hd';have hcN:=(hA.hc c (Um g1)).2.2;have hcf:=BT kids;simp only[Fo.flat,Bv,List.nil_append,UO,Uo] at hF;obtain⟨F,rfl⟩:∃K,F=K+1:=⟨F-1,by omega⟩
    rw[Cj];unfold EQ;have ha:=(Ib w2 w3).1;rw[Bd h0 g3,Cy h0 hd',A7 (by simp;omega),AI (by omega) (by omega)];obtain⟨o,ho1,ho2⟩:=Mc hA kids F F p (p+1) 0 0 _ none ys c (Cy h0 hd') rfl hcN w6 g2 (by omega) (by omega) (by omega) (Uw 0) (Uw 0) (by omega) (by omega) (by omega);rw[AP ho1,ho2];simp only[Fo.dep];congr 1<;>omega
   | cell _ _ _=>cases h1
   | node _ _ _ _=>cases h1
end
def Pe (c:UInt8):Ak:=bif (decide (c=34)||decide (c=92)) then[92,c] else[c]
theorem Pd {s:Ak}{k:Nat}{c:UInt8}(h:s[k]? =some c):Ka (s.take (k+1))=Ka (s.take k)++Pe c:=by
 rw[List.take_add_one,h];simp[Ka,List.flatMap_append,Pe]
theorem MD (s:Ak):(Ka s).length≤3*s.length:=by
 rw[JZ];have h1:s.count 34≤s.length:=List.count_le_length;have h2:s.count 92≤s.length:=List.count_le_length;omega
theorem MV {s:Ak}{x:Int}{c:UInt8}(h0:0≤x)(h:s[x.toNat]? =some c):List.take (Int.toNat (x+1)-Int.toNat x) (List.drop (Int.toNat x) s)=[c]:=by
 have hl:=(List.getElem?_eq_some_iff.1 h).1;have hc:=(List.getElem?_eq_some_iff.1 h).2;rw[show Int.toNat (x+1)-Int.toNat x=1 from by omega,List.drop_eq_getElem_cons hl,hc];rfl
theorem Ty {s:Ak}{x:Int}{c:UInt8}(h:s[x.toNat]? =some c):decide (DC s x=34)=decide (c=34):=by
 rw[L2 h,Uy,decide_eq_true_iff,decide_eq_true_iff,← UInt8.toNat_inj];show _↔c.toNat=34;omega
theorem Tx {s:Ak}{x:Int}{c:UInt8}(h:s[x.toNat]? =some c):decide (DC s x=92)=decide (c=92):=by
 rw[L2 h,Uy,decide_eq_true_iff,decide_eq_true_iff,← UInt8.toNat_inj];show _↔c.toNat=92;omega
theorem Lg {s out:Ak}{x:Int}{c:UInt8}(h0:0≤x)(hx:x<(s.length:Int))(hs:s.length≤1152921504606846976)(ho:out.length≤3*s.length+1)(hc:s[x.toNat]? =some c):Cg s out x=some (.next (out++Pe c,x+1)):=by
 unfold Cg Pe;rw[AR (Ul hx),Bd h0 hx,Ty hc,Tx hc,MV h0 hc];have l1:(([92]:Ak).length:Int)=1:=rfl;have l2:(([c]:Ak).length:Int)=1:=rfl
 cases hq:(decide (c=34)||decide (c=92)) with
 | true=>
  have l3:((out++([92]:Ak)).length:Int)=out.length+1:=by rw[Uq,UK,Int.natCast_add];rfl
  rw[AR rfl,l1,l2,l3,AI (by omega) (by omega),AI (by omega) (by omega),DX (by omega) (by omega),DX (by omega) (by omega),AI (by omega) (by omega),U5];rfl
 | false=>
  rw[A7 rfl,l2,AI (by omega) (by omega),DX (by omega) (by omega),DX (by omega) (by omega),AI (by omega) (by omega)];rfl
theorem Id {R V:Type}(K:V→Option R)(v:V):B9 K (.go v)=K v:=rfl
theorem Mh {R V:Type}(K:V→Option R)(r:R):B9 K (.ret r)=some r:=rfl
theorem LZ {s out:Ak}{x:Int}(hx : ¬ x<(s.length:Int)):Cg s out x=some (.out (.go out)):=by
 unfold Cg;rw[A7 (Uh hx)]
theorem O2 {out:Ak}(h:out.length≤4611686018427387904):CD out=some (out++[34]):=by
 unfold CD;have l1:(([34]:Ak).length:Int)=1:=rfl;rw[l1,AI (by omega) (by omega)]
theorem H3 {F:Nat}{s:Ak}(hF:s.length<F)(hs:s.length≤1152921504606846976):Gi F s=some (H5 s):=by
 obtain⟨o,h1,h2⟩:=CG (body:=λσ=>Cg s σ.1 σ.2) (λσ=>0≤σ.2∧σ.2≤(s.length:Int)∧σ.1=34::Ka (s.take σ.2.toNat)) (λσ=>s.length-σ.2.toNat)
  (λo=>B9 (λν=>CD ν) o=some (H5 s)) (λσ ⟨h0,hl,ha⟩=>by
   obtain⟨out,x⟩:=σ;simp only at h0 hl ha;show(∃s',Cg s out x=_∧_)∨∃o,Cg s out x=_∧_;have hb:=MD (s.take x.toNat);have hb2:(s.take x.toNat).length≤s.length:=by rw[List.length_take];omega
   have hol:out.length≤3*s.length+1:=by rw[ha,Uo];omega
   by_cases hx:x<(s.length:Int)
   ·obtain⟨c,hc⟩:∃c,s[x.toNat]? =some c:=⟨s[x.toNat]'(by omega),Uj (by omega)⟩
    have a1:0≤x+1:=by omega
    have a2:x+1≤s.length:=by omega
    have a3:s.length-(x+1).toNat<s.length-x.toNat:=by omega
    have a4:out++Pe c=34::Ka (s.take (x+1).toNat):=by rw[show(x+1).toNat=x.toNat+1 from by omega,Pd hc,ha];rfl
    exact .inl ⟨(out++Pe c,x+1),Lg h0 hx hs hol hc,⟨a1,a2,a4⟩,a3⟩
   ·have e:x.toNat=s.length:=by omega
    have hk:CD out=some (out++[34]):=O2 (by omega);have hf:out++[34]=H5 s:=by rw[ha,e,UQ];rfl
    exact .inr ⟨.go out,LZ hx,(Id (λν=>CD ν) out).trans (hk.trans (congrArg some hf))⟩) F ([34],0) ⟨Uw 0,by show(0:Int)≤s.length;omega,by show([34]:Ak)=34::Ka (s.take 0);simp[Ka]⟩ (by show s.length-0<F;omega)
 unfold Gi;rw[AP h1,h2]
section
variable {M : Nat} {v : List Ac}
theorem TO (a b c d e:Ak):(((a++b)++c)++d)++e=a++(b++(c++d)++e):=by simp
theorem TP (a b c d:Ak):((a++b)++c)++d=a++([]++(b++c)++d):=by simp
theorem TQ (a b c:Ak):(a++b)++c=a++(b++[]++c):=by simp
theorem TR (a b:Ak):a++b=a++([]++[]++b):=by simp
theorem RD (a:Ak)(c:UInt8):((a++[c]).length:Int)=a.length+1:=by rw[Uq,UK,Int.natCast_add];rfl
theorem M0 (a b:Ak):((a++b).length:Int)=a.length+b.length:=by rw[Uq,Int.natCast_add]
theorem K2 {F:Nat}{i:Int}{rec:List Ac→Int→Option Ak}{out tx:Ak}{at_ x:Int}{m:Bool}{p q:Int}{pc:Ac}{key:Option Ak}{last:Option Ak}(hpc:Aj v i=pc)(hm:decide (pc.fKind=6)=m)(hx:x<pc.fN)(hx0:0≤x)(hpcN:pc.fN≤9223372036854775807)
  (ha0:0≤at_) (haM:at_<v.length) (hvM:(v.length:Int)≤1152921504606846976) (hk:Cc m last key=true) (hkey:∀s,key=some s→(Aj v at_).fStr=s∧s.length<F∧s.length≤1152921504606846976) (hp:p=bif m then at_+1 else at_) (hr:rec v p=some tx) (hq:C8 F v p=some q)
  (hlen:((out++(EN (decide (x=0))++KH key++tx)).length:Int)≤4611686018427387904):CZ F v i rec out at_ x=some (.next (out++(EN (decide (x=0))++KH key++tx),q,x+1)):=by
 have hb:(([44]:Ak).length:Int)=1:=rfl;have hd:(([58]:Ak).length:Int)=1:=rfl;have hx1:Bk (BH .i64 (x+1)) (some (Stp.next (out++(EN (decide (x=0))++KH key++tx),q,x+1)):Option (Stp (Ak×Int×Int) (Out Ak Ak)))=some (Stp.next (out++(EN (decide (x=0))++KH key++tx),q,x+1)):=AI (by omega) (by omega);unfold CZ;rw[hpc,AR (Ul hx),hm]
 cases ha:decide (x=0) with
 | true=>
  rw[ha] at hx1 hlen;simp only[Ud] at ha;rw[A7 (Uh (by omega))]
  cases m with
  | true=>
   cases key with
   | none=>simp[Cc] at hk
   | some s=>
    obtain⟨e1,e2,e3⟩:=hkey s rfl;simp only[Ut] at hp;have e:((out++H5 s)++[58])++tx=out++(EN true++KH (some s)++tx):=TP _ _ _ _;rw[← e] at hx1 hlen ⊢;have h1:=M0 ((out++H5 s)++[58]) tx;have h2:=RD (out++H5 s) 58;have h3:=M0 out (H5 s);rw[AR rfl,Bd ha0 haM,e1,H3 e2 e3,AP rfl,AI (by omega) (by omega),hd,AI (by omega) (by omega),AI (by omega) (by omega),← hp,hr,AP rfl,AI (by omega) (by omega),hq,AP rfl,hx1]
  | false=>
   cases key with
   | some s=>simp[Cc] at hk
   | none=>
    simp only[Un] at hp;have e:out++tx=out++(EN true++KH none++tx):=TR _ _;rw[← e] at hx1 hlen ⊢;have h1:=M0 out tx;rw[A7 rfl,← hp,hr,AP rfl,AI (by omega) (by omega),hq,AP rfl,hx1]
 | false=>
  rw[ha] at hx1 hlen;simp only[Ue] at ha;rw[AR (Ul (by omega))]
  cases m with
  | true=>
   cases key with
   | none=>simp[Cc] at hk
   | some s=>
    obtain⟨e1,e2,e3⟩:=hkey s rfl;simp only[Ut] at hp;have e:(((out++[44])++H5 s)++[58])++tx=out++(EN false++KH (some s)++tx):=TO _ _ _ _ _;rw[← e] at hx1 hlen ⊢;have h1:=M0 (((out++[44])++H5 s)++[58]) tx;have h2:=RD ((out++[44])++H5 s) 58;have h3:=M0 (out++[44]) (H5 s);have h4:=RD out 44;rw[hb,AI (by omega) (by omega),AR rfl,Bd ha0 haM,e1,H3 e2 e3,AP rfl,AI (by omega) (by omega),hd,AI (by omega) (by omega),AI (by omega) (by omega),← hp,hr,AP rfl,AI (by omega) (by omega),hq,AP rfl,hx1]
  | false=>
   cases key with
   | some s=>simp[Cc] at hk
   | none=>
    simp only[Un] at hp;have e:(out++[44])++tx=out++(EN false++KH none++tx):=TQ _ _ _;rw[← e] at hx1 hlen ⊢;have h1:=M0 (out++[44]) tx;have h4:=RD out 44;rw[hb,AI (by omega) (by omega),A7 rfl,← hp,hr,AP rfl,AI (by omega) (by omega),hq,AP rfl,hx1]
theorem NG {i:Int}{pc:Ac}{out:Ak}(hpc:Aj v i=pc)(h:out.length≤4611686018427387904):Ey v i out=some (Pu pc out):=by
 unfold Ey Pu;have l1:(([123]:Ak).length:Int)=1:=rfl;have l2:(([91]:Ak).length:Int)=1:=rfl;have l3:(([125]:Ak).length:Int)=1:=rfl;have l4:(([93]:Ak).length:Int)=1:=rfl;have h1:=M0 [123] out;have h2:=M0 [91] out;rw[hpc]
 cases hk:decide (pc.fKind=6) with
 | true=>rw[AR rfl,AI (by omega) (by omega),AI (by omega) (by omega)];rfl
 | false=>rw[A7 rfl,AI (by omega) (by omega),AI (by omega) (by omega)];rfl
theorem JA {F:Nat}{p:Int}{c:Ac}{r:List Ac}(h0:0≤p)(hpM:p≤1152921504606846976)(hd:v.drop p.toNat=c::r)(hp:pl c=true)(hn:decide (0<c.fN)=false)(hs:c.fStr.length<F+1)(hs2:c.fStr.length≤1152921504606846976)(hi:BH .i64 c.fInt=true):Ee (F+2) v p=some (IM c):=by
 obtain⟨g1,g2,g3⟩:=B6 h0 hd;rw[Ee];unfold Iv IM;rw[Bd h0 g3,Cy h0 hd]
 cases k1:decide (c.fKind=1) with
 | true=>rw[AR rfl];rfl
 | false=>
 rw[A7 rfl]
 cases k2:decide (c.fKind=2) with
 | true=>rw[AR rfl];cases decide (c.fInt=1)<;>rfl
 | false=>
 rw[A7 rfl]
 cases k3:decide (c.fKind=3) with
 | true=>rw[AR rfl,BU hi];rfl
 | false=>
 rw[A7 rfl]
 cases k4:decide (c.fKind=4) with
 | true=>rw[AR rfl,H3 hs hs2,AP rfl];rfl
 | false=>
 have hgo:CZ (F+1) v p (Ee (F+1)) [] (p+1) 0=some (.out (.go [])):=by
  unfold CZ;rw[Cy h0 hd,A7 hn]
 rw[A7 rfl,AI (by omega) (by omega),AP (Hn (o:=.go []) hgo),Id,NG (Cy h0 hd) (by simp)];simp only[Un,Pu]
 cases decide (c.fKind=6)<;>rfl
end
section
variable {M : Nat} {v : List Ac}
theorem R3 {α:Type}[Inhabited α](a:α):ov (some a)=a:=rfl
theorem Q9 {at_:Int}{k:Option Ak}{r:List Ac}(h0:0≤at_)(hA:IW M v){F:Nat}(hF:M<F)(hd:v.drop at_.toNat=Bv k++r):∀s,k=some s→(Aj v at_).fStr=s∧s.length<F∧s.length≤1152921504606846976:=λs e=>by
 subst e;have hd':v.drop at_.toNat=⟨4,0,s,0⟩::r:=by simpa[Bv] using hd
 have h1:=Cy h0 hd';have h2:=(hA.hc _ (Um (B6 h0 hd').1)).1;have hM:=hA.hM;simp only at h2;exact⟨by rw[h1],by omega,by omega⟩
theorem LV (hA:IW M v):∀(g:Fo) (F L:Nat) (i at_ x:Int) (out:Ak) (m:Bool) (last:Option Ak) (ys:List Ac) (pc:Ac),Aj v i=pc→decide (pc.fKind=6)=m→pc.fN≤9223372036854775807→g.wf m last=true→v.drop at_.toNat=g.flat++ys→0≤at_→at_≤v.length→pc.fN=x+g.cnt→0≤x→(out++g.txt (decide (x=0))).length≤4611686018427387904→g.cnt<L→3*M+5+g.flat.length<F→
  ∃o,Cu (λσ=>CZ F v i (Ee F) σ.1 σ.2.1 σ.2.2) L (out,at_,x)=some o∧B9 (λν=>Ey v i ν) o=some (Pu pc (out++g.txt (decide (x=0)))):=by
 have hM:=hA.hM;have hvM:=hA.hv;intro g
 induction g with
 | nil=>
  intro F L i at_ x out m last ys pc hpc hm hpN hw hd h0 h1 hN hx hlen hL hF;obtain⟨L,rfl⟩:∃K,L=K+1:=⟨L-1,by omega⟩
  have hgo:CZ F v i (Ee F) out at_ x=some (.out (.go out)):=by
   simp only[Fo.cnt] at hN;unfold CZ;rw[hpc,A7 (Uh (by omega))]
  refine⟨.go out,Hn hgo,?_⟩;simp only[Fo.txt,UO] at hlen ⊢;rw[Id,NG hpc hlen]
 | cell k c r ih=>
  intro F L i at_ x out m last ys pc hpc hm hpN hw hd h0 h1 hN hx hlen hL hF;simp only[Fo.wf,Ui,U1] at hw;obtain⟨⟨⟨w1,w2⟩,w3⟩,w4⟩:=hw;simp only[Fo.flat,U5,UR] at hd;simp only[Fo.cnt] at hN hL;simp only[Fo.flat,Uq,Uo] at hF;obtain⟨L,rfl⟩:∃K,L=K+1:=⟨L-1,by omega⟩
  obtain⟨F,rfl⟩:∃K,F=K+2:=⟨F-2,by omega⟩
  have hd1:=C3 h0 hd;have hkl:=Jk w1;obtain⟨g1,g2,g3⟩:=B6 (by omega) hd1;have hcM:=hA.hc c (Um g1);have hp:at_+(Bv k).length=bif m then at_+1 else at_:=by rw[hkl];cases m<;>simp
  have hq:=hA.next (F:=F+2) (by omega) (p:=at_+(Bv k).length) (by omega) (by omega);rw[Lo (f:=.cell none c .nil) (ys:=r.flat++ys) rfl (N3 w2 w3) hd1] at hq;have e:out++(Fo.cell k c r).txt (decide (x=0))=(out++(EN (decide (x=0))++KH k++IM c))++r.txt (decide (x+1=0)):=by
   rw[Uh (show ¬ x+1=0 by omega)];simp[Fo.txt]
  rw[e] at hlen ⊢;have hl2:((out++(EN (decide (x=0))++KH k++IM c)).length:Int)≤4611686018427387904:=by rw[Uq] at hlen;omega
  have hat:at_<v.length:=by omega
  have hb:=K2 hpc hm (by omega) hx hpN h0 hat (by omega) w1 (Q9 h0 hA (F:=F+2) (by omega) hd) hp (JA (F:=F) (by omega) (by omega) hd1 w2 w3 (by omega) (by omega) hcM.2.1) hq hl2;obtain⟨o,ho1,ho2⟩:=ih (F+2) L i (at_+(Bv k).length+((Fo.cell none c .nil).flat.length:Int)) (x+1) (out++(EN (decide (x=0))++KH k++IM c)) m k ys pc hpc hm hpN w4 (by rw[show(Fo.cell none c .nil).flat.length=1 from rfl];exact g2) (by omega) (by rw[show(Fo.cell none c .nil).flat.length=1 from rfl];omega) (by omega) (by omega) hlen (by omega) (by omega);exact⟨o,KD hb ho1,ho2⟩
 | node k c kids r ihk ih=>
  intro F L i at_ x out m last ys pc hpc hm hpN hw hd h0 h1 hN hx hlen hL hF;simp only[Fo.wf,Ui,Ud] at hw;obtain⟨⟨⟨⟨⟨w1,w2⟩,w3⟩,w5⟩,w6⟩,w4⟩:=hw;simp only[Fo.flat,U5,UR] at hd;simp only[Fo.cnt] at hN hL;simp only[Fo.flat,Uq,Uo] at hF;obtain⟨L,rfl⟩:∃K,L=K+1:=⟨L-1,by omega⟩
  obtain⟨F,rfl⟩:∃K,F=K+1:=⟨F-1,by omega⟩
  have hd1:=C3 h0 hd;have hkl:=Jk w1;obtain⟨g1,g2,g3⟩:=B6 (by omega) hd1;have hcN:=(hA.hc c (Um g1)).2.2;have hp:at_+(Bv k).length=bif m then at_+1 else at_:=by rw[hkl];cases m<;>simp
  have hq:=hA.next (F:=F+1) (by omega) (p:=at_+(Bv k).length) (by omega) (by omega);have hfl:(Fo.node none c kids .nil).flat=c::kids.flat:=by simp[Fo.flat,Bv]
  rw[Lo (f:=.node none c kids .nil) (ys:=r.flat++ys) rfl (N2 w2 w3 w5 w6) (by rw[hd1,hfl];simp)] at hq;have hcf:=BT kids;have hvl:(v.drop (at_+(Bv k).length+1).toNat).length=kids.flat.length+(r.flat.length+ys.length):=by rw[g2];simp
  rw[List.length_drop] at hvl;have e:out++(Fo.node k c kids r).txt (decide (x=0))=(out++(EN (decide (x=0))++KH k++Pu c (kids.txt true)))++r.txt (decide (x+1=0)):=by
   rw[Uh (show ¬ x+1=0 by omega)];simp[Fo.txt]
  rw[e] at hlen ⊢;have hl2:((out++(EN (decide (x=0))++KH k++Pu c (kids.txt true))).length:Int)≤4611686018427387904:=by rw[Uq] at hlen;omega
  have hl3:(kids.txt true).length≤4611686018427387904:=by
   have:=L0 c (kids.txt true);rw[Uq,Uq] at hl2;omega
  have hat:at_<v.length:=by omega
  have hrec:Ee (F+1) v (at_+(Bv k).length)=some (Pu c (kids.txt true)):=by
   rw[Ee];unfold Iv;have ha:=(Ib w2 w3).1;rw[Bd (by omega) g3,Cy (by omega) hd1,A7 (Uh (by omega)),A7 (Uh (by omega)),A7 (Uh (by omega)),A7 (Uh (by omega)),AI (by omega) (by omega)];obtain⟨o,ho1,ho2⟩:=ihk F F (at_+(Bv k).length) (at_+(Bv k).length+1) 0 [] _ none (r.flat++ys) c (Cy (by omega) hd1) rfl hcN w6 (by rw[g2]) (by omega) (by omega) (by omega) (Uw 0) hl3 (by omega) (by omega);rw[AP ho1,ho2];rfl
  have hb:=K2 hpc hm (by omega) hx hpN h0 hat (by omega) w1 (Q9 h0 hA (F:=F+1) (by omega) hd) hp hrec hq hl2;obtain⟨o,ho1,ho2⟩:=ih (F+1) L i (at_+(Bv k).length+((Fo.node none c kids .nil).flat.length:Int)) (x+1) (out++(EN (decide (x=0))++KH k++Pu c (kids.txt true))) m k ys pc hpc hm hpN w4 (by
   have:=C3 (by omega) g2;rw[hfl,Uo,show at_+(Bv k).length+((kids.flat.length+1:Nat):Int)=at_+(Bv k).length+1+kids.flat.length from by omega];exact this) (by omega) (by rw[hfl,Uo];omega) (by omega) (by omega) hlen (by omega) (by omega)
  exact⟨o,KD hb ho1,ho2⟩
theorem PR (hA:IW M v){F:Nat}{p:Int}{f:Fo}{ys:List Ac}(h0:0≤p)(h1:f.one=true)(hw:f.wf false none=true)(hd:v.drop p.toNat=f.flat++ys)(hF:3*M+6+f.flat.length<F)(hlen:(f.txt true).length≤4611686018427387904):Ee F v p=some (f.txt true):=by
 have hM:=hA.hM;have hvM:=hA.hv
 cases f with
 | nil=>cases h1
 | cell k c r=>
  cases k with
  | some s=>cases h1
  | none=>
   cases r with
   | nil=>
    simp only[Fo.wf,Ui,U1] at hw;obtain⟨F,rfl⟩:∃K,F=K+2:=⟨F-2,by omega⟩
    have hd':v.drop p.toNat=c::ys:=by simpa[Fo.flat,Bv] using hd
    have hcM:=hA.hc c (Um (B6 h0 hd').1);rw[JA h0 (by have:=(B6 h0 hd').2.2;omega) hd' hw.1.1.2 hw.1.2 (by omega) (by omega) hcM.2.1];simp[Fo.txt,EN,KH]
   | cell _ _ _=>cases h1
   | node _ _ _ _=>cases h1
 | node k c kids r=>
  cases k with
  | some s=>cases h1
  | none=>
   cases r with
   | nil=>
    simp only[Fo.wf,Ui,Ud] at hw;obtain⟨⟨⟨⟨⟨w1,w2⟩,w3⟩,w5⟩,w6⟩,w4⟩:=hw;have hd':v.drop p.toNat=c::(kids.flat++ys):=by simpa[Fo.flat,Bv] using hd
    obtain⟨g1,g2,g3⟩:=B6 h0 hd';have hcN:=(hA.hc c (Um g1)).2.2;have hcf:=BT kids;simp only[Fo.flat,Bv,List.nil_append,UO,Uo] at hF;have et:(Fo.node none c kids .nil).txt true=Pu c (kids.txt true):=by simp[Fo.txt,EN,KH]
    rw[et] at hlen ⊢;have hbl:=L0 c (kids.txt true);obtain⟨F,rfl⟩:∃K,F=K+1:=⟨F-1,by omega⟩
    rw[Ee];unfold Iv;have ha:=(Ib w2 w3).1;rw[Bd h0 g3,Cy h0 hd',A7 (Uh (by omega)),A7 (Uh (by omega)),A7 (Uh (by omega)),A7 (Uh (by omega)),AI (by omega) (by omega)];obtain⟨o,ho1,ho2⟩:=LV hA kids F F p (p+1) 0 [] _ none ys c (Cy h0 hd') rfl hcN w6 g2 (by omega) (by omega) (by omega) (Uw 0) (by show(kids.txt true).length≤_;omega) (by omega) (by omega);rw[AP ho1,ho2];rfl
   | cell _ _ _=>cases h1
   | node _ _ _ _=>cases h1
theorem OA {F:Nat}{K:Option Int}(hF:v.length<F)(hv:v.length≤1152921504606846976):B0 (Cu (λσ=>Dj v σ) F 0) (B9 λ_=>K)=bif v.any Hc then some 2 else K:=by
 obtain⟨o,h1,h2⟩:=CG (body:=λσ=>Dj v σ) (λx=>0≤x∧x≤(v.length:Int)∧(v.take x.toNat).any Hc=false) (λx=>v.length-x.toNat)
  (λo=>B9 (λ_=>K) o=bif v.any Hc then some 2 else K) (λx ⟨h0,hl,ha⟩=>by
   by_cases hx:x<(v.length:Int)
   ·obtain⟨c,hc⟩:∃c,v[x.toNat]? =some c:=⟨v[x.toNat]'(by omega),Uj (by omega)⟩
    have hat:Aj v x=c:=by simp[Aj,hc]
    have ho:(decide (c.fKind=3)&&(decide (c.fInt<(-1000000000000))||decide (1000000000000<c.fInt)))=Hc c:=by
     unfold Hc
     cases decide (c.fKind=3) with
     | false=>rfl
     | true=>
      rw[Uz,Uz,Uy];simp only[UC,Ud,U1,Bool.and_eq_false_iff,Ue];omega
    have hb:Dj v x=Bm (Hc c) (some (.out (.ret 2))) (some (.next (x+1))):=by
     unfold Dj;rw[AR (Ul hx),Bd h0 hx,hat,ho,AI (by omega) (by omega)]
    cases hq:Hc c with
    | true=>
     refine .inr ⟨.ret 2,hb.trans (AR hq),?_⟩;have:v.any Hc=true:=List.any_eq_true.2 ⟨c,Um hc,hq⟩;rw[Mh,this];rfl
    | false=>
     have a3:(v.take (x+1).toNat).any Hc=false:=by
      rw[show(x+1).toNat=x.toNat+1 from by omega,List.take_add_one,hc,List.any_append,ha];simp[hq]
     exact .inl ⟨x+1,hb.trans (A7 hq),⟨by omega,by omega,a3⟩,by omega⟩
   ·refine .inr ⟨.go (),by unfold Dj;rw[A7 (Uh hx)],?_⟩;rw[show x.toNat=v.length from by omega,UQ] at ha;rw[Id,ha];rfl) F 0 ⟨Uw 0,by omega,by simp⟩ (by simpa using hF)
 rw[AP h1,h2]
theorem O9 {F:Nat}{K:Option Int}(hF:v.length<F)(hv:v.length≤1152921504606846976):B0 (Cu (λσ=>Di v σ) F 0) (B9 λ_=>K)=bif v.any Gz then some 3 else K:=by
 obtain⟨o,h1,h2⟩:=CG (body:=λσ=>Di v σ) (λx=>0≤x∧x≤(v.length:Int)∧(v.take x.toNat).any Gz=false) (λx=>v.length-x.toNat)
  (λo=>B9 (λ_=>K) o=bif v.any Gz then some 3 else K) (λx ⟨h0,hl,ha⟩=>by
   by_cases hx:x<(v.length:Int)
   ·obtain⟨c,hc⟩:∃c,v[x.toNat]? =some c:=⟨v[x.toNat]'(by omega),Uj (by omega)⟩
    have hat:Aj v x=c:=by simp[Aj,hc]
    have hb:Di v x=Bm (Gz c) (some (.out (.ret 3))) (some (.next (x+1))):=by
     unfold Di;rw[AR (Ul hx),Bd h0 hx,hat,AI (by omega) (by omega)];rfl
    cases hq:Gz c with
    | true=>
     refine .inr ⟨.ret 3,hb.trans (AR hq),?_⟩;have:v.any Gz=true:=List.any_eq_true.2 ⟨c,Um hc,hq⟩;rw[Mh,this];rfl
    | false=>
     have a3:(v.take (x+1).toNat).any Gz=false:=by
      rw[show(x+1).toNat=x.toNat+1 from by omega,List.take_add_one,hc,List.any_append,ha];simp[hq]
     exact .inl ⟨x+1,hb.trans (A7 hq),⟨by omega,by omega,a3⟩,by omega⟩
   ·refine .inr ⟨.go (),by unfold Di;rw[A7 (Uh hx)],?_⟩;rw[show x.toNat=v.length from by omega,UQ] at ha;rw[Id,ha];rfl) F 0 ⟨Uw 0,by omega,by simp⟩ (by simpa using hF)
 rw[AP h1,h2]
theorem Lu:decide (Gy v 0=v.length)=(whole v).isSome:=by
 unfold Gy whole;rw[show v.drop (0:Int).toNat=v from rfl]
 cases hp:EV v with
 | none=>simp
 | some q=>
  obtain⟨f,ys⟩:=q;have h1:=(GU hp).1;have hl:v.length=f.flat.length+ys.length:=by rw[h1];simp
  cases ys with
  | nil=>simp at hl ⊢;omega
  | cons c r=>simp at hl ⊢;omega
theorem OB (hA:IW M v)(hM:M≤1000000){F:Nat}(hF:4*M+6<F):JH F v=some (QH v):=by
 have hvM:=hA.hv;unfold JH;rw[Ni (hA.rf (Ur M)) (λc hc=>(hA.hc c hc).2.2) (by omega),AP rfl,Lu];unfold QH
 cases hwh:whole v with
 | none=>rfl
 | some f=>
  obtain⟨h1,h2,h3⟩:=MU hwh;rw[A7 (p:=!(some f).isSome) rfl]
  change _=some (RM f)
  have hl:v.length=f.flat.length:=by rw[h1]
  have hc:∀c∈f.flat,c.fStr.length≤M∧BH .i64 c.fInt=true∧c.fN≤9223372036854775807:=λc hc=>hA.hc c (by rw[h1];exact hc);have hb:=KQ hM h2 (by omega) hc;have htl:((f.txt true).length:Int)=f.byt:=by rw[HK f false none true h2,NL h3];simp
  have hd0:v.drop (0:Int).toNat=f.flat++[]:=by rw[UO];exact h1
  rw[OA (by omega) (by omega)];unfold RM ES;rw[Nh hA (Uw 0) h3 h2 hd0 (by omega),BU (by simp[imp]),O9 (by omega) (by omega)];unfold ER;rw[PR hA (Uw 0) h3 h2 hd0 (by omega) (by omega),AP rfl];rw[R3,hl,← h1];have a1:decide ((200:Int)<(v.length:Int))=decide (200<v.length):=by rw[Uy];simp;omega
  have a2:decide ((8:Int)<(f.dep:Int))=decide (8<f.dep):=by rw[Uy];simp;omega
  have a3:decide ((4000:Int)<((f.txt true).length:Int))=decide (4000<(f.txt true).length):=by rw[Uy];simp;omega
  rw[a1,a2,a3]
  cases v.any Hc<;>cases v.any Gz<;>cases decide (200<v.length)<;>cases decide (8<f.dep)<;>cases decide (4000<(f.txt true).length)<;>rfl
end
theorem Sk {α β:Type}(a:α)(k:α→Option β):ML a k=k a:=rfl
section
variable {M : Nat}
end
section
variable {M : Nat}
theorem IW.mem {v:List Ac}(hA:IW M v){p:Int}{a b:List Ac}(h:v.drop p.toNat=a++b):IW M a:=by
 have:=(hA.drop p.toNat).take a.length
 rwa [h,List.take_left] at this
end
def PJ (v:List Ac):Bool:=!decide (300<v.length)&&v.all λc=>!decide (300<c.fStr.length)
def Qj (c:Ac):Bool:=BH .i64 c.fKind&&BH .i64 c.fInt&&QU c.fStr&&BH .i64 c.fN
theorem IW.of {v:List Ac}(hs:PJ v=true)(hc:v.all Qj=true):IW 300 v:=by
 unfold PJ at hs;simp only[Ui,U1,Ue,U2] at hs hc;refine⟨by decide,by omega,λc h=>?_⟩;obtain h1:=hs.2 c h;obtain h2:=hc c h;unfold Qj at h2;simp only[Ui] at h2;exact⟨by omega,h2.1.1.2,(EC h2.2).2⟩
section
variable {M : Nat}
end
theorem Pj {α:Type}{n:Nat}{x:Option α}(h:n≤1000000000):Bk (LA 40 n) x=x:=BU (Ul (by omega))
section
variable {T : Type}
end
theorem E1 {R V:Type}(K:V→Option R)(v:V):B9 K (.go v)=K v:=rfl
theorem I0 {R V:Type}(K:V→Option R)(r:R):B9 K (.ret r)=some r:=rfl
theorem Nl {α:Type}[Inhabited α](a:α):ov (some a)=a:=rfl
theorem EY {α R U:Type}[Inhabited α](l:List α)(P:α→Prop)(B:R→Prop)(u:U)(body:Int→Option (Stp Int (Out R U)))
  (h1:∀(x:Int) (c:α),0≤x→x<(l.length:Int)→c∈l→Aj l x=c→(body x=some (.next (x+1))∧P c)∨∃q,body x=some (.out (.ret q))∧B q)
  (h2:body (l.length:Int)=some (.out (.go u))) {F:Nat} (hF:l.length<F) :
  ∃o,Cu body F 0=some o∧((∃q,o = .ret q∧B q)∨(o = .go u∧∀c∈l,P c)):=by
 refine CG (λx=>0≤x∧x≤(l.length:Int)∧∀c∈l.take x.toNat,P c) (λx=>l.length-x.toNat) _ (λx ⟨h0,hl,ha⟩=>?_) F 0 ⟨Uw 0,by omega,by simp⟩ (by show l.length-0<F;omega)
 by_cases hx:x<(l.length:Int)
 ·obtain⟨c,hc⟩:∃c,l[x.toNat]? =some c:=⟨l[x.toNat]'(by omega),Uj (by omega)⟩
  have hat:Aj l x=c:=by simp[Aj,hc]
  rcases h1 x c h0 hx (Um hc) hat with⟨hb,hp⟩ | ⟨q,hb,hq⟩
  ·refine .inl ⟨x+1,hb,⟨by omega,by omega,λd hd=>?_⟩,by omega⟩;rw[show(x+1).toNat=x.toNat+1 from by omega,List.take_add_one,hc] at hd;simp only[Option.toList_some,List.mem_append,UM,List.not_mem_nil,or_false] at hd;rcases hd with hd | rfl
   ·exact ha d hd
   ·exact hp
  ·exact .inr ⟨.ret q,hb,.inl ⟨q,rfl,hq⟩⟩
 ·have e:x=(l.length:Int):=by omega
  subst e;refine .inr ⟨.go u,h2,.inr ⟨rfl,λc hc=>ha c ?_⟩⟩;rw[show((l.length:Int)).toNat=l.length from by omega,UQ];exact hc
abbrev Q2 (x y:Ab):Bool:=CQ x.fAt y.fAt x.fID y.fID
abbrev E3 (x y:Aa):Bool:=Q2 x.fTimer y.fTimer
theorem Tg:RZ Q2:=Np (λx:Ab=>x.fAt) (λx=>x.fID)
theorem Th:RZ E3:=Np (λx:Aa=>x.fTimer.fAt) (λx=>x.fTimer.fID)
structure MN (t:Ab):Prop where
 body:IW 5000 t.fBody
 id:t.fID.length≤300
 ten:t.fTenant.length≤300
 src:t.fSource.length≤300
 len:t.fBody.length≤300
structure TI (ts:List Aa):Prop where
 srt:ts.Pairwise λa b=>E3 a b=true
 ids:ts.Pairwise λa b=>a.fTimer.fID≠b.fTimer.fID
 len:ts.length≤256
 sm:∀x∈ts,MN x.fTimer
structure Gs (m:List (Ak×Aa)) (ts:List Aa):Prop where
 ms:Ms m
 pm:m.Perm (ts.map λx=>(x.fTimer.fID,x))
 ti:TI ts
def ME (t:Ab):Int:=bif !(Pa t.fID) then 4 else bif !(decide (0≤t.fAt)&&decide (t.fAt≤1073741824)) then 2 else bif (!(C9 t.fTenant)||!(C9 t.fSource)) then 4 else QH t.fBody
def Hg (x:Aa)(now:Int):Aa:=⟨x.fTimer,x.fTold||decide (x.fTimer.fAt≤now)⟩
def ID (ts:List Aa)(id:Ak):Bool:=ts.any λx=>decide (x.fTimer.fID=id)
def Kf (ts:List Aa)(id:Ak):Bool:=ts.any λx=>decide (x.fTimer.fID=id)&&x.fTold
def Pn (ts:List Aa)(id:Ak):List Aa:=ts.filter λx=>!decide (x.fTimer.fID=id)
def Ny (ts:List Aa)(t:Ab)(now:Int):Int×List Aa:=
 bif !decide (ME t=0) then(ME t,ts) else bif (!(decide (0≤now)&&decide (now≤1073741824))||decide (t.fAt<now)) then(2,ts) else bif ID ts t.fID then(6,ts) else bif decide (256≤ts.length) then(3,ts) else(0,HP E3 ⟨t,false⟩ ts)
def L6 (ts:List Aa)(id:Ak):Int×List Aa:=bif !ID ts id then(5,ts) else(0,Pn ts id)
def Gr (ts:List Aa)(id:Ak):Int×List Aa:=bif Kf ts id then(10,ts) else L6 ts id
def CB (ts:List Aa):List Ab:=ts.map (·.fTimer)
def IU (ts:List Aa)(now:Int):List Ab:=(CB ts).filter λt=>!decide (now<t.fAt)
def C4 (ts:List Aa)(now:Int):List Aa:=ts.map λx=>Hg x now
def Of (ts:List Aa):Int×Bool:=match ts with
 | []=>(0,false)
 | x::_=>(x.fTimer.fAt,true)
theorem TI.nil:TI []:=⟨List.Pairwise.nil,List.Pairwise.nil,by decide,λ_ h=>by cases h⟩
theorem Gs.nil:Gs [] []:=⟨Ms.nil,Ug _,TI.nil⟩
theorem Pi {v:List Ac}(h:v.length≤1000000):Kd v=some v:=by
 unfold Kd;rw[Pj (by simp;omega)];rfl
theorem N8 {t:Ab}(h:MN t):Ow t=some t:=by
 unfold Ow;rw[Pi (by have:=h.len;omega),AP rfl]
theorem Ox {F:Nat}(hF:5000<F){t:Ab}(h:MN t):J6 F t=some (ME t):=by
 unfold J6 ME Hh;rw[AP rfl,Ot h.body (by decide) hF,AP rfl]
 cases Pa t.fID with
 | false=>rfl
 | true=>
  cases(decide (0≤t.fAt)&&decide (t.fAt≤1073741824)) with
  | false=>rfl
  | true=>cases(!C9 t.fTenant||!C9 t.fSource)<;>rfl
theorem IB {α:Type}{n:Nat}{x:Option α}(h:n≤1000000000):Bk (LA 80 n) x=x:=BU (Ul (by omega))
theorem Gc {α:Type}{n:Nat}{x:Option α}(h:n≤1000000000):Bk (LA 88 n) x=x:=BU (Ul (by omega))
theorem HT {T:Type}{lt:T→T→Bool}:∀{xs:List T},xs.Pairwise (λa b=>lt a b=true)→EO lt xs=true
 | [],_=>rfl
 | x::r,h=>by
  rw[List.pairwise_cons] at h;simp only[EO,Ui,U2];exact⟨λy hy=>by rw[h.1 y hy];rfl,HT h.2⟩
theorem Sz {T:Type}{lt:T→T→Bool}(L:RZ lt){xs:List T}(h:xs.Pairwise λa b=>lt a b=true):srt lt xs=xs:=(Nc L (HT h) (Ug _) (h.imp λh=>L.asym _ _ h)).symm
theorem Ky:∀(ord:List (Ak×Aa)) (s:List Ab),s.length+ord.length≤100000→(∀p∈ord,MN p.2.fTimer)→NS (λp τ=>Ew p.1 p.2 τ) ord s=some (.go (s++ord.map λp=>p.2.fTimer))
 | [],s,_,_=>by simp[NS]
 | p::r,s,hl,h=>by
  simp only[Uo] at hl;have e:Ew p.1 p.2 s=some (.next (s++[p.2.fTimer])):=by
   unfold Ew;rw[N8 (h p (List.mem_cons_self ..)),AP rfl,IB (by simp;omega)]
  rw[NS,e];simp only;rw[Ky r _ (by simp;omega) λq hq=>h q (List.mem_cons_of_mem _ hq)];simp
theorem Gs.len {m:List (Ak×Aa)}{ts:List Aa}(h:Gs m ts):m.length=ts.length:=by rw[h.pm.length_eq,Us]
theorem Gs.mem {m:List (Ak×Aa)}{ts:List Aa}(h:Gs m ts){p:Ak×Aa}(hp:p∈m):p.2∈ts∧p.1=p.2.fTimer.fID:=by
 obtain⟨x,hx,rfl⟩:=List.mem_map.1 (h.pm.subset hp);exact⟨hx,rfl⟩
theorem TI.lst {ts:List Aa}(h:TI ts):(CB ts).Pairwise λa b=>Q2 a b=true:=List.pairwise_map.2 h.srt
theorem J3 {m:List (Ak×Aa)}{ts:List Aa}(h:Gs m ts):J4 ⟨m⟩=some (CB ts,⟨m⟩):=by
 unfold J4 Gx;rw[AP rfl,A7 (by rfl)];dsimp only;refine Qu λord ho=>?_;have hl:ord.length≤256:=by rw[ho.length_eq,h.len];exact h.ti.len
 rw[Ky ord [] (by simp;omega) λp hp=>h.ti.sm _ (h.mem (ho.subset hp)).1,AP rfl,E1];unfold Ev;have hp:(ord.map λp=>p.2.fTimer).Perm (CB ts):=by
  have:=((ho.trans h.pm).map λp=>p.2.fTimer)
  rwa [US] at this
 rw[List.nil_append,BU (Nd (HT h.ti.lst) hp),BU (by rw[Us];simp;omega),Oy Tg (HT h.ti.lst) hp,Sz Tg h.ti.lst]
theorem GW {T:Type}(m:List (Ak×T))(k:Ak):DM m k=(Bx m k).isSome:=rfl
theorem Gs.get {m:List (Ak×Aa)}{ts:List Aa}(h:Gs m ts)(id:Ak):(Bx m id=none∧ID ts id=false∧Kf ts id=false)∨∃x,Bx m id=some x∧x∈ts∧x.fTimer.fID=id∧ID ts id=true∧Kf ts id=x.fTold:=by
 cases hg:Bx m id with
 | none=>
  have hn:∀x∈ts,¬ x.fTimer.fID=id:=λx hx=>Gn.1 hg _ (h.pm.symm.subset (List.mem_map.2 ⟨x,hx,rfl⟩));refine .inl ⟨rfl,List.any_eq_false.2 λx hx=>by simp[hn x hx],List.any_eq_false.2 λx hx=>by simp[hn x hx]⟩
 | some x=>
  obtain⟨hx,hid⟩:=h.mem (DV hg);simp only at hx hid;refine .inr ⟨x,rfl,hx,hid.symm,List.any_eq_true.2 ⟨x,hx,by simp[hid]⟩,?_⟩
  cases ht:x.fTold with
  | true=>exact List.any_eq_true.2 ⟨x,hx,by simp[hid,ht]⟩
  | false=>
   refine List.any_eq_false.2 λy hy=>?_
   by_cases e:y.fTimer.fID=id
   ·have:y=x:=by
     have h1:Bx m id=some y:=GF h.ms.nodup (h.pm.symm.subset (List.mem_map.2 ⟨y,hy,by rw[e]⟩));rw[hg] at h1;exact(Option.some.inj h1).symm
    subst this;simp[ht]
   ·simp[e]
theorem TI.del {ts:List Aa}(h:TI ts)(id:Ak):TI (Pn ts id):=⟨h.srt.sublist (List.filter_sublist ..),h.ids.sublist (List.filter_sublist ..),Nat.le_trans (List.length_filter_le ..) h.len,λx hx=>h.sm x (List.mem_filter.1 hx).1⟩
theorem Gs.del {m:List (Ak×Aa)}{ts:List Aa}(h:Gs m ts)(id:Ak):Gs (mdel m id) (Pn ts id):=by
 refine⟨h.ms.mdel id,?_,h.ti.del id⟩;have:=h.pm.filter λp=>!decide (p.1=id);rw[List.filter_map] at this;exact this
theorem TI.ins {ts:List Aa}(h:TI ts){t:Ab}(ht:MN t)(hn:ID ts t.fID=false)(hl:ts.length<256)(b:Bool):TI (HP E3 ⟨t,b⟩ ts):=by
 have hp:=EM E3 ⟨t,b⟩ ts;have hne:∀x∈ts,¬ x.fTimer.fID=t.fID:=λx hx e=>by
  have:=List.any_eq_false.1 hn x hx;simp[e] at this
 have hids:(HP E3 ⟨t,b⟩ ts).Pairwise λa b=>a.fTimer.fID≠b.fTimer.fID:=
  (hp.pairwise_iff (fun {x y} h e=>h e.symm)).2 (List.pairwise_cons.2 ⟨λx hx e=>hne x hx e.symm,h.ids⟩)
 have hs:=GB Th ⟨t,b⟩ (h.srt.imp λh=>Th.asym _ _ h);refine⟨?_,hids,by rw[hp.length_eq];exact hl,λx hx=>?_⟩
 ·refine(hs.and hids).imp fun {x y} h=>?_
  cases h1:E3 x y with
  | true=>rfl
  | false=>exact absurd (Mz h1 h.1).2 h.2
 ·rcases List.mem_cons.1 (hp.subset hx) with e | h1
  ·rw[e];exact ht
  ·exact h.sm x h1
theorem Gs.ins {m:List (Ak×Aa)}{ts:List Aa}(h:Gs m ts){t:Ab}(ht:MN t)(hn:ID ts t.fID=false)(hl:ts.length<256):Gs (mset m t.fID ⟨t,false⟩) (HP E3 ⟨t,false⟩ ts):=by
 have hg:Bx m t.fID=none:=by
  rcases h.get t.fID with h1 | ⟨x,_,_,_,h1,_⟩
  ·exact h1.1
  ·rw[hn] at h1;cases h1
 refine⟨h.ms.mset _ _,?_,h.ti.ins ht hn hl false⟩;have e:mset m t.fID ⟨t,false⟩=mins t.fID ⟨t,false⟩ m:=by
  unfold mset DM;rw[hg];rfl
 rw[e];refine(I2 _ _ m).trans ((h.pm.cons _).trans ?_);exact((EM E3 ⟨t,false⟩ ts).map λx=>(x.fTimer.fID,x)).symm
theorem Rm {F:Nat}(hF:5000<F){m:List (Ak×Aa)}{ts:List Aa}(h:Gs m ts){t:Ab}(ht:MN t)(now:Int):∃m',KZ F ⟨m⟩ t now=some ((Ny ts t now).1,⟨m'⟩)∧Gs m' (Ny ts t now).2:=by
 unfold KZ Gx Ny Hh;rw[AP rfl,A7 (by rfl),Ox hF ht,AP rfl];dsimp only
 cases h1 : !decide (ME t=0) with
 | true=>exact⟨m,rfl,h⟩
 | false=>
  rw[A7 rfl,BU (by rfl),Nl]
  cases h2:(!(decide (0≤now)&&decide (now≤1073741824))||decide (t.fAt<now)) with
  | true=>exact⟨m,rfl,h⟩
  | false=>
   rw[A7 rfl];have hh:DM m t.fID=ID ts t.fID:=by
    rcases h.get t.fID with⟨h3,h4,_⟩ | ⟨x,h3,_,_,h4,_⟩
    ·rw[GW,h3,h4];rfl
    ·rw[GW,h3,h4];rfl
   rw[hh]
   cases h3:ID ts t.fID with
   | true=>exact⟨m,rfl,h⟩
   | false=>
    have h5:decide (256≤(m.length:Int))=decide (256≤ts.length):=by rw[h.len,Uy];simp;omega
    rw[A7 rfl,h5]
    cases h4:decide (256≤ts.length) with
    | true=>exact⟨m,rfl,h⟩
    | false=>
     rw[A7 rfl,N8 ht,AP rfl];exact⟨_,rfl,h.ins ht h3 (by simpa using h4)⟩
theorem NB {m:List (Ak×Aa)}{ts:List Aa}(h:Gs m ts)(id:Ak):∃m',Na ⟨m⟩ id=some ((L6 ts id).1,⟨m'⟩)∧Gs m' (L6 ts id).2:=by
 unfold Na Gx L6;rw[AP rfl,A7 (by rfl)];dsimp only;have hh:DM m id=ID ts id:=by
  rcases h.get id with⟨h3,h4,_⟩ | ⟨x,h3,_,_,h4,_⟩
  ·rw[GW,h3,h4];rfl
  ·rw[GW,h3,h4];rfl
 rw[hh]
 cases ID ts id with
 | false=>exact⟨m,rfl,h⟩
 | true=>exact⟨_,rfl,h.del id⟩
theorem MY {m:List (Ak×Aa)}{ts:List Aa}(h:Gs m ts)(id:Ak):∃m',GN ⟨m⟩ id=some ((Gr ts id).1,⟨m'⟩)∧Gs m' (Gr ts id).2:=by
 unfold GN Gx Gr DL;rw[AP rfl,AR (by rfl)];dsimp only;have hh:(AN m id (Aa.mk (Ab.mk ([]:Ak) 0 ([]:Ak) ([]:Ak) ([]:(List Ac))) false)).fTold=Kf ts id:=by
  unfold AN;rcases h.get id with⟨h3,_,h4⟩ | ⟨x,h3,_,_,_,h4⟩
  ·rw[h3,h4];rfl
  ·rw[h3,h4];rfl
 rw[hh]
 cases Kf ts id with
 | true=>exact⟨m,rfl,h⟩
 | false=>
  obtain⟨m',h1,h2⟩:=NB h id;refine⟨m',?_,h2⟩;rw[A7 rfl,h1,AP rfl];rfl
theorem PA {m:List (Ak×Aa)}{ts:List Aa}(h:Gs m ts):Kx ⟨m⟩=some ((Of ts).1,(Of ts).2,⟨m⟩):=by
 unfold Kx;rw[J3 h,AP rfl]
 cases ts with
 | nil=>rfl
 | cons x r=>
  rw[A7 (by simp[CB]<;>omega),Bd (Uw 0) (by simp[CB]<;>omega)];rfl
theorem DK {α:Type}{l:List α}{k:Nat}{c:α}(h:l[k]? =some c):l.take (k+1)=l.take k++[c]:=by
 rw[List.take_add_one,h];rfl
theorem QJ {α:Type}{l l':List α}{k:Nat}(h:l.drop k=l'.drop k){c:α}(hc:l'[k]? =some c):l[k]? =some c:=by
 have:(l.drop k)[0]? =(l'.drop k)[0]?:=by rw[h]
 simpa[List.getElem?_drop,hc] using this
abbrev Hp (now:Int)(t:Ab):Bool:=!decide (now<t.fAt)
theorem Lr {F:Nat}{ys:List Ab}(hF:ys.length<F)(hl:ys.length≤100000)(now:Int):∃i:Int,Ga F ys now=some i∧((i = -1∧ys.filter (Hp now)=ys)∨∃k:Nat,i=k∧k<ys.length∧(ys.take k).filter (Hp now)=ys.take k∧∃c,ys[k]? =some c∧Hp now c=false):=by
 obtain⟨o,h1,h2⟩:=CG (body:=λσ=>Cq ys now σ) (λx=>0≤x∧x≤(ys.length:Int)∧(ys.take x.toNat).filter (Hp now)=ys.take x.toNat) (λx=>ys.length-x.toNat)
  (λo=>(o = .go ()∧ys.filter (Hp now)=ys)∨∃k:Nat,o = .ret (k:Int)∧k<ys.length∧(ys.take k).filter (Hp now)=ys.take k∧∃c,ys[k]? =some c∧Hp now c=false) (λx ⟨h0,hx,ha⟩=>by
   by_cases hlt:x<(ys.length:Int)
   ·obtain⟨c,hc⟩:∃c,ys[x.toNat]? =some c:=⟨ys[x.toNat]'(by omega),Uj (by omega)⟩
    have hat:Aj ys x=c:=by simp[Aj,hc]
    have hb:Cq ys now x=Bm (decide (now<c.fAt)) (some (.out (.ret x))) (some (.next (x+1))):=by
     unfold Cq J5;rw[AR (Ul hlt),Bd h0 hlt,hat,AP rfl,AI (by omega) (by omega)]
    cases hq:decide (now<c.fAt) with
    | true=>
     refine .inr ⟨.ret x,hb.trans (AR hq),.inr ⟨x.toNat,by rw[show((x.toNat:Nat):Int)=x from by omega],by omega,ha,c,hc,by show(!decide (now<c.fAt))=false;rw[hq];rfl⟩⟩
    | false=>
     refine .inl ⟨x+1,hb.trans (A7 hq),⟨by omega,by omega,?_⟩,by omega⟩;rw[show(x+1).toNat=x.toNat+1 from by omega,DK hc,List.filter_append,ha,List.filter_cons_of_pos (by show(!decide (now<c.fAt))=true;rw[hq];rfl)];rfl
   ·refine .inr ⟨.go (),by unfold Cq;rw[A7 (Uh hlt)],.inl ⟨rfl,?_⟩⟩;rw[show x.toNat=ys.length from by omega,UQ] at ha;exact ha) F 0 ⟨Uw 0,by omega,by simp⟩ (by show ys.length-0<F;omega)
 unfold Ga;rcases h2 with⟨rfl,h⟩ | ⟨k,rfl,h⟩
 ·exact⟨-1,by rw[AP h1,E1];rfl,.inl ⟨rfl,h⟩⟩
 ·exact⟨k,by rw[AP h1,I0],.inr ⟨k,rfl,h⟩⟩
theorem Ks {F:Nat}{ys:List Ab}(hF:ys.length<F)(hl:ys.length≤100000)(now:Int):E5 F ys now=some (ys.filter (Hp now)):=by
 unfold E5;obtain⟨i,hi,hc⟩:=Lr hF hl now;rw[hi,AP rfl];rcases hc with⟨rfl,h⟩ | ⟨k,rfl,hk,ht,c,hck,hq⟩
 ·rw[AR (by rfl),h]
 ·rw[A7 (Uh (by omega)),AI (by omega) (by omega)];obtain⟨o,h1,h2⟩:=CG (body:=λσ:Int×Int×List Ab=>Ce now σ.1 σ.2.1 σ.2.2) (λσ=>0≤σ.1∧σ.1<σ.2.1∧σ.2.1≤(ys.length:Int)∧σ.2.2.length=ys.length∧σ.2.2.take σ.1.toNat=(ys.take σ.2.1.toNat).filter (Hp now)∧σ.2.2.drop σ.2.1.toNat=ys.drop σ.2.1.toNat) (λσ=>ys.length-σ.2.1.toNat)
   (λo=>∃ (a:Int) (zs:List Ab),o = .go (a,zs)∧0≤a∧a≤(ys.length:Int)∧zs.length=ys.length∧zs.take a.toNat=ys.filter (Hp now)) (λ⟨a,b,zs⟩ ⟨h0,hab,hb,hzl,h3,h4⟩=>by
    dsimp only at h0 hab hb hzl h3 h4 ⊢
    by_cases hlt:b<(ys.length:Int)
    ·obtain⟨d,hd⟩:∃d,ys[b.toNat]? =some d:=⟨ys[b.toNat]'(by omega),Uj (by omega)⟩
     have hdz:zs[b.toNat]? =some d:=QJ h4 hd;have hat:Aj zs b=d:=by simp[Aj,hdz]
     have hs:(ys.take (b+1).toNat)=ys.take b.toNat++[d]:=by rw[show(b+1).toNat=b.toNat+1 from by omega];exact DK hd
     have hdr:zs.drop (b+1).toNat=ys.drop (b+1).toNat:=by
      rw[show(b+1).toNat=b.toNat+1 from by omega,← List.drop_drop,← List.drop_drop,h4]
     cases hp:decide (now<d.fAt) with
     | true=>
      refine .inl ⟨(a,b+1,zs),?_,⟨h0,by show a<b+1;omega,by show b+1≤_;omega,hzl,?_,hdr⟩,by show ys.length-(b+1).toNat<ys.length-b.toNat;omega⟩
      ·unfold Ce J5 Ct;rw[AR (Ul (by omega)),Bd (by omega) (by omega),hat,AP rfl,hp,A7 (by rfl),AI (by omega) (by omega)]
      ·dsimp only;rw[hs,List.filter_append,h3,List.filter_cons_of_neg (by show ¬ (!decide (now<d.fAt))=true;rw[hp];simp)];simp
     | false=>
      refine .inl ⟨(a+1,b+1,zs.set a.toNat d),?_,⟨by show 0≤a+1;omega,by show a+1<b+1;omega,by show b+1≤_;omega,by simpa using hzl,?_,?_⟩,by show ys.length-(b+1).toNat<ys.length-b.toNat;omega⟩
      ·unfold Ce J5 Ct;rw[AR (Ul (by omega)),Bd (by omega) (by omega),hat,AP rfl,hp,AR (by rfl),Bd h0 (by omega),Sk,AI (by omega) (by omega),AI (by omega) (by omega)]
      ·dsimp only;rw[hs,List.filter_append,List.filter_cons_of_pos (by show(!decide (now<d.fAt))=true;rw[hp];rfl),← h3,show(a+1).toNat=a.toNat+1 from by omega,DK (c:=d) (by rw[List.getElem?_set_self (by omega)])]
       congr 1
       rw[List.take_set_of_le (Uv _)]
      ·dsimp only;rw[← hdr,List.drop_set_of_lt (by omega)]
    ·have e:b=(ys.length:Int):=by omega
     refine .inr ⟨.go (a,zs),by unfold Ce;rw[A7 (Uh (by omega))],a,zs,rfl,h0,by omega,hzl,?_⟩;rw[h3,show b.toNat=ys.length from by omega,UQ]) F ((k:Int),(k:Int)+1,ys) ⟨by show(0:Int)≤k;omega,by show(k:Int)<k+1;omega,by show(k:Int)+1≤_;omega,rfl,by
     dsimp only;rw[show((k:Int)+1).toNat=k+1 from by omega,DK hck,List.filter_append,ht,List.filter_cons_of_neg (by rw[hq];simp)];simp,rfl⟩ (by show ys.length-((k:Int)+1).toNat<F;omega)
  obtain⟨a,zs,rfl,ha,ha2,hzl,hz⟩:=h2;rw[AP h1,E1];unfold Dt;dsimp only;have hlt:(zs.take a.toNat).length=a.toNat:=by rw[List.length_take];omega
  rw[DX ha (by omega),DX ha (by simp;omega),List.take_append_of_le_length (by omega),List.take_take,Nat.min_self,hz]
theorem Gs.tell {m:List (Ak×Aa)}{ts:List Aa}(h:Gs m ts)(now:Int):Gs (AV (λx=>Hg x now) m) (C4 ts now):=by
 refine⟨?_,?_,⟨List.pairwise_map.2 h.ti.srt,List.pairwise_map.2 h.ti.ids,by unfold C4;rw[Us];exact h.ti.len,λx hx=>?_⟩⟩
 ·unfold Ms AV;exact List.pairwise_map.2 h.ms
 ·have:=h.pm.map λp:Ak×Aa=>(p.1,Hg p.2 now)
  rw[US] at this;unfold AV C4;rw[US];exact this
 ·obtain⟨y,hy,rfl⟩:=List.mem_map.1 hx;exact h.ti.sm y hy
theorem Gs.keysOk {m:List (Ak×Aa)}{ts:List Aa}(h:Gs m ts):keysOk m=true:=by
 unfold Go.Proofs.YtmmbdclkpijkpaaGreatDoor.keysOk;simp only[Ui,Ud,U2];have hl:=h.len;have h2:=h.ti.len;refine⟨by omega,λp hp=>?_⟩;obtain⟨h3,h4⟩:=h.mem hp;rw[h4];have:=(h.ti.sm _ h3).id;unfold QU;simp;omega
theorem PD {F:Nat}{m:List (Ak×Aa)}{ts:List Aa}(h:Gs m ts)(now:Int){ks:List Ak}(hp:ks.Perm (m.map Prod.fst))(hF:256<F):Cu (λσ:Int×List (Ak×Aa)=>E7 now ks σ.1 σ.2) F (0,m)=some (.go (AV (λx=>Hg x now) m)):=by
 have hkl:ks.length≤256:=by rw[hp.length_eq,Us,h.len];exact h.ti.len
 have hnd:ks.Nodup:=hp.nodup_iff.2 h.ms.nodup;obtain⟨o,h1,h2⟩:=CG (body:=λσ:Int×List (Ak×Aa)=>E7 now ks σ.1 σ.2) (λσ=>0≤σ.1∧σ.1≤(ks.length:Int)∧Ms σ.2∧∀k,Bx σ.2 k=bif (ks.take σ.1.toNat).contains k then(Bx m k).map (λx=>Hg x now) else Bx m k) (λσ=>ks.length-σ.1.toNat)
  (λo=>o = .go (AV (λx=>Hg x now) m)) (λ⟨i,mi⟩ ⟨h0,hi,hms,hg⟩=>by
   dsimp only at h0 hi hms hg ⊢
   by_cases hlt:i<(ks.length:Int)
   ·obtain⟨k,hk⟩:∃k,ks[i.toNat]? =some k:=⟨ks[i.toNat]'(by omega),Uj (by omega)⟩
    have hat:Aj ks i=k:=by simp[Aj,hk]
    have hkm:k∈m.map Prod.fst:=hp.subset (Um hk);obtain⟨⟨k',x⟩,hx,rfl⟩:=List.mem_map.1 hkm;have hgk:Bx m k'=some x:=GF h.ms.nodup hx;have hnt:(ks.take i.toNat).contains k'=false:=by
     cases hc:(ks.take i.toNat).contains k' with
     | false=>rfl
     | true=>
      obtain⟨j,hj⟩:=List.mem_iff_getElem?.1 (List.contains_iff_mem.1 hc);rw[UB] at hj
      split at hj
      ·rename_i hji
       obtain⟨a1,a2⟩:=List.getElem?_eq_some_iff.1 hj;obtain⟨b1,b2⟩:=List.getElem?_eq_some_iff.1 hk;have:=(List.getElem_inj hnd).1 (a2.trans b2.symm);omega
      ·cases hj
    have hv:AN mi k' (Aa.mk (Ab.mk ([]:Ak) 0 ([]:Ak) ([]:Ak) ([]:(List Ac))) false)=x:=by
     unfold AN;rw[hg k',hnt,Un,hgk];rfl
    refine .inl ⟨(i+1,mset mi k' (Hg x now)),?_,⟨by show 0≤i+1;omega,by show i+1≤_;omega,hms.mset _ _,λq=>?_⟩,by show ks.length-(i+1).toNat<ks.length-i.toNat;omega⟩
    ·unfold E7;rw[AR (Ul hlt),Bd h0 hlt,hat,hv,AI (by omega) (by omega)];rfl
    ·dsimp only;rw[OR,show(i+1).toNat=i.toNat+1 from by omega,DK hk,hg q]
     by_cases e:q=k'
     ·subst e;rw[Ul rfl,Ut,hgk];simp
     ·rw[Uh e,Un];have:(List.take i.toNat ks++[k']).contains q=(List.take i.toNat ks).contains q:=by
       rw[Uy];simp[e]
      rw[this]
   ·refine .inr ⟨.go mi,by unfold E7;rw[A7 (Uh hlt)],?_⟩
    congr 1
    refine Ms.ext hms ((h.tell now).ms) λk=>?_;rw[hg k,show i.toNat=ks.length from by omega,UQ,GG]
    cases hgk:Bx m k with
    | none=>cases ks.contains k<;>rfl
    | some x=>
     have:ks.contains k=true:=List.contains_iff_mem.2 (hp.symm.subset (List.mem_map.2 ⟨_,DV hgk,rfl⟩));rw[this];rfl) F (0,m) ⟨Uw 0,by omega,h.ms,λk=>by simp⟩ (by show ks.length-0<F;omega)
 rw[h1,h2]
theorem Rn {F:Nat}(hF:256<F){m:List (Ak×Aa)}{ts:List Aa}(h:Gs m ts)(now:Int):∃m',MX F ⟨m⟩ now=some (IU ts now,⟨m'⟩)∧Gs m' (C4 ts now):=by
 refine⟨AV (λx=>Hg x now) m,?_,h.tell now⟩;unfold MX Gx;rw[AP rfl,A7 (by rfl)];dsimp only;rw[BU h.keysOk];refine Qu λks hp=>?_;rw[AP (PD h now hp hF),E1];unfold HM;have hal:CB (C4 ts now)=CB ts:=by unfold CB C4;rw[US];rfl
 have hll:(CB ts).length≤256:=by unfold CB;rw[Us];exact h.ti.len
 rw[J3 (h.tell now),AP rfl,hal];dsimp only;rw[Ks (by omega) (by omega),AP rfl];rfl
def TB (v:List Ac):Prop:=∀c∈v,BH .i64 c.fInt=true∧c.fN≤9223372036854775807
theorem PT {F:Nat}(hF:5000<F){t:Ab}(ho:TB t.fBody):∃b,JB F t=some b∧(b=true→MN t):=by
 unfold JB
 cases hA:((decide (300<(t.fID.length:Int)))||((decide (300<(t.fTenant.length:Int)))||((decide (300<(t.fSource.length:Int)))||(decide (300<(t.fBody.length:Int)))))) with
 | true=>exact⟨false,AR rfl,λh=>by cases h⟩
 | false=>
  simp only[Bool.or_eq_false_iff,Ue] at hA;obtain⟨a1,a2,a3,a4⟩:=hA;rw[A7 rfl];obtain⟨o,h1,h2⟩:=EY t.fBody (λc=>c.fStr.length≤5000) (λq=>q=false) () (λσ=>De t σ) (λx c h0 hx hc hat=>by
   have e:De t x=Bm (decide (5000<(c.fStr.length:Int))) (some (.out (.ret false))) (some (.next (x+1))):=by
    unfold De;rw[AR (Ul hx),Bd h0 hx,hat,AI (by omega) (by omega)]
   cases hL:decide (5000<(c.fStr.length:Int)) with
   | false=>exact .inl ⟨e.trans (A7 hL),by simp at hL;omega⟩
   | true=>exact .inr ⟨false,e.trans (AR hL),rfl⟩) (by
   show De t _=_;unfold De;rw[A7 (Uh (by omega))]) (F:=F) (by omega)
  rw[AP h1];rcases h2 with⟨q,rfl,rfl⟩ | ⟨rfl,h⟩
  ·exact⟨false,I0 ..,λh=>by cases h⟩
  ·exact⟨true,by rw[E1];rfl,λ_=>⟨⟨by decide,by omega,λc hc=>⟨h c hc,ho c hc⟩⟩,by omega,by omega,by omega,by omega⟩⟩
theorem Q7 {F:Nat}(hF:5000<F){l:List AM}(ho:∀o∈l,TB o.fTimer.fBody):∃b,JT F l=some b∧(b=true→l.length≤300∧∀o∈l,MN o.fTimer):=by
 unfold JT
 cases hA:decide (300<(l.length:Int)) with
 | true=>exact⟨false,AR rfl,λh=>by cases h⟩
 | false=>
  simp only[Ue] at hA;rw[A7 rfl];obtain⟨o,h1,h2⟩:=EY l (λc=>MN c.fTimer) (λq=>q=false) () (λσ=>Dm F l σ) (λx c h0 hx hc hat=>by
   obtain⟨b,hb,hs⟩:=PT hF (ho c hc);have e:Dm F l x=Bm (!b) (some (.out (.ret false))) (some (.next (x+1))):=by
    unfold Dm;rw[AR (Ul hx),Bd h0 hx,hat,hb,AP rfl,AI (by omega) (by omega)]
   cases b with
   | true=>exact .inl ⟨e,hs rfl⟩
   | false=>exact .inr ⟨false,e,rfl⟩) (by
   show Dm F l _=_;unfold Dm;rw[A7 (Uh (by omega))]) (F:=F) (by omega)
  rw[AP h1];rcases h2 with⟨q,rfl,rfl⟩ | ⟨rfl,h⟩
  ·exact⟨false,I0 ..,λh=>by cases h⟩
  ·exact⟨true,by rw[E1];rfl,λ_=>⟨by omega,h⟩⟩
theorem LY {F:Nat}{t:Ab}(hF:t.fBody.length<F)(hl:t.fBody.length≤100000):JC F t t=some true:=by
 unfold JC;rw[A7 (by simp)];obtain⟨o,h1,h2⟩:=EY t.fBody (λ_=>True) (λ_=>False) () (λσ=>Dg t t σ) (λx c h0 hx hc hat=>.inl ⟨by
  show Dg t t x=_;unfold Dg;rw[AR (Ul hx),Bd h0 hx,Bd h0 hx,A7 (by simp),AI (by omega) (by omega)],trivial⟩) (by
  show Dg t t _=_;unfold Dg;rw[A7 (Uh (by omega))]) hF
 rw[AP h1];rcases h2 with⟨q,rfl,h⟩ | ⟨rfl,h⟩
 ·exact h.elim
 ·rw[E1];rfl
theorem LX {F:Nat}{l:List Ab}(hF:6000<F)(hl:l.length≤300)(hb:∀t∈l,t.fBody.length≤5000):H0 F l l=some true:=by
 unfold H0;rw[A7 (by simp)];obtain⟨o,h1,h2⟩:=EY l (λ_=>True) (λ_=>False) () (λσ=>Df F l l σ) (λx c h0 hx hc hat=>.inl ⟨by
  show Df F l l x=_;unfold Df;have:=hb c hc;rw[AR (Ul hx),Bd h0 hx,Bd h0 hx,hat,LY (by omega) (by omega),AP rfl,A7 (by rfl),AI (by omega) (by omega)],trivial⟩) (by
  show Df F l l _=_;unfold Df;rw[A7 (Uh (by omega))]) (F:=F) (by omega)
 rw[AP h1];rcases h2 with⟨q,rfl,h⟩ | ⟨rfl,h⟩
 ·exact h.elim
 ·rw[E1];rfl
theorem TI.llen {ts:List Aa}(h:TI ts):(CB ts).length≤256:=by unfold CB;rw[Us];exact h.len
theorem TI.lbody {ts:List Aa}(h:TI ts):∀t∈CB ts,t.fBody.length≤300:=λt ht=>by
 obtain⟨x,hx,rfl⟩:=List.mem_map.1 ht;exact(h.sm x hx).len
theorem TI.same {F:Nat}(hF:6000<F){ts:List Aa}(h:TI ts){l:List Ab}(hs:l.Sublist (CB ts)):H0 F l l=some true:=
 LX hF (by have:=hs.length_le;have:=h.llen;omega) λt ht=>Nat.le_trans (h.lbody t (hs.subset ht)) (by decide)
def SO (ts:List Aa)(o:AM):Int×List Aa:=
 bif decide (o.fKind=0) then Ny ts o.fTimer o.fNow else bif decide (o.fKind=2) then L6 ts o.fTimer.fID else bif decide (o.fKind=3) then Gr ts o.fTimer.fID else(0,ts)
theorem Q8 {F:Nat}(hF:5000<F){m:List (Ak×Aa)}{ts:List Aa}(h:Gs m ts){o:AM}(ho:MN o.fTimer):∃m',M3 F ⟨m⟩ o=some ((SO ts o).1,⟨m'⟩)∧Gs m' (SO ts o).2:=by
 unfold M3 SO
 cases decide (o.fKind=0) with
 | true=>
  obtain⟨m',h1,h2⟩:=Rm hF h ho o.fNow;exact⟨m',by rw[AR rfl,h1,AP rfl];rfl,h2⟩
 | false=>
  rw[A7 rfl]
  cases decide (o.fKind=2) with
  | true=>
   obtain⟨m',h1,h2⟩:=NB h o.fTimer.fID;exact⟨m',by rw[AR rfl,h1,AP rfl];rfl,h2⟩
  | false=>
   rw[A7 rfl]
   cases decide (o.fKind=3) with
   | true=>
    obtain⟨m',h1,h2⟩:=MY h o.fTimer.fID;exact⟨m',by rw[AR rfl,h1,AP rfl];rfl,h2⟩
   | false=>exact⟨m,rfl,h⟩
theorem KG:JU 40000=some true:=by decide +kernel
theorem S8:∀a b d e f g h i j:Bool,(B0 (some a) λha=>Bm ha (some true) (Bm d (Bm e (some true) (B0 (some b) λhb=>Bm hb (some true) (Bm f (some true) (Bm g (some true) (Bm h (some true) (Bm i (some true) (some j))))))) (B0 (some b) λhd=>Bm hd (some true) (Bm f (some true) (Bm g (some true) (Bm h (some true) (Bm i (some true) (some j))))))))=some (a||b||(d&&e)||f||g||h||i||j):=by decide
theorem Pb (c:Int):Ls c=some (Cp c):=S8 (decide (97≤c)&&decide (c≤122)) (decide (48≤c)&&decide (c≤57)) (decide (65≤c)) (decide (c≤90)) (decide (c=45)) (decide (c=95)) (decide (c=46)) (decide (c=58)) (decide (c=47))
theorem IQ:∀(s:Ak) (k:Nat),AZ I6 k s=s.all λu=>Cp u.toNat
 | [],k=>rfl
 | u::r,k=>by rw[AZ,IQ r (k+1),List.all_cons];rfl
theorem RK {F:Nat}(hF:64<F)(s:Ak):QC F s=some (Pa s):=by
 unfold QC Pa;rw[IQ]
 by_cases hl:(s.length:Int)<1∨(64:Int)<(s.length:Int)
 ·rw[AR (by simpa using hl)];have:(decide (1≤s.length)&&decide (s.length≤64))=false:=by
   simp only[Bool.and_eq_false_iff,Ue];omega
  rw[Bool.and_assoc,this,U9]
 ·rw[A7 (by simpa using hl)];have hb:(decide (1≤s.length)&&decide (s.length≤64))=true:=by
   simp only[Ui,Ud];omega
  rw[Bool.and_assoc,hb,UA];obtain⟨o,h1,h2⟩:=EY s (λu=>Cp u.toNat=true) (λq=>q=false∧(s.all λu=>Cp u.toNat)=false) () (λσ=>Ej s σ) (λx c h0 hx hc hat=>by
   have hb:DC s x=(c.toNat:Int):=by rw[← hat];rfl
   have e:Ej s x=Bm (!Cp c.toNat) (some (.out (.ret false))) (some (.next (x+1))):=by
    unfold Ej;rw[AR (Ul hx),Bd h0 hx,hb,Pb,AP rfl,AI (by omega) (by omega)]
   cases hL:Cp c.toNat with
   | true=>exact .inl ⟨by rw[hL] at e;exact e,rfl⟩
   | false=>exact .inr ⟨false,by rw[hL] at e;exact e,rfl,List.all_eq_false.2 ⟨c,hc,by simp[hL]⟩⟩) (by
   show Ej s _=_;unfold Ej;rw[A7 (Uh (by omega))]) (F:=F) (by omega)
  rw[AP h1];rcases h2 with⟨q,rfl,rfl,ha⟩ | ⟨rfl,h⟩
  ·rw[I0,ha]
  ·rw[E1,List.all_eq_true.2 h];rfl
theorem Od {α:Type}[Inhabited α](A B:List α)(x:α):Aj (A++x::B) (A.length:Int)=x:=by simp[Aj]
theorem PL {α:Type}(A B:List α)(x y:α):(A++x::B).set A.length y=A++y::B:=by simp
theorem L3 {α:Type}[Inhabited α]{l:List α}{x:Int}(h0:0≤x)(h:x<(l.length:Int)):l[x.toNat]? =some (Aj l x):=by
 have hx:x.toNat<l.length:=by omega
 simp[Aj,hx]
theorem Mr {k:Nat}(hk:1≤k)(u:UInt8):(!(BM u.toNat)&&(!(CN u.toNat)&&(!decide ((u.toNat:Int)=45)&&!decide ((u.toNat:Int)=95)))) = !BR k u:=by
 unfold BR;have:decide (k=0)=false:=by simp;omega
 rw[this]
 cases BM u.toNat<;>cases CN u.toNat<;>simp
theorem KI {F:Nat}(hF:64<F)(s:Ak):D9 F s=some (C9 s):=by
 unfold D9;rw[BU (by
  by_cases h1:(s.length:Int)<1
  ·simp[imp,h1]
  ·by_cases h2:(24:Int)<s.length
   ·simp[imp,h2]
   ·simp only[imp,D2,h1,h2];simp;try omega),BU (by simp only[Cw,Option.isSome_some];simp[imp])]
 have e0:(ov (Cw (DC s 0)))=BM (DC s 0):=rfl;rw[e0]
 cases hA:(decide ((s.length:Int)<1)||(decide ((24:Int)<s.length)||!BM (DC s 0))) with
 | true=>rw[AR rfl,Qr hA]
 | false=>
  rw[A7 rfl];obtain⟨hl1,hnm⟩:=RA (p:=s) (by rw[hA];rfl);have hl2:(s.length:Int)≤24:=by
   simp only[Bool.or_eq_false_iff,Ue] at hA;omega
  rw[hnm];obtain⟨o,h1,h2⟩:=CG (body:=λσ=>D3 s σ) (λx=>1≤x∧x≤(s.length:Int)∧AZ BR 1 (s.drop 1)=AZ BR x.toNat (s.drop x.toNat)) (λx=>s.length-x.toNat)
   (λo=>(o = .ret false∧AZ BR 1 (s.drop 1)=false)∨(o = .go ()∧AZ BR 1 (s.drop 1)=true)) (λx ⟨h0,hx,ha⟩=>by
    by_cases hlt:x<(s.length:Int)
    ·obtain⟨c,hc⟩:∃c,s[x.toNat]? =some c:=⟨s[x.toNat]'(by omega),Uj (by omega)⟩
     have hb:DC s x=(c.toNat:Int):=by have:=SN hc;rwa [show((x.toNat:Nat):Int)=x from by omega] at this
     have e:D3 s x=Bm (!BR x.toNat c) (some (.out (.ret false))) (some (.next (x+1))):=by
      unfold D3;rw[AR (Ul hlt),Bd (by omega) hlt,hb,BU (by rfl),BU (by simp[imp,DA]),AI (by omega) (by omega)];have e1:ov (Cw (c.toNat:Int))=BM c.toNat:=rfl;have e2:ov (DA (c.toNat:Int))=CN c.toNat:=rfl;rw[e1,e2,Mr (k:=x.toNat) (by omega)]
     cases hq:BR x.toNat c with
     | true=>
      refine .inl ⟨x+1,by rw[hq] at e;exact e,⟨by omega,by omega,?_⟩,by omega⟩;rw[ha,Ha hc,AZ,hq,Uz,show(x+1).toNat=x.toNat+1 from by omega]
     | false=>
      refine .inr ⟨.ret false,by rw[hq] at e;exact e,.inl ⟨rfl,?_⟩⟩;rw[ha,Ha hc,AZ,hq,U8]
    ·refine .inr ⟨.go (),by unfold D3;rw[A7 (Uh hlt)],.inr ⟨rfl,?_⟩⟩;rw[ha,show x.toNat=s.length from by omega,List.drop_length];rfl) F 1 ⟨by decide,by omega,rfl⟩ (by show s.length-1<F;omega)
  rw[AP h1];have hd1:decide (1≤s.length)=true:=Ul hl1;have hd2:decide (s.length≤24)=true:=Ul (by omega);rcases h2 with⟨rfl,ha⟩ | ⟨rfl,ha⟩
  ·rw[I0,ha]
  ·rw[E1,ha];rfl
theorem O1 {F:Nat}(hF:30000<F){t:Ab}(h:MN t):J9 F t=some (ME t):=by
 unfold J9 ME;rw[RK (by omega),AP rfl]
 cases Pa t.fID with
 | false=>rfl
 | true=>
  rw[A7 (by rfl)];have hr:(decide (t.fAt<0)||decide ((1073741824:Int)<t.fAt)) = !(decide (0≤t.fAt)&&decide (t.fAt≤1073741824)):=by
   rw[Uy];simp<;>omega
  rw[hr]
  cases hq:(decide (0≤t.fAt)&&decide (t.fAt≤1073741824)) with
  | false=>rfl
  | true=>
   rw[A7 (by rfl),KI (by omega),KI (by omega),BU (by rfl),BU (by simp[imp]),Nl,Nl]
   cases(!C9 t.fTenant||!C9 t.fSource) with
   | true=>rfl
   | false=>rw[A7 rfl,OB h.body (by decide) (by omega),AP rfl];rfl
def AX (ts:List Aa):List As:=ts.map λx=>⟨x.fTimer,x.fTold⟩
abbrev rW (ts:List Aa):Ap:=⟨true,AX ts⟩
theorem Cs (ts:List Aa):(AX ts).length=ts.length:=Us ..
theorem Jn {ts:List Aa}{k:Nat}{x:Aa}(h:ts[k]? =some x):Aj (AX ts) (k:Int)=⟨x.fTimer,x.fTold⟩:=by
 unfold Aj AX;rw[U4,Int.toNat_natCast,h];rfl
theorem JF {F:Nat}{ts:List Aa}(h:TI ts)(hF:256<F)(id:Ak):∃i:Int,JG F (rW ts) id=some (i,rW ts)∧((i = -1∧ID ts id=false)∨∃ (k:Nat) (x:Aa),i=k∧ts[k]? =some x∧x.fTimer.fID=id∧ID ts id=true):=by
 unfold JG;have hlen:=h.len;obtain⟨o,h1,h2⟩:=EY (AX ts) (λc=>¬ c.fTimer.fID=id) (λq=>∃ (k:Nat) (x:Aa),q=((k:Int),rW ts)∧ts[k]? =some x∧x.fTimer.fID=id) () (λσ=>D6 (rW ts) id σ) (λx c h0 hx hc hat=>by
  have hx':x<(ts.length:Int):=by rwa [Cs] at hx
  have e:D6 (rW ts) id x=Bm (decide (c.fTimer.fID=id)) (some (.out (.ret (x,rW ts)))) (some (.next (x+1))):=by
   unfold D6;rw[AR (Ul hx),Bd h0 hx,hat,AI (by omega) (by omega)]
  by_cases hq:c.fTimer.fID=id
  ·refine .inr ⟨_,e.trans (AR (Ul hq)),x.toNat,Aj ts x,by rw[show((x.toNat:Nat):Int)=x from by omega],L3 h0 hx',?_⟩;have h3:=Jn (L3 h0 hx');rw[show((x.toNat:Nat):Int)=x from by omega,hat] at h3;rw[h3] at hq;exact hq
  ·exact .inl ⟨e.trans (A7 (Uh hq)),hq⟩) (by
  show D6 (rW ts) id _=_;unfold D6;rw[A7 (Uh (by show ¬ (((AX ts).length:Int)<((AX ts).length:Int));omega))]) (F:=F) (by rw[Cs];omega)
 rw[AP h1];rcases h2 with⟨q,rfl,k,x,rfl,hk,hid⟩ | ⟨rfl,hn⟩
 ·exact⟨k,I0 ..,.inr ⟨k,x,rfl,hk,hid,List.any_eq_true.2 ⟨x,Um hk,by simp[hid]⟩⟩⟩
 ·refine⟨-1,E1 ..,.inl ⟨rfl,List.any_eq_false.2 λx hx=>?_⟩⟩;have:=hn _ (List.mem_map.2 ⟨x,hx,rfl⟩);simpa using this
theorem ND {T:Type}(lt:T→T→Bool)(y:T):∀(ts:List T) (k:Nat),(∀x∈ts.take k,lt x y=true)→(∀z,ts[k]? =some z→lt z y=false)→k≤ts.length→HP lt y ts=ts.take k++y::ts.drop k
 | [],k,_,_,_=>by simp[HP]
 | z::r,0,_,h2,_=>by
  have:=h2 z rfl;simp[HP,this]
 | z::r,k+1,h1,h2,h3=>by
  have hz:=h1 z (by simp);have:=ND lt y r k (λx hx=>h1 x (by simp[hx])) (λw hw=>h2 w (by simpa using hw)) (by simpa using h3);simp[HP,hz,this]
theorem Ru {F:Nat}(hF:30000<F){ts:List Aa}(h:TI ts){t:Ab}(ht:MN t)(now:Int):PU F (rW ts) t now=some ((Ny ts t now).1,rW (Ny ts t now).2):=by
 unfold PU Ny;have hlen:=h.len;rw[A7 (by rfl),O1 hF ht,AP rfl]
 cases h1 : !decide (ME t=0) with
 | true=>rfl
 | false=>
  rw[A7 rfl];have hr:(decide (now<0)||(decide ((1073741824:Int)<now)||decide (t.fAt<now)))=(!(decide (0≤now)&&decide (now≤1073741824))||decide (t.fAt<now)):=by
   rw[Uy];simp<;>omega
  rw[hr]
  cases h2:(!(decide (0≤now)&&decide (now≤1073741824))||decide (t.fAt<now)) with
  | true=>rfl
  | false=>
   rw[A7 rfl];obtain⟨i,hi,hc⟩:=JF h (F:=F) (by omega) t.fID;rw[hi,AP rfl];rcases hc with⟨rfl,hh⟩ | ⟨k,x,rfl,hk,hid,hh⟩
   ·rw[hh];rw[A7 (by rfl)];have hL:decide (((AX ts).length:Int)=256)=decide (256≤ts.length):=by
     rw[Cs,Uy];simp;omega
    show Bm (decide (((AX ts).length:Int)=256)) _ _=_;rw[hL]
    cases h4:decide (256≤ts.length) with
    | true=>rfl
    | false=>
     rw[A7 rfl];obtain⟨o,h5,h6⟩:=CG (body:=λσ=>E8 t (-1,rW ts) σ) (λx=>0≤x∧x≤(ts.length:Int)∧∀y∈ts.take x.toNat,E3 y ⟨t,false⟩=true) (λx=>ts.length-x.toNat)
      (λo=>∃k:Nat,o = .go (k:Int)∧k≤ts.length∧(∀y∈ts.take k,E3 y ⟨t,false⟩=true)∧∀z,ts[k]? =some z→E3 z ⟨t,false⟩=false) (λx ⟨h0,hx,ha⟩=>by
       by_cases hlt:x<(ts.length:Int)
       ·have hg:=L3 h0 hlt;generalize Aj ts x=y at hg;have hat:=Jn hg;rw[show((x.toNat:Nat):Int)=x from by omega] at hat;have e:E8 t (-1,rW ts) x=Bm (E3 y ⟨t,false⟩) (some (.next (x+1))) (some (.out (.go x))):=by
         unfold E8;have hl:decide (x<((AX ts).length:Int))=true:=by rw[Cs];exact Ul hlt
         show Bk (imp (decide (x<((AX ts).length:Int))) (D2 x ((AX ts).length:Int))) _=_;rw[hl,BU (by show imp true _=true;simp only[imp];rw[RI h0 (by rw[Cs];exact hlt)];rfl)];rw[hat,BU (by rfl),AI (by omega) (by omega)];rfl
        cases hq:E3 y ⟨t,false⟩ with
        | true=>
         refine .inl ⟨x+1,by rw[hq] at e;exact e,⟨by omega,by omega,λz hz=>?_⟩,by omega⟩;rw[show(x+1).toNat=x.toNat+1 from by omega,DK hg] at hz;rcases List.mem_append.1 hz with hz | hz
         ·exact ha z hz
         ·rw[U3] at hz;rw[hz];exact hq
        | false=>
         refine .inr ⟨.go x,by rw[hq] at e;exact e,x.toNat,by rw[show((x.toNat:Nat):Int)=x from by omega],by omega,ha,λz hz=>?_⟩;rw[hg] at hz;rw[← Option.some.inj hz];exact hq
       ·refine .inr ⟨.go x,?_,ts.length,by rw[show x=(ts.length:Int) from by omega],Uv _,?_,λz hz=>by simp at hz⟩
        ·unfold E8;have hl:decide (x<((AX ts).length:Int))=false:=by rw[Cs];exact Uh hlt
         show Bk (imp (decide (x<((AX ts).length:Int))) (D2 x ((AX ts).length:Int))) _=_;rw[hl];rfl
        ·rw[show x.toNat=ts.length from by omega] at ha;exact ha) F 0 ⟨Uw 0,by omega,by simp⟩ (by show ts.length-0<F;omega)
     obtain⟨k,rfl,hk,ha,hz⟩:=h6;rw[AP h5,E1];unfold HU;have hk2:k≤(AX ts).length:=by rw[Cs];exact hk
     have hcl:=Cs ts;rw[DX (by omega) (by show(k:Int)≤((AX ts).length:Int);omega),Gc (by simp;omega),Gc (by simp;omega),Gc (by simp;omega)];rw[Un,Un,Un,Un,ND E3 ⟨t,false⟩ ts k ha hz hk];have e:([]++List.take (k:Int).toNat (AX ts)++[As.mk t false]++List.drop (k:Int).toNat (AX ts))=AX (List.take k ts++(⟨t,false⟩:Aa)::List.drop k ts):=by
      rw[Int.toNat_natCast];simp[AX]
     show some ((0:Int),(⟨true,[]++List.take (k:Int).toNat (AX ts)++[As.mk t false]++List.drop (k:Int).toNat (AX ts)⟩:Ap))=_;rw[e]
   ·rw[hh,AR (Ul (Int.natCast_nonneg k))];rfl
theorem SM {ts:List Aa}(h:TI ts){k:Nat}{x:Aa}(hk:ts[k]? =some x):Pn ts x.fTimer.fID=ts.take k++ts.drop (k+1):=by
 obtain⟨hl,rfl⟩:=List.getElem?_eq_some_iff.1 hk;have e:ts=ts.take k++ts[k]::ts.drop (k+1):=by rw[← List.drop_eq_getElem_cons hl,List.take_append_drop]
 have hid:=h.ids;rw[e,List.pairwise_append,List.pairwise_cons] at hid;obtain⟨_,⟨h1,_⟩,h2⟩:=hid;unfold Pn
 conv=>lhs;arg 2;rw[e]
 rw[List.filter_append,List.filter_cons_of_neg (by simp)]
 congr 1
 ·exact List.filter_eq_self.2 λy hy=>by simpa using h2 y hy _ (List.mem_cons_self ..)
 ·exact List.filter_eq_self.2 λy hy=>by simpa using λe=>h1 y hy e.symm
theorem JD {ts:List Aa}(h:TI ts){k:Nat}{x:Aa}(hk:ts[k]? =some x):GR (rW ts) (k:Int)=some (rW (Pn ts x.fTimer.fID)):=by
 have hl:k<ts.length:=(List.getElem?_eq_some_iff.1 hk).1;have hcl:=Cs ts;have hlen:=h.len;unfold GR;rw[DX (by omega) (by show(k:Int)≤((AX ts).length:Int);omega),Gc (by simp;omega),AI (by omega) (by omega),DX (by omega) (by show(k:Int)+1≤((AX ts).length:Int);omega),Gc (by simp;omega),SM h hk];have e:([]++List.take (k:Int).toNat (AX ts)++List.drop ((k:Int)+1).toNat (AX ts))=AX (List.take k ts++List.drop (k+1) ts):=by
  rw[Int.toNat_natCast,show((k:Int)+1).toNat=k+1 from by omega];simp[AX]
 show some (⟨true,[]++List.take (k:Int).toNat (AX ts)++List.drop ((k:Int)+1).toNat (AX ts)⟩:Ap)=_;rw[e]
theorem Ry {F:Nat}(hF:256<F){ts:List Aa}(h:TI ts)(id:Ak):Qc F (rW ts) id=some ((L6 ts id).1,rW (L6 ts id).2):=by
 unfold Qc L6;obtain⟨i,hi,hc⟩:=JF h hF id;rw[A7 (by rfl),hi,AP rfl];rcases hc with⟨rfl,hh⟩ | ⟨k,x,rfl,hk,hid,hh⟩
 ·rw[hh];rfl
 ·rw[hh,A7 (Uh (by simp only[Int.not_lt];exact Int.natCast_nonneg k)),JD h hk,AP rfl,hid];rfl
theorem Rl {ts:List Aa}(h:TI ts){k:Nat}{x:Aa}(hk:ts[k]? =some x):Kf ts x.fTimer.fID=x.fTold:=by
 cases ht:x.fTold with
 | true=>exact List.any_eq_true.2 ⟨x,Um hk,by simp[ht]⟩
 | false=>
  refine List.any_eq_false.2 λy hy=>?_
  by_cases e:y.fTimer.fID=x.fTimer.fID
  ·have:y=x:=by
    rcases JL (R:=λa b:Aa=>a.fTimer.fID≠b.fTimer.fID) (λa b h e=>h e.symm) h.ids y x hy (Um hk) with e2 | e2
    ·exact e2
    ·exact absurd e e2
   subst this;simp[ht]
  ·simp[e]
theorem Ou {ts:List Aa}{id:Ak}(h:ID ts id=false):Kf ts id=false:=
 List.any_eq_false.2 λy hy=>by
  have:=List.any_eq_false.1 h y hy;simp at this;simp[this]
theorem Nj {F:Nat}(hF:256<F){ts:List Aa}(h:TI ts)(id:Ak):Ia F (rW ts) id=some ((Gr ts id).1,rW (Gr ts id).2):=by
 unfold Ia Gr L6;obtain⟨i,hi,hc⟩:=JF h hF id;rw[A7 (by rfl),hi,AP rfl];rcases hc with⟨rfl,hh⟩ | ⟨k,x,rfl,hk,hid,hh⟩
 ·rw[hh,Ou hh];rfl
 ·subst hid;have hl:k<ts.length:=(List.getElem?_eq_some_iff.1 hk).1;have hcl:=Cs ts;rw[hh,Rl h hk,A7 (Uh (by simp only[Int.not_lt];exact Int.natCast_nonneg k)),Bd (by exact Int.natCast_nonneg k) (by show(k:Int)<((AX ts).length:Int);omega)];have hat:Aj (AX ts) (k:Int)=⟨x.fTimer,x.fTold⟩:=Jn hk;show Bm (Aj (AX ts) (k:Int)).fReturned _ _=_;rw[hat]
  cases x.fTold with
  | true=>rfl
  | false=>rw[A7 (by rfl),JD h hk,AP rfl];rfl
theorem O5 (ts:List Aa):HV (rW ts)=some ((Of ts).1,(Of ts).2,rW ts):=by
 unfold HV
 cases ts with
 | nil=>rfl
 | cons x r=>rw[A7 (by simp[AX]<;>omega),Bd (Uw 0) (by simp[AX]<;>omega)];rfl
theorem PY {F:Nat}(hF:256<F){ts:List Aa}(h:TI ts):Mb F (rW ts)=some (CB ts,rW ts):=by
 have hlen:=h.len;have hcl:=Cs ts;unfold Mb;rw[A7 (by rfl)];obtain⟨o,h1,h2⟩:=CG (body:=λσ:List Ab×Int=>Ez (rW ts) σ.1 σ.2) (λσ=>∃a b,ts=a++b∧σ.2=(a.length:Int)∧σ.1=CB a) (λσ=>ts.length-σ.2.toNat) (λo=>o = .go (CB ts)) (λ⟨l,x⟩ ⟨a,b,e,hx,hl⟩=>by
  dsimp only at hx hl ⊢;subst hx;subst hl
  cases b with
  | nil=>
   refine .inr ⟨.go (CB a),?_,by rw[e,UO]⟩;unfold Ez;rw[A7 (Uh (by show ¬ ((a.length:Int)<((AX ts).length:Int));rw[hcl,e];simp))]
  | cons y b=>
   have hla:a.length<ts.length:=by rw[e];simp
   refine .inl ⟨(CB (a++[y]),(a.length:Int)+1),?_,⟨a++[y],b,by rw[e];simp,by simp,rfl⟩,by show ts.length-((a.length:Int)+1).toNat<ts.length-((a.length:Int)).toNat;omega⟩;have hat:Aj (AX ts) (a.length:Int)=⟨y.fTimer,y.fTold⟩:=Jn (by rw[e];simp);unfold Ez;rw[AR (Ul (by show(a.length:Int)<((AX ts).length:Int);omega)),Bd (Int.natCast_nonneg _) (by show(a.length:Int)<((AX ts).length:Int);omega)];show Bk (LA 80 ((CB a).length+[(Aj (AX ts) (a.length:Int)).fTimer].length)) _=_;rw[IB (by simp[CB];omega),AI (by omega) (by omega)];show some (Stp.next (CB a++[(Aj (AX ts) (a.length:Int)).fTimer],(a.length:Int)+1))=_;rw[hat];simp[CB]) F ([],0) ⟨[],ts,rfl,rfl,rfl⟩ (by show ts.length-0<F;omega)
 subst h2;rw[AP h1,E1];rfl
theorem KS (a:List Aa)(y:Aa)(now:Int):IU (a++[y]) now=IU a now++bif decide (y.fTimer.fAt≤now) then[y.fTimer] else[]:=by
 unfold IU CB;rw[List.map_append,List.filter_append]
 congr 1
 by_cases hq:y.fTimer.fAt≤now
 ·have : ¬ now<y.fTimer.fAt:=by omega
  simp[hq,this]
 ·have:now<y.fTimer.fAt:=by omega
  simp[hq,this]
theorem Rx {F:Nat}(hF:256<F){ts:List Aa}(h:TI ts)(now:Int):Qa F (rW ts) now=some (IU ts now,rW (C4 ts now)):=by
 have hlen:=h.len;have hcl:=Cs ts;unfold Qa;rw[A7 (by rfl)];obtain⟨o,h1,h2⟩:=CG (body:=λσ:List Ab×Int×List As=>Gl (rW ts) now σ.1 σ.2.1 σ.2.2) (λσ=>∃a b,ts=a++b∧σ.2.1=(a.length:Int)∧σ.1=IU a now∧σ.2.2=AX (C4 a now)++AX b) (λσ=>ts.length-σ.2.1.toNat) (λo=>o = .go (IU ts now,AX (C4 ts now))) (λ⟨l,x,z⟩ ⟨a,b,e,hx,hl,hz⟩=>by
  dsimp only at hx hl hz ⊢;subst hx;subst hl;subst hz
  cases b with
  | nil=>
   refine .inr ⟨.go (IU a now,AX (C4 a now)++AX []),?_,by rw[e];simp[AX]⟩;unfold Gl;rw[A7 (Uh (by show ¬ ((a.length:Int)<((AX ts).length:Int));rw[hcl,e];simp))]
  | cons y b=>
   have hla:a.length<ts.length:=by rw[e];simp
   have hal:(IU a now).length≤a.length:=by unfold IU;exact Nat.le_trans (List.length_filter_le ..) (by simp[CB])
   refine .inl ⟨(IU (a++[y]) now,(a.length:Int)+1,AX (C4 (a++[y]) now)++AX b),?_,⟨a++[y],b,by rw[e];simp,by simp,rfl,rfl⟩,by show ts.length-((a.length:Int)+1).toNat<ts.length-((a.length:Int)).toNat;omega⟩;have hA:(AX (C4 a now)).length=a.length:=by simp[AX,C4]
   have hc:AX (y::b)=⟨y.fTimer,y.fTold⟩::AX b:=rfl;have hat:Aj (AX (C4 a now)++AX (y::b)) (a.length:Int)=⟨y.fTimer,y.fTold⟩:=by rw[hc,← hA];exact Od ..
   have hLn:(AX (C4 a now)++AX (y::b)).length=ts.length:=by rw[Uq,hA,Cs,e];simp
   unfold Gl;rw[AR (Ul (by show(a.length:Int)<((AX ts).length:Int);omega)),Bd (Int.natCast_nonneg _) (by omega),hat]
   by_cases hq:y.fTimer.fAt≤now
   ·rw[AR (Ul hq),Sk];have hset:List.set (AX (C4 a now)++AX (y::b)) (Int.toNat (a.length:Int)) (⟨y.fTimer,true⟩:As)=AX (C4 a now)++⟨y.fTimer,true⟩::AX b:=by
     rw[hc,Int.toNat_natCast,← hA];exact PL ..
    have hat2:Aj (AX (C4 a now)++(⟨y.fTimer,true⟩:As)::AX b) (a.length:Int)=⟨y.fTimer,true⟩:=by rw[← hA];exact Od ..
    have hl2:(AX (C4 a now)++(⟨y.fTimer,true⟩:As)::AX b).length=ts.length:=by rw[Uq,hA,e,Uo,Cs];simp
    rw[hset,Bd (Int.natCast_nonneg _) (by omega),hat2,IB (by simp;omega)];unfold Gk;rw[AI (by omega) (by omega),KS,Ul hq,Ut];have:AX (C4 (a++[y]) now)++AX b=AX (C4 a now)++(⟨y.fTimer,true⟩:As)::AX b:=by
     simp[C4,AX,Hg,hq]
    rw[this]
   ·rw[A7 (Uh hq)];unfold Gk;rw[AI (by omega) (by omega),KS,Uh hq,Un,UO];have:AX (C4 (a++[y]) now)++AX b=AX (C4 a now)++AX (y::b):=by
     simp[C4,AX,Hg,hq]
    rw[this]) F ([],0,AX ts) ⟨[],ts,rfl,rfl,rfl,rfl⟩ (by show ts.length-0<F;omega)
 subst h2;rw[AP h1,E1];rfl
end Go.Proofs.YtmmbdclkpijkpaaGreatDoor
namespace Go.Proofs.YtmmbdclkpijkpaaGreatDoor
open Go
set_option linter.unusedVariables false
set_option linter.unusedSimpArgs false
theorem TI.tell {ts:List Aa}(h:TI ts)(now:Int):TI (C4 ts now):=by
 refine⟨List.pairwise_map.2 h.srt,List.pairwise_map.2 h.ids,by unfold C4;rw[Us];exact h.len,λx hx=>?_⟩;obtain⟨y,hy,rfl⟩:=List.mem_map.1 hx;exact h.sm y hy
theorem Q5 {F:Nat}(hF:30000<F){ts:List Aa}(h:TI ts){o:AM}(ho:MN o.fTimer):M1 F (rW ts) o=some ((SO ts o).1,rW (SO ts o).2):=by
 unfold M1 SO
 cases decide (o.fKind=0) with
 | true=>rw[AR rfl,Ru hF h ho,AP rfl];rfl
 | false=>
  rw[A7 rfl]
  cases decide (o.fKind=2) with
  | true=>rw[AR rfl,Ry (by omega) h,AP rfl];rfl
  | false=>
   rw[A7 rfl]
   cases decide (o.fKind=3) with
   | true=>rw[AR rfl,Nj (by omega) h,AP rfl];rfl
   | false=>rfl
theorem P1 {F:Nat}(hF:30000<F)(x a b:Int)(u v:Bool){m:List (Ak×Aa)}{ts:List Aa}(h:Gs m ts)(h0:0≤x)(hx:x<1000):DN x a b u v false true (AX ts) m=some (.next (x+1,true,AX ts,m)):=by
 unfold DN;rw[A7 rfl,PA h,AP rfl,O5,AP rfl,A7 (by simp),AI (by omega) (by omega)]
theorem LJ {F:Nat}(hF:30000<F){l:List AM}(hl:l.length≤300)(hs:∀o∈l,MN o.fTimer){x:Int}(h0:0≤x)(hx:x<(l.length:Int)){m:List (Ak×Aa)}{ts:List Aa}(h:Gs m ts) :
  ∃m' ts',DO F l x false true (AX ts) m=some (.next (x+1,true,AX ts',m'))∧Gs m' ts':=by
 unfold DO;rw[A7 rfl,Bd h0 hx];have hg:=L3 h0 hx;have ho:MN (AM.mk ((Aj l x).fKind) ((Aj l x).fNow) ((Aj l x).fTimer)).fTimer:=hs _ (Um hg);generalize AM.mk ((Aj l x).fKind) ((Aj l x).fNow) ((Aj l x).fTimer)=o at ho;obtain⟨m',h1,h2⟩:=Q8 (F:=F) (by omega) h ho;refine⟨m',(SO ts o).2,?_,h2⟩;rw[h1,AP rfl,Q5 hF h.ti ho,AP rfl,A7 (by simp),J3 h2,AP rfl,PY (by omega) h2.ti,AP rfl,h2.ti.same (by omega) (List.Sublist.refl _),AP rfl];exact P1 hF x _ _ _ _ h2 h0 (by omega)
theorem P2 {F:Nat}(hF:30000<F){l:List AM}(hl:l.length≤300)(hs:∀o∈l,MN o.fTimer){x:Int}(h0:0≤x)(hx:x<(l.length:Int)){m:List (Ak×Aa)}{ts:List Aa}(h:Gs m ts) :
  ∃m' ts',Dz F l x true (AX ts) m=some (.next (x+1,true,AX ts',m'))∧Gs m' ts':=by
 unfold Dz;rw[AR (Ul hx),Bd h0 hx]
 cases hk:decide ((Aj l x).fKind=1) with
 | false=>rw[A7 rfl];exact LJ hF hl hs h0 hx h
 | true=>
  rw[AR rfl];obtain⟨m',h1,h2⟩:=Rn (F:=F) (by omega) h (Aj l x).fNow;rw[h1,AP rfl,Rx (by omega) h.ti,AP rfl,h.ti.same (by omega) (by unfold IU;exact List.filter_sublist ..),AP rfl];exact LJ hF hl hs h0 hx h2
theorem OZ (l:List AM)(ho:∀o∈l,TB o.fTimer.fBody):JS 40000 l=some true:=by
 unfold JS;obtain⟨b,hb,hs⟩:=Q7 (F:=40000) (by decide) ho;rw[hb,AP rfl]
 cases b with
 | false=>rw[AR (by rfl),KG,AP rfl]
 | true=>
  obtain⟨hl,hs⟩:=hs rfl;rw[A7 (by rfl)];have hN:PC=some ⟨[]⟩:=rfl;have hR:Rv=some ⟨true,[]⟩:=rfl;rw[hN,AP rfl,hR,AP rfl];obtain⟨o,h1,h2⟩:=CG (body:=λσ:Int×Bool×List As×List (Ak×Aa)=>Dz 40000 l σ.1 σ.2.1 σ.2.2.1 σ.2.2.2) (λσ=>0≤σ.1∧σ.1≤(l.length:Int)∧σ.2.1=true∧∃ts,σ.2.2.1=AX ts∧Gs σ.2.2.2 ts) (λσ=>l.length-σ.1.toNat) (λo=>o = .go ()) (λ⟨x,t,cs,m⟩ ⟨h0,hx,ht,ts,hc,h⟩=>by
   dsimp only at h0 hx ht hc h ⊢;subst ht;subst hc
   by_cases hlt:x<(l.length:Int)
   ·obtain⟨m',ts',h3,h4⟩:=P2 (F:=40000) (by decide) hl hs h0 hlt h;exact .inl ⟨_,h3,⟨by show 0≤x+1;omega,by show x+1≤_;omega,rfl,ts',rfl,h4⟩,by show l.length-(x+1).toNat<l.length-x.toNat;omega⟩
   ·refine .inr ⟨.go (),?_,rfl⟩;unfold Dz;rw[A7 (Uh hlt)]) 40000 (0,true,[],[]) ⟨Uw 0,by show(0:Int)≤_;omega,rfl,[],rfl,Gs.nil⟩ (by show l.length-0<40000;omega)
  subst h2;rw[AP h1,E1];unfold EZ;rw[KG,AP rfl]
end Go.Proofs.YtmmbdclkpijkpaaGreatDoor
namespace Go.Proofs.YtmmbdclkpijkpaaGreatDoor.lawTimerWorks
open Go
set_option linter.unusedVariables false
theorem S9 {o:AM}(h:OG o=true):TB o.fTimer.fBody:=λc hc=>by
 unfold OG at h;simp only[Ui] at h;have h2:=h.2;unfold R5 at h2;simp only[Ui,U2] at h2;have h3:=h2.2.1 c hc;unfold Qk at h3;simp only[Ui] at h3;exact⟨h3.1.1.2,(EC h3.2).2⟩
theorem TW:Ub:=λl h=>⟨40000,OZ l λo ho=>S9 (by
 simp only[Ui,U2] at h;exact h.1 o ho)⟩
end Go.Proofs.YtmmbdclkpijkpaaGreatDoor.lawTimerWorks
