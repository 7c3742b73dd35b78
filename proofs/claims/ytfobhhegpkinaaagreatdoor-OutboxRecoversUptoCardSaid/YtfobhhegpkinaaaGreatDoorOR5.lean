/-
  Texts of the proof, put together: LvG, LvH, LvI, LvJ, LvK, LvL, LvM, LvN, LvO, LvP, LdA, LdB, LdC, LdD, LdE, LdF, LdG, LdH, LdI, LdJ, LdK, LtA, LtB, LtD, LbB, LhA, LhB, LsA, LrA, LsC, LsD, LrB, LbC, LbD, LbE, LbF, PN, PO, PlF.
-/
import Derived.Test.YtfobhhegpkinaaaGreatDoorOR4
import Derived.Sort.Walk0
namespace Go.Proofs.YtfobhhegpkinaaaGreatDoor
open Go
set_option linter.unusedVariables false
set_option linter.unusedSimpArgs false
theorem KF {x:Int}(h : -9223372036854775808≤x)(h':x≤9223372036854775807):IntKind.wrap .i64 x=x:=by
 simp only[IntKind.wrap,IntKind.bits,IntKind.signed];simp;omega
def Fo.dep:Fo→Nat
 | .nil=>0
 | .cell _ _ r=>max 1 r.dep
 | .node _ _ kids r=>max (kids.dep+1) r.dep
theorem HG (k:Option Ai)(s:AT):(NH k s).fDepth=s.fDepth∧(NH k s).fOutside=s.fOutside∧(NH k s).fLong=(s.fLong||(BP k).any λc=>decide (200<(c.fStr.length:Int))):=by
 cases k with
 | none=>simp[NH,BP]
 | some x=>simp[NH,shk,BP]
theorem Ml:∀(f:Fo) (d:Nat) (s:AT),(d:Int)≤s.fDepth→(f.sh d s).fDepth=max s.fDepth ((d:Int)+f.dep)
 | .nil,d,s,h=>by simp only[Fo.sh,Fo.dep];omega
 | .cell k c r,d,s,h=>by
  have hk:=(HG k s).1;have e:(JU d (NH k s) c).fDepth=max s.fDepth ((d:Int)+1):=by rw[JU,hk]
  rw[Fo.sh,Ml r d _ (by rw[e];omega),e,Fo.dep];omega
 | .node k c kids r,d,s,h=>by
  have hk:=(HG k s).1;have e:(JU d (NH k s) c).fDepth=max s.fDepth ((d:Int)+1):=by rw[JU,hk]
  have e2:=Ml kids (d+1) (JU d (NH k s) c) (by rw[e];omega);rw[e] at e2;rw[Fo.sh,Ml r d _ (by rw[e2];omega),e2,Fo.dep];omega
def C0 (c:Ab):Bool:=decide (c.fKind=3)&&!(decide ((-1000000000000)≤c.fInt)&&decide (c.fInt≤1000000000000))
def Rh (c:Ab):Bool:=decide (200<(c.fStr.length:Int))
theorem P6 (k:Option Ai):(BP k).any C0=false:=by cases k<;>simp[BP,C0]
theorem RR:∀(f:Fo) (d:Nat) (s:AT),(f.sh d s).fOutside=(s.fOutside||f.flat.any C0)
 | .nil,d,s=>by simp[Fo.sh,Fo.flat]
 | .cell k c r,d,s=>by
  rw[Fo.sh,RR r,JU,(HG k s).2.1];simp only[Fo.flat,List.any_append,List.any_cons,P6,AfW,Bool.or_assoc];rfl
 | .node k c kids r,d,s=>by
  rw[Fo.sh,RR r,RR kids,JU,(HG k s).2.1];simp only[Fo.flat,List.any_append,List.any_cons,P6,AfW,Bool.or_assoc];rfl
theorem Or:∀(f:Fo) (d:Nat) (s:AT),(f.sh d s).fLong=(s.fLong||f.flat.any Rh)
 | .nil,d,s=>by simp[Fo.sh,Fo.flat]
 | .cell k c r,d,s=>by
  rw[Fo.sh,Or r,JU,(HG k s).2.2];simp only[Fo.flat,List.any_append,List.any_cons,Bool.or_assoc];rfl
 | .node k c kids r,d,s=>by
  rw[Fo.sh,Or r,Or kids,JU,(HG k s).2.2];simp only[Fo.flat,List.any_append,List.any_cons,Bool.or_assoc];rfl
def Y6 (c:Ab):Int:=
 bif decide (c.fKind=1) then 4 else bif decide (c.fKind=2) then 5-c.fInt else bif decide (c.fKind=3) then((Lib.itoa c.fInt).length:Int) else
 bif decide (c.fKind=4) then Nb c.fStr else 2
def Sw:Option Ai→Int
 | none=>0
 | some s=>Nb s+1
def Fo.byt:Fo→Int
 | .nil=>0
 | .cell k c r=>Sw k+Y6 c+r.byt
 | .node k c kids r=>Sw k+(c.fN+1)+kids.byt+r.byt
theorem Mr (s:Ai):2≤Nb s:=by unfold Nb;omega
theorem O5 (k:Option Ai):0≤Sw k:=by
 cases k with
 | none=>exact Agp 0
 | some s=>have:=Mr s;simp only[Sw];omega
theorem Wi {c:Ab}(hp:pl c=true):0≤Y6 c:=by
 unfold Y6
 cases h1:decide (c.fKind=1) with
 | true=>simp
 | false=>
  cases h2:decide (c.fKind=2) with
  | true=>
   simp[pl,h1,h2] at hp;simp only[AfH,AfL];omega
  | false=>
   cases h3:decide (c.fKind=3) with
   | true=>simp
   | false=>
    cases h4:decide (c.fKind=4) with
    | true=>have:=Mr c.fStr;simp only[AfH,AfL];omega
    | false=>simp
theorem Zz {c:Ab}(hp:pl c=true):0≤c.fN:=by
 simp only[pl,← Bool.decide_or] at hp
 cases h1:decide (c.fKind=1)<;>cases h2:decide (c.fKind=2)<;>cases h3:decide (c.fKind=3)<;>cases h4:decide (c.fKind=4)<;>cases h5:decide (c.fKind=5)<;>cases h6:decide (c.fKind=6)<;>simp[h1,h2,h3,h4,h5,h6] at hp<;>omega
theorem Oz {c:Ab}(hp:pl c=true)(hn:0<c.fN):(c.fKind=5∨c.fKind=6)∧c.fInt=0∧c.fStr=[]:=by
 cases h1:decide (c.fKind=1)<;>cases h2:decide (c.fKind=2)<;>cases h3:decide (c.fKind=3)<;>cases h4:decide (c.fKind=4)<;>cases h5:decide (c.fKind=5)<;>cases h6:decide (c.fKind=6)<;>simp[pl,h1,h2,h3,h4,h5,h6] at hp<;>(simp only[AfF,AfE] at *;first | omega | exact⟨by omega,hp.1,hp.2.1⟩)
theorem Zc {c:Ab}(hp:pl c=true)(hn:decide (0<c.fN)=false):szc c=Y6 c:=by
 have hN:=Zz hp;have h0:c.fN=0:=by simp only[AfE] at hn;omega
 unfold szc Y6;rw[h0]
 cases h1:decide (c.fKind=1) with
 | true=>rfl
 | false=>
  cases h2:decide (c.fKind=2) with
  | true=>
   simp[pl,h1,h2] at hp;simp only[AfH,AfL];exact KF (by omega) (by omega)
  | false=>rfl
theorem Zb {c:Ab}(hp:pl c=true)(hn:0<c.fN)(hm:c.fN≤9223372036854775000):szc c=c.fN+1:=by
 obtain⟨hk,_,_⟩:=Oz hp hn;unfold szc;rw[AfG (by omega),AfG (by omega),AfG (by omega),AfG (by omega)];simp only[AfH];rw[KF (x:=c.fN-1) (by omega) (by omega),KF (by omega) (by omega)];omega
theorem IC:∀{f:Fo} {m:Bool} {l:Option Ai},f.wf m l=true→0≤f.byt
 | .nil,_,_,_=>Agp 0
 | .cell k c r,m,l,h=>by
  simp only[Fo.wf,AfM] at h;have h1:=IC h.2;have h2:=Wi h.1.1.2;have h3:=O5 k;simp only[Fo.byt];omega
 | .node k c kids r,m,l,h=>by
  simp only[Fo.wf,AfM,AfF] at h;have h1:=IC h.2;have h2:=IC h.1.2;have h3:=O5 k;simp only[Fo.byt];omega
theorem QK (k:Option Ai)(s:AT)(h0:0≤s.fBytes)(h:s.fBytes+Sw k≤9223372036854775807):(NH k s).fBytes=s.fBytes+Sw k:=by
 cases k with
 | none=>simp[NH,Sw]
 | some x=>
  have:=Mr x;simp only[Sw] at h;simp only[NH,shk,Sw];exact KF (by omega) (by omega)
theorem Mm:∀(f:Fo) (m:Bool) (l:Option Ai) (d:Nat) (s:AT),f.wf m l=true→0≤s.fBytes→s.fBytes+f.byt≤9223372036854775000→(f.sh d s).fBytes=s.fBytes+f.byt
 | .nil,_,_,d,s,_,_,_=>by simp[Fo.sh,Fo.byt]
 | .cell k c r,m,l,d,s,hw,h0,h=>by
  simp only[Fo.wf,AfM,Agd] at hw;obtain⟨⟨⟨w1,w2⟩,w3⟩,w4⟩:=hw;have h1:=IC w4;have h2:=Wi w2;have h3:=O5 k;simp only[Fo.byt] at h;have e1:=QK k s h0 (by omega);have e:(JU d (NH k s) c).fBytes=s.fBytes+Sw k+Y6 c:=by
   rw[JU,e1,Zc w2 w3];exact KF (by omega) (by omega)
  rw[Fo.sh,Mm r _ _ d _ w4 (by rw[e];omega) (by rw[e];omega),e,Fo.byt];omega
 | .node k c kids r,m,l,d,s,hw,h0,h=>by
  simp only[Fo.wf,AfM,AfF] at hw;obtain⟨⟨⟨⟨⟨w1,w2⟩,w3⟩,w5⟩,w6⟩,w4⟩:=hw;have h1:=IC w4;have h2:=IC w6;have h3:=O5 k;simp only[Fo.byt] at h;have e1:=QK k s h0 (by omega);have e:(JU d (NH k s) c).fBytes=s.fBytes+Sw k+(c.fN+1):=by
   rw[JU,e1,Zb w2 w3 (by omega)];exact KF (by omega) (by omega)
  have e2:=Mm kids _ _ (d+1) (JU d (NH k s) c) w6 (by rw[e];omega) (by rw[e];omega);rw[Fo.sh,Mm r _ _ d _ w4 (by rw[e2,e];omega) (by rw[e2,e];omega),e2,e,Fo.byt];omega
def Gw (s:Ai):Ai:=s.flatMap λc=>bif (decide (c=34)||decide (c=92)) then[92,c] else[c]
def H6 (s:Ai):Ai:=34::(Gw s++[34])
theorem PJ:∀s:Ai,(Gw s).length=s.length+s.count 34+s.count 92
 | []=>rfl
 | c::s=>by
  have ih:=PJ s;unfold Gw at ih ⊢;rw[AgA,AfK,ih]
  by_cases h1:c=34
  ·subst h1;simp;omega
  ·by_cases h2:c=92
   ·subst h2;simp;omega
   ·simp[h1,h2,List.count_cons];omega
theorem Tq (s:Ai):((H6 s).length:Int)=Nb s:=by
 simp only[H6,AfJ,AfK,PJ,AgC,Nb];omega
def E9 (c:Ab):Ai:=
 bif decide (c.fKind=1) then[110,117,108,108] else
 bif decide (c.fKind=2) then(bif decide (c.fInt=1) then[116,114,117,101] else[102,97,108,115,101]) else
 bif decide (c.fKind=3) then Lib.itoa c.fInt else
 bif decide (c.fKind=4) then H6 c.fStr else
 bif decide (c.fKind=6) then[123,125] else[91,93]
def Jt:Option Ai→Ai
 | none=>[]
 | some s=>H6 s++[58]
def Uq (c:Ab)(s:Ai):Ai:=bif decide (c.fKind=6) then 123::(s++[125]) else 91::(s++[93])
def DZ (first:Bool):Ai:=bif first then[] else[44]
def Fo.txt:Bool→Fo→Ai
 | _,.nil=>[]
 | b,.cell k c r=>DZ b++Jt k++E9 c++r.txt false
 | b,.node k c kids r=>DZ b++Jt k++Uq c (kids.txt true)++r.txt false
theorem Wk (k:Option Ai):((Jt k).length:Int)=Sw k:=by
 cases k with
 | none=>rfl
 | some s=>simp only[Jt,AfK,Sw,Agq];have:=Tq s;omega
theorem Rl {c:Ab}(hp:pl c=true):((E9 c).length:Int)=Y6 c:=by
  unfold E9 Y6
  cases h1:decide (c.fKind=1) with
  | true=>rfl
  | false=>
    cases h2:decide (c.fKind=2) with
    | true=>
      simp[pl,h1,h2] at hp;simp only[AfH,AfL]
      cases h7:decide (c.fInt=1) with
      | true=>simp only[AfF] at h7;simp[h7]
      | false=>
                 simp only[AfE] at h7;have:c.fInt=0:=by omega
                 simp[this]
    | false=>
      cases h3:decide (c.fKind=3) with
      | true=>rfl
      | false=>
        cases h4:decide (c.fKind=4) with
        | true=>simpa using Tq c.fStr
        | false=>cases h6:decide (c.fKind=6)<;>rfl
theorem MO (c:Ab)(s:Ai):(Uq c s).length=s.length+2:=by
 unfold Uq
 cases decide (c.fKind=6)<;>simp
theorem KQ:∀(f:Fo) (m:Bool) (l:Option Ai) (b:Bool),f.wf m l=true→((f.txt b).length:Int)=f.byt+(bif b then((f.cnt-1:Nat):Int) else(f.cnt:Int))
 | .nil,m,l,b,_=>by cases b<;>rfl
 | .cell k c r,m,l,b,hw=>by
  simp only[Fo.wf,AfM,Agd] at hw;obtain⟨⟨⟨w1,w2⟩,w3⟩,w4⟩:=hw;have ih:=KQ r _ _ false w4;have a:=Wk k;have d:=Rl w2;simp only[AfH] at ih
  cases b<;>simp only[Fo.txt,Fo.byt,Fo.cnt,DZ,AfL,AfH,AfK,AgC,Agq]<;>omega
 | .node k c kids r,m,l,b,hw=>by
  simp only[Fo.wf,AfM,AfF] at hw;obtain⟨⟨⟨⟨⟨w1,w2⟩,w3⟩,w5⟩,w6⟩,w4⟩:=hw;have ih:=KQ r _ _ false w4;have ih2:=KQ kids _ _ true w6;have a:=Wk k;have d:=MO c (kids.txt true);simp only[AfH,AfL] at ih ih2
  cases b<;>simp only[Fo.txt,Fo.byt,Fo.cnt,DZ,AfL,AfH,AfK,AgC,Agq]<;>omega
def Fo.put (k:Option Ai):Fo→Fo→Fo
 | .cell _ c _,r=>.cell k c r
 | .node _ c kids _,r=>.node k c kids r
 | .nil,_=>.nil
theorem Zx (P:Nat)(m:Bool)(last:Option Ai)(k:Nat)(xs:List Ab):Js (P+2) m last (k+1) xs =
  match J0 m last xs with
  | none=>none
  | some (key,ys)=>match Js (P+2) false none 1 ys with
   | none=>none
   | some (f,zs)=>match Js (P+1) m key k zs with
    | none=>none
    | some (r,us)=>some (f.put key r,us):=by
 rw[Js]
 cases hk:J0 m last xs with
 | none=>rfl
 | some p=>
  obtain⟨key,ys⟩:=p;simp only;rw[Js];simp only[J0,AfH]
  cases ys with
  | nil=>rfl
  | cons c ys=>
   simp only
   cases hp:pl c with
   | false=>rfl
   | true=>
    simp only[AfR,AfH]
    cases hn:decide (0<c.fN) with
    | true=>
     simp only[AfL]
     cases hq:Js (P+1) (decide (c.fKind=6)) none c.fN.toNat ys with
     | none=>rfl
     | some q=>
      obtain⟨kids,zs⟩:=q;simp only[Js]
      cases hr:Js (P+1) m key k zs with
      | none=>rfl
      | some q=>obtain⟨a,b⟩:=q;rfl
    | false=>
     simp only[AfH,Js]
     cases hr:Js (P+1) m key k ys with
     | none=>rfl
     | some q=>obtain⟨a,b⟩:=q;rfl
def Pg (m:Bool)(last:Option Ai)(k:Nat)(xs:List Ab):Option (Fo×List Ab):=Js (xs.length+1) m last k xs
theorem Nc (m:Bool)(last:Option Ai)(xs:List Ab):Pg m last 0 xs=some (.nil,xs):=rfl
theorem HI (m:Bool)(last:Option Ai)(k:Nat)(xs:List Ab):Pg m last (k+1) xs =
  match J0 m last xs with
  | none=>none
  | some (key,ys)=>match J1 ys with
   | none=>none
   | some (f,zs)=>match Pg m key k zs with
    | none=>none
    | some (r,us)=>some (f.put key r,us):=by
 unfold Pg J1;rw[IZ (xs.length+1) (xs.length+2) m last (k+1) xs (by omega) (by omega),Zx]
 cases hk:J0 m last xs with
 | none=>rfl
 | some p=>
  obtain⟨key,ys⟩:=p;have h1:=(Ow hk).1;have hy:ys.length≤xs.length:=by rw[h1];simp
  simp only;rw[IZ (xs.length+2) (ys.length+1) false none 1 ys (by omega) (by omega)]
  cases hf:Js (ys.length+1) false none 1 ys with
  | none=>rfl
  | some q=>
   obtain⟨f,zs⟩:=q;have h2:=(II _ _ _ _ _ _ _ hf).1;have hz:zs.length≤ys.length:=by rw[h2];simp
   simp only;rw[IZ (xs.length+1) (zs.length+1) m key k zs (by omega) (by omega)]
   all_goals (cases Js (zs.length+1) m key k zs<;>rfl)
theorem M6 {S O:Type}{body:S→Option (Stp S O)}{n:Nat}{s s':S}{o:O}(h:body s=some (.next s'))(h':Ci body n s'=some o):Ci body (n+1) s=some o:=by rw[Ci,h];exact h'
theorem Gq {S O:Type}{body:S→Option (Stp S O)}{n:Nat}{s:S}{o:O}(h:body s=some (.out o)):Ci body (n+1) s=some o:=by rw[Ci,h]
theorem Zy:J1 []=none:=rfl
theorem Ja (c:Ab)(r:List Ab):J1 (c::r)=bif !pl c then none else bif decide (0<c.fN) then(match Pg (decide (c.fKind=6)) none c.fN.toNat r with
  | none=>none
  | some (kids,zs)=>some (.node none c kids .nil,zs)) else some (.cell none c .nil,r):=by
 unfold J1;rw[Js];simp only[J0,AfH]
 cases hp:pl c with
 | false=>rfl
 | true=>
  simp only[AfR,AfH]
  cases hn:decide (0<c.fN) with
  | true=>
   simp only[AfL];unfold Pg;rw[AfJ]
   cases hq:Js (r.length+1) (decide (c.fKind=6)) none c.fN.toNat r with
   | none=>rfl
   | some q=>obtain⟨kids,zs⟩:=q;rfl
  | false=>rfl
theorem Gz {f:Fo}(h:f.one=true)(key:Option Ai)(r:Fo):(f.put key r).flat=BP key++(f.flat++r.flat):=by
 cases f with
 | nil=>cases h
 | cell k c r'=>
  cases k with
  | some s=>cases h
  | none=>cases r' with
   | nil=>simp[Fo.put,Fo.flat,BP]
   | cell _ _ _=>cases h
   | node _ _ _ _=>cases h
 | node k c kids r'=>
  cases k with
  | some s=>cases h
  | none=>cases r' with
   | nil=>simp[Fo.put,Fo.flat,BP]
   | cell _ _ _=>cases h
   | node _ _ _ _=>cases h
theorem Mx {f:Fo}(h:f.one=true):1≤f.flat.length:=by
 cases f with
 | nil=>cases h
 | cell k c r'=>simp[Fo.flat];omega
 | node k c kids r'=>simp[Fo.flat];omega
theorem Mt {xs ys:List Ab}{f:Fo}(h:J1 xs=some (f,ys)):xs=f.flat++ys∧f.wf false none=true∧f.one=true:=
 ⟨(II _ _ _ _ _ _ _ h).1,(II _ _ _ _ _ _ _ h).2.1,VT h⟩
def Ly (v:List Ab)(i:Int):Int:=match J1 (v.drop i.toNat) with
 | none=>-1
 | some (f,_)=>i+f.flat.length
def M4 (m:Bool)(last:Option Ai)(v:List Ab)(i:Int)(k:Nat):Int:=match Pg m last k (v.drop i.toNat) with
 | none=>-1
 | some (f,_)=>i+f.flat.length
theorem QZ {v:List Ab}{i:Int}(h0:0≤i)(h1:i≤v.length):Ly v i = -1∨(i<Ly v i∧Ly v i≤v.length):=by
 unfold Ly
 cases h:J1 (v.drop i.toNat) with
 | none=>exact .inl rfl
 | some q=>
  obtain⟨f,ys⟩:=q;obtain⟨h2,_,h3⟩:=Mt h;have:=Mx h3;have hl:(v.drop i.toNat).length=f.flat.length+ys.length:=by rw[h2];simp
  rw[Agy] at hl
  right;simp only;omega
structure RfA (F M:Nat) (v:List Ab):Prop where
 hM:M≤1152921504606846976
 hv:v.length≤M
 hF:M<F
 hc:∀c∈v,c.fStr.length≤M
theorem Xo (ok:Bool){i:Int}(h0:0≤i)(h1:i≤1152921504606846976):D1 ok i=some (bif ok then i+1 else -1):=by
 unfold D1
 cases ok
 ·rfl
 ·rw[AZ rfl,Ba (by omega) (by omega)];rfl
theorem VP {F:Nat}{c:Ab}(hF:c.fStr.length<F)(hs:c.fStr.length≤1152921504606846976):Zu F c=some (decide (c.fKind=4)&&pl c):=by
 unfold Zu;rw[Xm hF (by omega)];simp only[Option.isSome_some,ov,Agm,imp,Agl,Bd,AfL]
 cases h4:decide (c.fKind=4) with
 | false=>rfl
 | true=>
  simp only[AfF] at h4;simp[pl,h4]
theorem SB {v:List Ab}{i:Int}{c:Ab}{r:List Ab}(h0:0≤i)(h:v.drop i.toNat=c::r):Aq v i=c:=by
 have:=(G7 h0 h).1;simp[Aq,this]
section
variable {M : Nat} {v : List Ab}
theorem Lu {F:Nat}(hA:RfA F M v){g:List Ab→Int→Option Int}{n:Int}(hn:n≤9223372036854775807):∀(L:Nat) (i x:Int),0≤i→i≤v.length→0≤x→x≤n→(∀j,i≤j→j≤v.length→g v j=some (Ly v j))→v.length-i.toNat<L→
  ∃o,Ci (λσ=>E5 v n g σ.1 σ.2) L (i,x)=some o∧BO (λν=>Jz ν) o=some (M4 false none v i (n-x).toNat)
 | 0,i,x,_,_,_,_,_,h=>by omega
 | L+1,i,x,h0,h1,hx,hxn,hg,hL=>by
  cases hxl:decide (x<n) with
  | false=>
   refine⟨.go i,Gq (by show E5 v n g i x=_;unfold E5;rw[AN hxl]),?_⟩;simp only[AfE] at hxl;rw[show(n-x).toNat=0 from by omega];simp[BO,Jz,M4,Nc,Fo.flat]
  | true=>
   have hb:E5 v n g i x=Bw (decide (Ly v i<0)) (some (.out (.ret (-1)))) (Bd (Cb .i64 (x+1))<|some (.next (Ly v i,x+1))):=by unfold E5;rw[AZ hxl,hg i (Agp i) h1,Bs rfl]
   simp only[AfF] at hxl;obtain⟨k,hk⟩:∃k,(n-x).toNat=k+1:=⟨(n-x).toNat-1,by omega⟩
   rw[hk];have e:M4 false none v i (k+1)=bif decide (Ly v i<0) then -1 else M4 false none v (Ly v i) k:=by
    unfold M4;rw[HI];simp only[J0,AfH]
    cases hp:J1 (v.drop i.toNat) with
    | none=>simp[Ly,hp]
    | some q=>
     obtain⟨f,ys⟩:=q;obtain⟨q1,q2,q3⟩:=Mt hp;have hi:Ly v i=i+f.flat.length:=by simp[Ly,hp]
     have hd:v.drop (Ly v i).toNat=ys:=by rw[hi];exact Ed h0 q1
     rw[hd,AfG (by omega)];simp only[AfH]
     cases hr:Pg false none k ys with
     | none=>rfl
     | some q=>
      obtain⟨r,zs⟩:=q;simp only[Gz q3,BP,Agz,AfK,hi];omega
   rw[e];rcases QZ (v:=v) h0 h1 with hneg | ⟨hlt,hle⟩
   ·exact⟨.ret (-1),Gq (hb.trans (by rw[hneg,AZ (by decide)])),by rw[hneg];rfl⟩
   ·have hM:=hA.hM;have hvM:=hA.hv;obtain⟨o,ho1,ho2⟩:=Lu hA hn L (Ly v i) (x+1) (by omega) hle (by omega) (by omega) (λj hj=>hg j (by omega)) (by omega);exact⟨o,M6 (hb.trans (by rw[AN (AfG (by omega)),Ba (by omega) (by omega)])) ho1,by rw[ho2,show(n-(x+1)).toNat=k from by omega,AfG (by omega)];rfl⟩
theorem Pe {F:Nat}(hA:RfA F M v){g:List Ab→Int→Option Int}{n:Int}(hn:n≤9223372036854775807):∀(L:Nat) (i x:Int) (last:Ai),0≤i→i≤v.length→0≤x→x≤n→(∀j,i≤j→j≤v.length→g v j=some (Ly v j))→v.length-i.toNat<L→
  ∃o,Ci (λσ=>Gh F v n g σ.1 σ.2.1 σ.2.2) L (i,last,x)=some o∧BO (λν=>Na ν) o=some (M4 true (bif decide (0<x) then some last else none) v i (n-x).toNat)
 | 0,i,x,_,_,_,_,_,_,h=>by omega
 | L+1,i,x,last,h0,h1,hx,hxn,hg,hL=>by
  have hM:=hA.hM;have hvM:=hA.hv;have hMF:=hA.hF
  cases hxl:decide (x<n) with
  | false=>
   refine⟨.go i,Gq (by show Gh F v n g i last x=_;unfold Gh;rw[AN hxl]),?_⟩;simp only[AfE] at hxl;rw[show(n-x).toNat=0 from by omega];simp[BO,Na,M4,Nc,Fo.flat]
  | true=>
   have hxl':=hxl;simp only[AfF] at hxl;obtain⟨k,hk⟩:∃k,(n-x).toNat=k+1:=⟨(n-x).toNat-1,by omega⟩
   rw[hk]
   cases hd:v.drop i.toNat with
   | nil=>
    have hl:v.length≤i.toNat:=by simpa using hd
    refine⟨.ret (-1),Gq (by
     show Gh F v n g i last x=_;unfold Gh;rw[AZ hxl',Cq (by simp[imp,show(v.length:Int)≤i from by omega]),Cq (by simp[imp,show(v.length:Int)≤i from by omega]),AZ (by simp[show(v.length:Int)≤i from by omega])]),?_⟩
    simp[BO,M4,hd,HI,J0]
   | cons c r=>
    obtain⟨g1,g2,g3⟩:=G7 h0 hd;have hcM:=hA.hc c (AfU g1);have hat:=SB h0 hd;have hnl:decide ((v.length:Int)≤i)=false:=by simp;omega
    have hb:Gh F v n g i last x=Bw (!(decide (c.fKind=4)&&pl c)||decide (0<x)&&(Cz c.fStr last||decide (c.fStr=last))) (some (.out (.ret (-1)))) (Bq (g v (i+1)) λha=>Bw (decide (ha<0)) (some (.out (.ret (-1)))) (Bd (Cb .i64 (x+1))<|some (.next (ha,c.fStr,x+1)))):=by
     unfold Gh;rw[AZ hxl',Cq (by simp only[imp];rw[Qw h0 g3];simp),hat,VP (by omega) (by omega),Cq (by simp[imp])];simp only[hnl,ov,Agm,AfW];rw[Bm h0 g3,Ba (by omega) (by omega)]
    have hpk:J0 true (bif decide (0<x) then some last else none) (c::r)=bif (!(decide (c.fKind=4)&&pl c)||decide (0<x)&&(Cz c.fStr last||decide (c.fStr=last))) then none else some (some c.fStr,r):=by
     simp only[J0,AfL]
     cases h4:decide (c.fKind=4) with
     | false=>simp
     | true=>
      cases hp:pl c with
      | false=>simp
      | true=>
       have hok:=(Sc hp (by simpa using h4)).2
       cases h0x:decide (0<x) with
       | false=>simp[BG,hok]
       | true=>cases hs:(Cz c.fStr last||decide (c.fStr=last))<;>simp[BG,hok,hs]
    cases ht:(!(decide (c.fKind=4)&&pl c)||decide (0<x)&&(Cz c.fStr last||decide (c.fStr=last))) with
    | true=>
     rw[ht] at hpk;refine⟨.ret (-1),Gq (hb.trans (AZ ht)),?_⟩;simp only[M4,hd,HI,hpk,AfL];rfl
    | false=>
     rw[ht] at hpk;rw[AN ht,hg (i+1) (by omega) (by omega),Bs rfl] at hb;have e:M4 true (bif decide (0<x) then some last else none) v i (k+1)=bif decide (Ly v (i+1)<0) then -1 else M4 true (some c.fStr) v (Ly v (i+1)) k:=by
      unfold M4;rw[hd,HI,hpk];simp only[AfH];have hx:Ly v (i+1)=match J1 r with | none=>-1 | some (f,_)=>i+1+f.flat.length:=by unfold Ly;rw[g2]
      cases hp:J1 r with
      | none=>rw[hp] at hx;simp[hx]
      | some q=>
       obtain⟨f,ys⟩:=q;obtain⟨q1,q2,q3⟩:=Mt hp;rw[hp] at hx;simp only at hx;have hd2:v.drop (Ly v (i+1)).toNat=ys:=by rw[hx];exact Ed (by omega) (g2.trans q1)
       rw[hd2,AfG (by omega)];simp only[AfH]
       cases hr:Pg true (some c.fStr) k ys with
       | none=>rfl
       | some q=>
        obtain⟨r',zs⟩:=q;simp only[Gz q3,BP,AfK,AfJ,AgC,hx];omega
     rw[e];rcases QZ (v:=v) (i:=i+1) (by omega) (by omega) with hneg | ⟨hlt,hle⟩
     ·exact⟨.ret (-1),Gq (hb.trans (by rw[hneg,AZ (by decide)])),by rw[hneg];rfl⟩
     ·obtain⟨o,ho1,ho2⟩:=Pe hA hn L (Ly v (i+1)) (x+1) c.fStr (by omega) hle (by omega) (by omega) (λj hj=>hg j (by omega)) (by omega);exact⟨o,M6 (hb.trans (by rw[AN (AfG (by omega)),Ba (by omega) (by omega)])) ho1,by rw[ho2,show(n-(x+1)).toNat=k from by omega,AfI (show(0:Int)<x+1 from by omega),AfG (by omega)];rfl⟩
theorem T7 {i:Int}{c:Ab}{r:List Ab}(h0:0≤i)(hd:v.drop i.toNat=c::r)(hp:pl c=true):Ly v i=M4 (decide (c.fKind=6)) none v (i+1) c.fN.toNat:=by
 have g2:=(G7 h0 hd).2.1;have hN:=Zz hp;unfold Ly M4;rw[hd,Ja,g2,hp];simp only[AfR,AfH]
 cases hn:decide (0<c.fN) with
 | true=>
  simp only[AfL]
  cases hq:Pg (decide (c.fKind=6)) none c.fN.toNat r with
  | none=>rfl
  | some q=>
   obtain⟨kids,zs⟩:=q;simp only[Fo.flat,BP,Agz,AfJ,Ag4];omega
 | false=>
  simp only[AfE] at hn;rw[show c.fN.toNat=0 from by omega,Nc];simp[Fo.flat,BP]
theorem Zt (hA:RfA (M+1) M v)(hN:∀c∈v,c.fN≤9223372036854775807):∀(d F:Nat) (i:Int),0≤i→i≤v.length→v.length-i.toNat=d→M+2*d+3<F→QO F v i=some (Ly v i):=by
 have hM:=hA.hM;have hvM:=hA.hv;intro d
 induction d using Nat.strongRecOn with
 | ind d ih=>
  intro F i h0 h1 hd hF;obtain⟨F,rfl⟩:∃G,F=G+1:=⟨F-1,by omega⟩
  obtain⟨F,rfl⟩:∃G,F=G+1:=⟨F-1,by omega⟩
  rw[QO];unfold Zs
  cases hdr:v.drop i.toNat with
  | nil=>
   have hl:v.length≤i.toNat:=by simpa using hdr
   rw[AZ (by simp;omega)];simp[Ly,hdr,Zy]
  | cons c r=>
   obtain⟨g1,g2,g3⟩:=G7 h0 hdr;have hcM:=hA.hc c (AfU g1);have hcN:=hN c (AfU g1);rw[AN (by simp;omega),Bm h0 g3,SB h0 hdr];simp only[Xo _ h0 (show i≤1152921504606846976 by omega),Option.isSome_some,ov,Agm,imp,Agl,Cq (x:=_) (rfl:true=true)];have hg:∀j,i+1≤j→j≤v.length→QO F v j=some (Ly v j):=λj hj hj2=>ih (v.length-j.toNat) (by omega) F j (by omega) hj2 rfl (by omega);have hpl0:pl c=false→Ly v i = -1:=λhp=>by simp[Ly,hdr,Ja,hp]
   have hleaf:pl c=true→c.fN=0→Ly v i=i+1:=λhp h0'=>by simp[Ly,hdr,Ja,hp,h0',Fo.flat,BP]
   have hscal:∀b:Bool,pl c=b→(b=true→c.fN=0)→Ly v i=bif b then i+1 else -1:=λb hb hz=>by
    cases b
    ·exact hpl0 hb
    ·exact hleaf hb (hz rfl)
   by_cases k1:c.fKind=1
   ·rw[AZ (by simp[k1])];have hp:pl c=(decide (c.fInt=0)&&(decide (c.fStr=[])&&decide (c.fN=0))):=by simp[pl,k1]
    rw[hscal _ hp (λh=>by simp at h;exact h.2.2)]
    cases decide (c.fInt=0)<;>cases decide (c.fStr=[])<;>cases decide (c.fN=0)<;>rfl
   rw[AN (by simp[k1])]
   by_cases k2:c.fKind=2
   ·rw[AZ (by simp[k2])];have hp:pl c=((decide (c.fInt=0)||decide (c.fInt=1))&&(decide (c.fStr=[])&&decide (c.fN=0))):=by simp[pl,k2]
    rw[hscal _ hp (λh=>by simp at h;exact h.2.2)]
    cases decide (c.fInt=0)<;>cases decide (c.fInt=1)<;>cases decide (c.fStr=[])<;>cases decide (c.fN=0)<;>rfl
   rw[AN (by simp[k2])]
   by_cases k3:c.fKind=3
   ·rw[AZ (by simp[k3])];have hp:pl c=(decide (c.fStr=[])&&decide (c.fN=0)):=by simp[pl,k3]
    rw[hscal _ hp (λh=>by simp at h;exact h.2)]
    cases decide (c.fStr=[])<;>cases decide (c.fN=0)<;>rfl
   rw[AN (by simp[k3])]
   by_cases k4:c.fKind=4
   ·rw[AZ (by simp[k4]),VP (by omega) (by omega),Bs rfl,Bs rfl];rw[AfI k4,AfT,hscal (pl c) rfl (λhp=>by have:=(Sc hp k4).1;rw[this])]
   rw[AN (by simp[k4])]
   by_cases k5:c.fKind=5
   ·have hp:pl c=(decide (c.fInt=0)&&(decide (c.fStr=[])&&decide (0≤c.fN))):=by simp[pl,k5]
    rw[show(decide (c.fKind=5)&&(decide (c.fInt=0)&&(decide (c.fStr=[])&&decide (0≤c.fN))))=pl c from by rw[hp,AfI k5,AfT]];have k5' : ¬ c.fKind=6:=by omega
    cases hb:pl c with
    | false=>rw[AN rfl,AN (by simp[k5]),hpl0 hb]
    | true=>
     have hn0:=Zz hb;rw[AZ rfl,Ba (by omega) (by omega),QP];unfold Pf;obtain⟨o,ho1,ho2⟩:=Lu (F:=F) ⟨hM,hvM,by omega,hA.hc⟩ hcN F (i+1) 0 (by omega) (by omega) (Agp 0) hn0 hg (by omega);rw[Bs ho1,ho2,Bs rfl,T7 h0 hdr hb,AfG k5',Int.sub_zero]
   rw[AN (by simp[k5])]
   by_cases k6:c.fKind=6
   ·have hp:pl c=(decide (c.fInt=0)&&(decide (c.fStr=[])&&decide (0≤c.fN))):=by simp[pl,k6]
    rw[show(decide (c.fKind=6)&&(decide (c.fInt=0)&&(decide (c.fStr=[])&&decide (0≤c.fN))))=pl c from by rw[hp,AfI k6,AfT]]
    cases hb:pl c with
    | false=>rw[AN rfl,hpl0 hb]
    | true=>
     have hn0:=Zz hb;rw[AZ rfl,Ba (by omega) (by omega),Zr];unfold VO;obtain⟨o,ho1,ho2⟩:=Pe (F:=F) ⟨hM,hvM,by omega,hA.hc⟩ hcN F (i+1) 0 [] (by omega) (by omega) (Agp 0) hn0 hg (by omega);rw[Bs ho1,ho2,Bs rfl,T7 h0 hdr hb,AfI k6,Int.sub_zero];rfl
   ·rw[AN (by simp[k6]),hpl0 (by simp[pl,k1,k2,k3,k4,k5,k6])]
end
theorem VU {m:Bool}{last key:Option Ai}{r:List Ab}(h:BG m last key=true):J0 m last (BP key++r)=some (key,r):=by
 cases key with
 | none=>
  have:m=false:=by simpa[BG] using h
  subst this;rfl
 | some s=>
  have h':=h;simp only[BG,AfM] at h;obtain⟨⟨h1,h2⟩,h3⟩:=h;subst h1;have hp:pl ⟨4,0,s,0⟩=true:=by simp[pl,h2]
  show(bif pl ⟨4,0,s,0⟩&&decide ((4:Int)=4)&&BG true last (some s) then _ else _)=_;rw[hp,h'];rfl
theorem Ox:∀(f:Fo) (m:Bool) (last:Option Ai) (ys:List Ab),f.wf m last=true→Pg m last f.cnt (f.flat++ys)=some (f,ys)
 | .nil,_,_,_,_=>rfl
 | .cell k c r,m,last,ys,hw=>by
  simp only[Fo.wf,AfM,Agd] at hw;obtain⟨⟨⟨w1,w2⟩,w3⟩,w4⟩:=hw;simp only[Fo.cnt,Fo.flat,Agk,Ag2];rw[HI,VU w1];simp only[Ja,w2,w3,AfR,AfH,Ox r m k ys w4,Fo.put]
 | .node k c kids r,m,last,ys,hw=>by
  simp only[Fo.wf,AfM,AfF] at hw;obtain⟨⟨⟨⟨⟨w1,w2⟩,w3⟩,w5⟩,w6⟩,w4⟩:=hw;simp only[Fo.cnt,Fo.flat,Agk,Ag2];rw[HI,VU w1];have e:c.fN.toNat=kids.cnt:=by omega
  simp only[Ja,w2,AfI w3,AfR,AfH,AfL,e,Ox kids _ none (r.flat++ys) w6,Ox r m k ys w4,Fo.put]
theorem AbN {f:Fo}{ys:List Ab}(h1:f.one=true)(hw:f.wf false none=true):J1 (f.flat++ys)=some (f,ys):=by
 have:=Ox f false none ys hw;have hc:f.cnt=1:=by
  cases f with
  | nil=>cases h1
  | cell k c r=>cases k with
   | some _=>cases h1
   | none=>cases r with
    | nil=>rfl
    | _=>cases h1
  | node k c kids r=>cases k with
   | some _=>cases h1
   | none=>cases r with
    | nil=>rfl
    | _=>cases h1
 rw[hc] at this;exact this
structure KE (M:Nat) (v:List Ab):Prop where
 hM:M≤1000000000
 hv:v.length≤M
 hc:∀c∈v,c.fStr.length≤M∧Cb .i64 c.fInt=true∧c.fN≤9223372036854775807
theorem KE.lk {M F:Nat}{v:List Ab}(h:KE M v)(hF:M<F):WA F M v:=⟨by have:=h.hM;omega,by have:=h.hM;omega,h.hv,hF,h.hc⟩
theorem KE.rf {M F:Nat}{v:List Ab}(h:KE M v)(hF:M<F):RfA F M v:=⟨by have:=h.hM;omega,h.hv,hF,λc hc=>(h.hc c hc).1⟩
theorem KE.drop {M:Nat}{v:List Ab}(h:KE M v)(k:Nat):KE M (v.drop k):=⟨h.hM,by have:=h.hv;rw[Agy];omega,λc hc=>h.hc c (List.mem_of_mem_drop hc)⟩
theorem KE.take {M:Nat}{v:List Ab}(h:KE M v)(k:Nat):KE M (v.take k):=⟨h.hM,by have:=h.hv;rw[Ag6];omega,λc hc=>h.hc c (List.mem_of_mem_take hc)⟩
def whole (v:List Ab):Option Fo:=match J1 v with
 | some (f,[])=>some f
 | _=>none
theorem LC {v:List Ab}{f:Fo}(h:whole v=some f):v=f.flat∧f.wf false none=true∧f.one=true:=by
 unfold whole at h
 cases hp:J1 v with
 | none=>rw[hp] at h;cases h
 | some q=>
  obtain⟨g,ys⟩:=q;rw[hp] at h
  cases ys with
  | cons _ _=>cases h
  | nil=>
   cases h
   obtain⟨h1,h2,h3⟩:=Mt hp;exact⟨by simpa using h1,h2,h3⟩
theorem OK {f:Fo}(h1:f.one=true)(hw:f.wf false none=true):whole f.flat=some f:=by
 have:=AbN (ys:=[]) h1 hw;rw[Ag4] at this;simp[whole,this]
def If (f:Fo):Int:=
 bif f.flat.any C0 then 2 else bif f.flat.any Rh||(decide (200<f.flat.length)||(decide (8<f.dep)||decide (4000<(f.txt true).length))) then 3 else 0
def Jo (v:List Ab):Int:=match whole v with
 | none=>1
 | some f=>If f
theorem VX {f:Fo}(h1:f.one=true):f.cnt=1:=by
 cases f with
 | nil=>cases h1
 | cell k c r=>cases k with
  | some _=>cases h1
  | none=>cases r with
   | nil=>rfl
   | _=>cases h1
 | node k c kids r=>cases k with
  | some _=>cases h1
  | none=>cases r with
   | nil=>rfl
   | _=>cases h1
theorem RZ (s:Ai):Nb s≤2*s.length+2+s.length:=by
 have h1:s.count 34≤s.length:=List.count_le_length;have h2:s.count 92≤s.length:=List.count_le_length;unfold Nb;omega
theorem Ad4 {c:Ab}{M:Nat}(hp:pl c=true)(hs:c.fStr.length≤M)(hi:(Lib.itoa c.fInt).length≤21):Y6 c≤3*M+21:=by
 have:=RZ c.fStr;unfold Y6
 cases h1:decide (c.fKind=1) with
 | true=>simp only[AfL];omega
 | false=>
  cases h2:decide (c.fKind=2) with
  | true=>
   simp[pl,h1,h2] at hp;simp only[AfH,AfL];omega
  | false=>
   cases h3:decide (c.fKind=3) with
   | true=>simp only[AfH,AfL];omega
   | false=>cases h4:decide (c.fKind=4)<;>simp only[AfH,AfL]<;>omega
theorem S9 {M:Nat}:∀{f:Fo} {m:Bool} {l:Option Ai},f.wf m l=true→(∀c∈f.flat,c.fStr.length≤M∧Cb .i64 c.fInt=true∧c.fN≤9223372036854775807)→f.byt+f.cnt≤(3*M+24)*f.flat.length
 | .nil,_,_,_,_=>by simp[Fo.byt,Fo.flat,Fo.cnt]
 | .cell k c r,m,l,hw,hc=>by
  simp only[Fo.wf,AfM,Agd] at hw;obtain⟨⟨⟨w1,w2⟩,w3⟩,w4⟩:=hw;simp only[Fo.flat] at hc;have ih:=S9 w4 (λx hx=>hc x (by simp[hx]));obtain⟨c1,c2,c3⟩:=hc c (by simp);have i64:=Lf c2;have hl:=Ad4 w2 c1 (Lib.itoa_length_le c.fInt i64.1 i64.2);have hk:Sw k≤(3*M+24)*(BP k).length:=by
   cases k with
   | none=>simp[Sw,BP]
   | some s=>
    have:=(hc ⟨4,0,s,0⟩ (by simp[BP])).1;have h2:=RZ s;simp only at this;simp only[Sw,BP,Agq];omega
  simp only[Fo.byt,Fo.flat,Fo.cnt,AfK,AfJ];have e:((3*(M:Int)+24)*(((BP k).length+(r.flat.length+1):Nat):Int))=(3*(M:Int)+24)*(BP k).length+((3*(M:Int)+24)*r.flat.length+(3*(M:Int)+24)):=by
   push_cast;rw[Int.mul_add,Int.mul_add,Int.mul_one]
  rw[e]
  push_cast at *
  omega
 | .node k c kids r,m,l,hw,hc=>by
  simp only[Fo.wf,AfM,AfF] at hw;obtain⟨⟨⟨⟨⟨w1,w2⟩,w3⟩,w5⟩,w6⟩,w4⟩:=hw;simp only[Fo.flat] at hc;have ih:=S9 w4 (λx hx=>hc x (by simp[hx]));have ih2:=S9 w6 (λx hx=>hc x (by simp[hx]));have hcf:=Dx kids;have hk:Sw k≤(3*M+24)*(BP k).length:=by
   cases k with
   | none=>simp[Sw,BP]
   | some s=>
    have:=(hc ⟨4,0,s,0⟩ (by simp[BP])).1;have h2:=RZ s;simp only at this;simp only[Sw,BP,Agq];omega
  simp only[Fo.byt,Fo.flat,Fo.cnt,AfK,AfJ];have e:((3*(M:Int)+24)*(((BP k).length+(kids.flat.length+r.flat.length+1):Nat):Int))=(3*(M:Int)+24)*(BP k).length+((3*(M:Int)+24)*kids.flat.length+(3*(M:Int)+24)*r.flat.length+(3*(M:Int)+24)):=by
   push_cast;rw[Int.mul_add,Int.mul_add,Int.mul_add,Int.mul_one]
  rw[e]
  push_cast at *
  omega
theorem RC {M:Nat}(hM:M≤2000000){f:Fo}{m:Bool}{l:Option Ai}(hw:f.wf m l=true)(hl:f.flat.length≤M)(hc:∀c∈f.flat,c.fStr.length≤M∧Cb .i64 c.fInt=true∧c.fN≤9223372036854775807):f.byt≤16000000000000:=by
 have:=S9 (M:=M) hw hc;have h2:(3*M+24)*f.flat.length≤(3*2000000+24)*2000000:=Nat.mul_le_mul (by omega) (by omega);have h3:(((3*M+24)*f.flat.length:Nat):Int)=(3*(M:Int)+24)*f.flat.length:=by push_cast;rfl
 omega
theorem KP {M F:Nat}{v:List Ab}(hA:KE M v)(hM:M≤2000000)(hF:M<F):Jw F v=some (Jo v):=by
 unfold Jw Jo whole;have hvM:=hA.hv;rcases Acl (hA.lk hF) with⟨f,ys,hp,hl⟩ | ⟨hp,sh',hl⟩
 ·rw[hl,Bs rfl,hp];obtain⟨h1,h2,h3⟩:=Mt hp;have hlen:v.length=f.flat.length+ys.length:=by rw[h1];simp
  cases ys with
  | cons c r=>
   rw[AZ];simp only[AfJ] at hlen;simp;omega
  | nil=>
   simp only[AgC,Nat.add_zero] at hlen;rw[AN (by simp[hlen])];have hc:∀c∈f.flat,c.fStr.length≤M∧Cb .i64 c.fInt=true∧c.fN≤9223372036854775807:=λc hc=>hA.hc c (by rw[h1];simp[hc]);have hb:=RC hM h2 (by omega) hc;have hb0:=IC h2;have e1:(f.sh 0 Pb).fOutside=f.flat.any C0:=by rw[RR];rfl
   have e2:(f.sh 0 Pb).fLong=f.flat.any Rh:=by rw[Or];rfl
   have e3:(f.sh 0 Pb).fDepth=f.dep:=by rw[Ml f 0 Pb (by simp[Pb])];simp[Pb]
   have e4:(f.sh 0 Pb).fBytes=(f.txt true).length:=by
    rw[Mm f false none 0 Pb h2 (by simp[Pb]) (by simp[Pb];omega),KQ f false none true h2,VX h3];simp[Pb]
   simp only;rw[e1,e2,e3,e4,hlen];unfold If
   cases f.flat.any C0 with
   | true=>rw[AZ rfl];rfl
   | false=>
    rw[AN rfl];have a1:decide ((200:Int)<(f.flat.length:Int))=decide (200<f.flat.length):=by rw[AfY];simp;omega
    have a2:decide ((8:Int)<(f.dep:Int))=decide (8<f.dep):=by rw[AfY];simp;omega
    have a3:decide ((4000:Int)<((f.txt true).length:Int))=decide (4000<(f.txt true).length):=by rw[AfY];simp;omega
    rw[a1,a2,a3]
    cases(f.flat.any Rh||(decide (200<f.flat.length)||(decide (8<f.dep)||decide (4000<(f.txt true).length))))<;>rfl
 ·rw[hl,Bs rfl,hp];rfl
theorem V9 {c:Ab}(hp:pl c=true)(hn:decide (0<c.fN)=false):(Fo.cell none c .nil).wf false none=true:=by simp[Fo.wf,BG,hp,hn]
theorem V8 {c:Ab}{kids:Fo}(hp:pl c=true)(hn:0<c.fN)(hk:c.fN=kids.cnt)(hw:kids.wf (decide (c.fKind=6)) none=true):(Fo.node none c kids .nil).wf false none=true:=by simp[Fo.wf,BG,hp,hn,hk,hw];omega
section
variable {M : Nat} {v : List Ab}
theorem KE.next (hA:KE M v){F:Nat}(hF:3*M+3<F){p:Int}(h0:0≤p)(h1:p≤v.length):QO F v p=some (Ly v p):=by
 have hM:=hA.hM;have hvM:=hA.hv;exact Zt (hA.rf (AfV M)) (λc hc=>(hA.hc c hc).2.2) (v.length-p.toNat) F p h0 h1 rfl (by omega)
theorem Aco {m:Bool}{last key:Option Ai}(h:BG m last key=true):((BP key).length:Int)=bif m then 1 else 0:=by
  cases key with
  | none=>
            have:m=false:=by simpa[BG] using h
            subst this;rfl
  | some s=>simp only[BG,AfM] at h;rw[h.1.1];rfl
end
def Uc (c:UInt8):Ai:=bif (decide (c=34)||decide (c=92)) then[92,c] else[c]
theorem R1 {s:Ai}{k:Nat}{c:UInt8}(h:s[k]? =some c):Gw (s.take (k+1))=Gw (s.take k)++Uc c:=by
 rw[List.take_add_one,h];simp[Gw,List.flatMap_append,Uc]
theorem AeP {s:Ai}{x:Int}{c:UInt8}(h:s[x.toNat]? =some c):decide (B8 s x=34)=decide (c=34):=by
 rw[HD h,AfY,decide_eq_true_iff,decide_eq_true_iff,← AgE];show _↔c.toNat=34;omega
theorem AeO {s:Ai}{x:Int}{c:UInt8}(h:s[x.toNat]? =some c):decide (B8 s x=92)=decide (c=92):=by
 rw[HD h,AfY,decide_eq_true_iff,decide_eq_true_iff,← AgE];show _↔c.toNat=92;omega
theorem J4 {R V:Type}(K:V→Option R)(v:V):BO K (.go v)=K v:=rfl
theorem Z8 {R V:Type}(K:V→Option R)(r:R):BO K (.ret r)=some r:=rfl
section
variable {M : Nat} {v : List Ab}
theorem Afw (a b c d e:Ai):(((a++b)++c)++d)++e=a++(b++(c++d)++e):=by simp
theorem Afx (a b c d:Ai):((a++b)++c)++d=a++([]++(b++c)++d):=by simp
theorem Afy (a b c:Ai):(a++b)++c=a++(b++[]++c):=by simp
theorem Afz (a b:Ai):a++b=a++([]++[]++b):=by simp
end
section
variable {M : Nat} {v : List Ab}
theorem J3 {α:Type}[Inhabited α](a:α):ov (some a)=a:=rfl
end
theorem D4 {α:Type}{n:Nat}{x:Option α}(h:n≤140737488355328):Bd (Dz 1 n) x=x:=Cq (AfI (by omega))
theorem GD {α β:Type}(a:α)(k:α→Option β):Ma a k=k a:=rfl
theorem Il {α:Type}{n:Int}{x:Option α}(h:0≤n)(h':n≤255):Bd (Cb .u8 n) x=x:=Cq (Acu h h')
theorem Abj {s:Ai}{x:Int}{c:UInt8}(h:s[x.toNat]? =some c):UInt8.ofNat (Int.toNat (B8 s x))=c∧0≤B8 s x∧B8 s x≤255:=by
 have:=UInt8.toNat_lt c;rw[HD h];refine⟨?_,by omega,by omega⟩;rw[← AgE];simp
theorem Tb {s l:Ai}{x:Int}{c:UInt8}(h0:0≤x)(hx:x<(s.length:Int))(hs:s.length≤1152921504606846976)(hl:l.length+2≤140737488355328)(hc:s[x.toNat]? =some c):DF s x l=some (.next (x+1,l++Uc c)):=by
 obtain⟨b1,b2,b3⟩:=Abj hc;unfold DF Uc;rw[AZ (AfI hx),Bm h0 hx,AeP hc,AeO hc];have l1:(l++[UInt8.ofNat (Int.toNat 92)]).length=l.length+1:=by simp
 cases hq:(decide (c=34)||decide (c=92)) with
 | true=>
  rw[AZ rfl,D4 (by omega),Il (by decide) (by decide),GD,l1,D4 (by omega),Il b2 b3,GD,b1,Ba (by omega) (by omega),Agk];rfl
 | false=>
  rw[AN rfl,D4 (by omega),Il b2 b3,GD,b1,Ba (by omega) (by omega)];rfl
theorem YV {l:Ai}(h:l.length+1≤140737488355328):Gg l=some (l++[34]):=by
 unfold Gg;rw[D4 h,GD];rfl
theorem MV {F:Nat}{l s:Ai}(hF:s.length<F)(hl:(l++H6 s).length≤140737488355328):LE F l s=some (l++H6 s):=by
 have hq:(H6 s).length=(Gw s).length+2:=by simp[H6]
 rw[AfK,hq] at hl;have hesc:∀k,(Gw (s.take k)).length≤(Gw s).length:=λk=>by
  have:Gw s=Gw (s.take k)++Gw (s.drop k):=by rw[Gw,Gw,Gw,← List.flatMap_append,Ag7]
  rw[this,AfK];omega
 have hsl:s.length≤(Gw s).length:=by rw[PJ];omega
 obtain⟨o,h1,h2⟩:=O3 (body:=λσ=>DF s σ.1 σ.2) (λσ=>0≤σ.1∧σ.1≤(s.length:Int)∧σ.2=l++[34]++Gw (s.take σ.1.toNat)) (λσ=>s.length-σ.1.toNat)
  (λo=>BO (λν=>Gg ν) o=some (l++H6 s)) (λσ ⟨h0,hlx,ha⟩=>by
   obtain⟨x,out⟩:=σ;simp only at h0 hlx ha;show(∃s',DF s x out=_∧_)∨∃o,DF s x out=_∧_;have hol:out.length=l.length+1+(Gw (s.take x.toNat)).length:=by rw[ha];simp;omega
   have he:=hesc x.toNat
   by_cases hx:x<(s.length:Int)
   ·obtain⟨c,hc⟩:∃c,s[x.toNat]? =some c:=⟨s[x.toNat]'(by omega),AfN (by omega)⟩
    have he2:=hesc (x.toNat+1);rw[R1 hc,AfK] at he2;have hc1:1≤(Uc c).length:=by unfold Uc;cases(decide (c=34)||decide (c=92))<;>simp
    have a1:0≤x+1:=by omega
    have a2:x+1≤s.length:=by omega
    have a3:s.length-(x+1).toNat<s.length-x.toNat:=by omega
    have a4:out++Uc c=l++[34]++Gw (s.take (x+1).toNat):=by rw[show(x+1).toNat=x.toNat+1 from by omega,R1 hc,ha,Agk]
    exact .inl ⟨(x+1,out++Uc c),Tb h0 hx (by omega) (by omega) hc,⟨a1,a2,a4⟩,a3⟩
   ·have e:x.toNat=s.length:=by omega
    rw[e,List.take_length] at ha;have hf:out++[34]=l++H6 s:=by rw[ha];simp[H6]
    have hgo:DF s x out=some (.out (.go out)):=by unfold DF;rw[AN (AfG hx)]
    exact .inr ⟨.go out,hgo,(J4 (λν=>Gg ν) out).trans ((YV (by omega)).trans (congrArg some hf))⟩) F (0,l++[34]) ⟨Agp 0,by show(0:Int)≤s.length;omega,by show l++[34]=l++[34]++Gw (s.take 0);simp[Gw]⟩ (by show s.length-0<F;omega)
 unfold LE;rw[D4 (by omega),Il (by decide) (by decide),GD];have hb:[UInt8.ofNat (Int.toNat 34)]=([34]:Ai):=rfl;rw[hb,Bs h1,h2]
theorem OO {F:Nat}{l key:Ai}{x:List Ab}{first:Bool}{c:Ab}{k last:Option Ai}{tx:Ai}(hk:BG (decide (c.fKind=6)) last k=true)(hkey:∀s,k=some s→key=s∧s.length<F)
  (hlen:(l++(DZ first++Jt k++tx)).length≤140737488355328) (hw:∀l':Ai,(l'++tx).length≤140737488355328→GI F l' x=some (l'++tx)):EQ (F+1) key x first l c=some (true,false,l++(DZ first++Jt k++tx)):=by
 rw[EQ];unfold Me;have hb:[UInt8.ofNat (Int.toNat 44)]=([44]:Ai):=rfl;have ha:[UInt8.ofNat (Int.toNat 58)]=([58]:Ai):=rfl;have hlen':=hlen;simp only[AfK] at hlen'
 cases first with
 | true=>
  rw[AN (p:=!true) rfl]
  cases hm:decide (c.fKind=6) with
  | true=>
   rw[hm] at hk
   cases k with
   | none=>simp[BG] at hk
   | some s=>
    obtain⟨e1,e2⟩:=hkey s rfl;subst e1;simp only[Jt,AfK,Agq] at hlen';have h1:(l++H6 key).length≤140737488355328:=by rw[AfK];omega
    have e:((l++H6 key)++[58])++tx=l++(DZ true++Jt (some key)++tx):=Afx _ _ _ _;rw[← e] at hlen ⊢;rw[AZ rfl,MV e2 h1,Bs rfl,D4 (by rw[AfK];omega),Il (by decide) (by decide),GD,ha,hw _ hlen,Bs rfl]
  | false=>
   rw[hm] at hk
   cases k with
   | some s=>simp[BG] at hk
   | none=>
    have e:l++tx=l++(DZ true++Jt none++tx):=Afz _ _;rw[← e] at hlen ⊢;rw[AN rfl,hw _ hlen,Bs rfl]
 | false=>
  simp only[DZ,AfH,Agq] at hlen';rw[AZ (p:=!false) rfl,D4 (by omega),Il (by decide) (by decide),GD,hb]
  cases hm:decide (c.fKind=6) with
  | true=>
   rw[hm] at hk
   cases k with
   | none=>simp[BG] at hk
   | some s=>
    obtain⟨e1,e2⟩:=hkey s rfl;subst e1;simp only[Jt,AfK,Agq] at hlen';have h1:((l++[44])++H6 key).length≤140737488355328:=by simp only[AfK,Agq];omega
    have e:(((l++[44])++H6 key)++[58])++tx=l++(DZ false++Jt (some key)++tx):=Afw _ _ _ _ _;rw[← e] at hlen ⊢;rw[AZ rfl,MV e2 h1,Bs rfl,D4 (by simp only[AfK,Agq];omega),Il (by decide) (by decide),GD,ha,hw _ hlen,Bs rfl]
  | false=>
   rw[hm] at hk
   cases k with
   | some s=>simp[BG] at hk
   | none=>
    have e:(l++[44])++tx=l++(DZ false++Jt none++tx):=Afy _ _ _;rw[← e] at hlen ⊢;rw[AN rfl,hw _ hlen,Bs rfl]
section
variable {M : Nat}
theorem OU {F:Nat}{v:List Ab}{c:Ab}{at_ x:Int}{first:Bool}{l l2:Ai}{k last:Option Ai}{f1:Fo}{ys:List Ab}(hA:KE M v)(hF:M<F)(hpc:Aq v 0=c)(hx:x<c.fN)(hx0:0≤x)(hcN:c.fN≤9223372036854775807)(h0:0≤at_)(hk:BG (decide (c.fKind=6)) last k=true)
  (hd:v.drop at_.toNat=BP k++(f1.flat++ys)) (h1:f1.one=true) (hw:f1.wf false none=true) (hr:∀key,(∀s,k=some s→key=s)→EQ F key f1.flat first l c=some (true,false,l2)) :
  DO F v c (EQ F) at_ x first l=some (.next (at_+(BP k).length+f1.flat.length,x+1,false,l2)):=by
 have hM:=hA.hM;have hvM:=hA.hv;have hd1:=Ed h0 hd;have hkl:=Aco hk;have hfl:=Mx h1;have hll:(v.drop (at_+(BP k).length).toNat).length=f1.flat.length+ys.length:=by rw[hd1];simp
 rw[Agy] at hll;have hlook:JM F (v.drop (at_+(BP k).length).toNat)=some ((f1.flat.length:Int),f1.sh 0 Pb,true):=TH ((hA.drop _).lk hF) h1 hw hd1;have htake:List.take (Int.toNat (at_+(BP k).length+(f1.flat.length:Int))-Int.toNat (at_+(BP k).length)) (v.drop (at_+(BP k).length).toNat)=f1.flat:=by
  rw[hd1,show Int.toNat (at_+(BP k).length+(f1.flat.length:Int))-Int.toNat (at_+(BP k).length)=f1.flat.length from by omega,List.take_left]
 have hmono:0≤at_+(BP k).length+f1.flat.length:=by omega
 unfold DO;rw[hpc,AZ (AfI hx)]
 cases hm:decide (c.fKind=6) with
 | true=>
  rw[hm] at hk hkl
  cases k with
  | none=>simp[BG] at hk
  | some s=>
   have e1:((BP (some s)).length:Int)=1:=rfl;rw[e1] at hlook htake hll hmono ⊢;have hats:(Aq v at_).fStr=s:=by
    have:v.drop at_.toNat=⟨4,0,s,0⟩::(f1.flat++ys):=by simpa[BP] using hd
    rw[SB h0 this]
   have hin:at_<v.length:=by omega
   rw[AZ rfl,Bm h0 hin,Ba (by omega) (by omega),C7 (by omega) (by omega),hlook,Bs rfl,Ba (by omega) (by omega),C7 (by omega) (by omega),C7 (by omega) (by omega),htake,hats,hr s (λs' h=>by cases h;rfl),Bs rfl];rw[AN (p:=!true) rfl,Ba (by omega) (by omega)]
 | false=>
  rw[hm] at hk hkl
  cases k with
  | some s=>simp[BG] at hk
  | none=>
   have e1:((BP none).length:Int)=0:=rfl;rw[e1,Int.add_zero] at hlook htake hll hmono ⊢;rw[AN rfl,C7 (by omega) (by omega),hlook,Bs rfl,Ba (by omega) (by omega),C7 (by omega) (by omega),C7 (by omega) (by omega),htake,hr [] (λs' h=>by cases h),Bs rfl];rw[AN (p:=!true) rfl,Ba (by omega) (by omega)]
end
section
variable {M : Nat}
theorem Jr (l:Ai)(c:UInt8):(l++[c]).length=l.length+1:=by rw[AfK,Agq]
theorem LD {F:Nat}{l p:Ai}{v:List Ab}{c:Ab}{rf:Ai→(List Ab)→Bool→Ai→Ab→Option (Bool×Bool×Ai)}{rp:(List Ab)→Bool→Ai→Ab→Option (Bool×Ai)}(hc:Aq v 0=c)(hv:0<v.length)(hk:c.fKind=5∨c.fKind=6)(hlen:(l++Uq c p).length≤140737488355328)
  (hp:∀l':Ai,l'.length=l.length+1→∃b,rp v true l' c=some (b,l'++p)):KN F rf rp l v=some (l++Uq c p):=by
 have hbl:=MO c p;rw[AfK,hbl] at hlen;have i0:(0:Int)<(v.length:Int):=by omega
 unfold KN;rw[Bm (Agp 0) i0,hc,AN (AfG (by omega)),AN (AfG (by omega)),AN (AfG (by omega)),AN (AfG (by omega))];have b1:[UInt8.ofNat (Int.toNat (B8 ([123,125]:Ai) 0))]=([123]:Ai):=rfl;have b2:[UInt8.ofNat (Int.toNat (B8 ([123,125]:Ai) 1))]=([125]:Ai):=rfl;have b3:[UInt8.ofNat (Int.toNat (B8 ([91,93]:Ai) 0))]=([91]:Ai):=rfl;have b4:[UInt8.ofNat (Int.toNat (B8 ([91,93]:Ai) 1))]=([93]:Ai):=rfl;have c1:B8 ([123,125]:Ai) 0=123:=rfl;have c2:B8 ([123,125]:Ai) 1=125:=rfl;have c3:B8 ([91,93]:Ai) 0=91:=rfl;have c4:B8 ([91,93]:Ai) 1=93:=rfl;have n2:(([123,125]:Ai).length:Int)=2:=rfl;have n3:(([91,93]:Ai).length:Int)=2:=rfl
 cases h6:decide (c.fKind=6) with
 | true=>
  obtain⟨b,hb⟩:=hp _ (Jr l 123);rw[AZ rfl,n2,Bm (by decide) (by decide),D4 (by omega),b1,b2,c1,c2,Il (by decide) (by decide),GD,hb,Bs rfl,Bm (by decide) (by decide)];have e:((l++[123])++p).length=l.length+1+p.length:=by rw[AfK,Jr]
  rw[e,D4 (by omega),Il (by decide) (by decide),GD];simp[Uq,h6]
 | false=>
  obtain⟨b,hb⟩:=hp _ (Jr l 91);rw[AN rfl,n3,Bm (by decide) (by decide),D4 (by omega),b3,b4,c3,c4,Il (by decide) (by decide),GD,hb,Bs rfl,Bm (by decide) (by decide)];have e:((l++[91])++p).length=l.length+1+p.length:=by rw[AfK,Jr]
  rw[e,D4 (by omega),Il (by decide) (by decide),GD];simp[Uq,h6]
theorem NB {F:Nat}{v:List Ab}{c:Ab}{at_ x:Int}{first:Bool}{l:Ai}{rf:Ai→(List Ab)→Bool→Ai→Ab→Option (Bool×Bool×Ai)}(hc:Aq v 0=c)(hx : ¬ x<c.fN):DO F v c rf at_ x first l=some (.out (.go (first,l))):=by
 unfold DO;rw[hc,AN (AfG hx)]
theorem NA {F:Nat}{l:Ai}{c:Ab}(hp:pl c=true)(hn:decide (0<c.fN)=false)(hs:c.fStr.length<F+2)(hi:Cb .i64 c.fInt=true)(hlen:(l++E9 c).length≤140737488355328):GI (F+3) l [c]=some (l++E9 c):=by
 rw[GI];have hat:Aq [c] 0=c:=rfl;have i0:(0:Int)<(([c]:List Ab).length:Int):=by simp
 have hN : ¬ (0:Int)<c.fN:=by simpa using hn
 by_cases ha:c.fKind=5∨c.fKind=6
 ·have el:E9 c=Uq c []:=by
   have k1:decide (c.fKind=1)=false:=AfG (by omega);have k2:decide (c.fKind=2)=false:=AfG (by omega);have k3:decide (c.fKind=3)=false:=AfG (by omega);have k4:decide (c.fKind=4)=false:=AfG (by omega);unfold E9 Uq;rw[k1,k2,k3,k4];rfl
  rw[el] at hlen ⊢;refine LD hat (by simp) ha hlen (λl' hl'=>⟨true,?_⟩);rw[H3];unfold IO;rw[Bm (Agp 0) i0,Bs (Gq (o:=.go (true,l')) (NB hat hN)),J4,Ag4];rfl
 ·unfold KN E9;unfold E9 at hlen;rw[Bm (Agp 0) i0,hat]
  cases k1:decide (c.fKind=1) with
  | true=>
   rw[k1] at hlen;simp only[AfL] at hlen;rw[AZ rfl,D4 (by rw[AfK] at hlen;exact hlen),GD];rfl
  | false=>
  rw[k1] at hlen;simp only[AfH] at hlen;rw[AN rfl]
  cases k2:decide (c.fKind=2) with
  | true=>
   rw[k2] at hlen;simp only[AfL] at hlen;rw[AZ rfl];simp[pl,k1,k2] at hp;simp only[AfK] at hlen;rcases hp.1 with h0 | h1
   ·rw[h0] at hlen ⊢;have a:Aq ([([102,97,108,115,101]:Ai),([116,114,117,101]:Ai)]:List Ai) 0=[102,97,108,115,101]:=rfl;have hlen2:l.length+([102,97,108,115,101]:Ai).length≤140737488355328:=hlen;rw[Bm (by decide) (by decide),a,D4 hlen2,GD];rfl
   ·rw[h1] at hlen ⊢;have a:Aq ([([102,97,108,115,101]:Ai),([116,114,117,101]:Ai)]:List Ai) 1=[116,114,117,101]:=rfl;have hlen2:l.length+([116,114,117,101]:Ai).length≤140737488355328:=hlen;rw[Bm (by decide) (by decide),a,D4 hlen2,GD];rfl
  | false=>
  rw[k2] at hlen;simp only[AfH] at hlen;rw[AN rfl]
  cases k3:decide (c.fKind=3) with
  | true=>
   rw[k3] at hlen;simp only[AfL,AfK] at hlen;rw[AZ rfl,Cq hi,D4 hlen,GD];rfl
  | false=>
  rw[k3] at hlen;simp only[AfH] at hlen;rw[AN rfl]
  cases k4:decide (c.fKind=4) with
  | true=>
   rw[k4] at hlen;simp only[AfL] at hlen;rw[AZ rfl,MV hs hlen,Bs rfl];rfl
  | false=>
   exfalso;simp only[AfE] at k1 k2 k3 k4;simp[pl,k1,k2,k3,k4,show ¬ c.fKind=5 by omega,show ¬ c.fKind=6 by omega] at hp
theorem KE.mem {v:List Ab}(hA:KE M v){p:Int}{a b:List Ab}(h:v.drop p.toNat=a++b):KE M a:=by
 have:=(hA.drop p.toNat).take a.length
 rwa [h,List.take_left] at this
theorem Qg:∀(g:Fo) (v:List Ab) (c:Ab) (F L:Nat) (at_ x:Int) (first:Bool) (l:Ai) (m:Bool) (last:Option Ai) (ys:List Ab),KE M v→Aq v 0=c→decide (c.fKind=6)=m→c.fN≤9223372036854775807→g.wf m last=true→v.drop at_.toNat=g.flat++ys→0≤at_→c.fN=x+g.cnt→0≤x→(l++g.txt first).length≤140737488355328→g.cnt<L→M+5+3*g.flat.length<F→
  ∃o b,Ci (λσ=>DO F v c (EQ F) σ.1 σ.2.1 σ.2.2.1 σ.2.2.2) L (at_,x,first,l)=some o∧BO (λν=>HS ν.1 ν.2) o=some (b,l++g.txt first):=by
 intro g
 induction g with
 | nil=>
  intro v c F L at_ x first l m last ys hA hpc hm hcN hw hd h0 hN hx hlen hL hF
  obtain⟨L,rfl⟩:∃K,L=K+1:=⟨L-1,by omega⟩
  simp only[Fo.cnt] at hN;have hx' : ¬ x<c.fN:=by omega
  refine⟨.go (first,l),first,Gq (NB hpc hx'),?_⟩;rw[J4,Fo.txt,Ag4];rfl
 | cell k cc r ih=>
  intro v c F L at_ x first l m last ys hA hpc hm hcN hw hd h0 hN hx hlen hL hF
  simp only[Fo.wf,AfM,Agd] at hw;obtain⟨⟨⟨w1,w2⟩,w3⟩,w4⟩:=hw;have hd2:v.drop at_.toNat=BP k++((Fo.cell none cc .nil).flat++(r.flat++ys)):=by rw[hd];simp[Fo.flat,BP]
  have hd1:=Ed h0 hd2;simp only[Fo.cnt] at hN hL;simp only[Fo.flat,AfK,AfJ] at hF;obtain⟨L,rfl⟩:∃K,L=K+1:=⟨L-1,by omega⟩
  obtain⟨F,rfl⟩:∃K,F=K+4:=⟨F-4,by omega⟩
  have hAe:=hA.mem hd1;have hcM:=hAe.hc cc (by simp[Fo.flat,BP]);have e:l++(Fo.cell k cc r).txt first=(l++(DZ first++Jt k++E9 cc))++r.txt false:=by simp[Fo.txt]
  rw[e] at hlen ⊢;have hl2:(l++(DZ first++Jt k++E9 cc)).length≤140737488355328:=by rw[AfK] at hlen;omega
  have hb:=OU (F:=F+4) (last:=last) hA (by omega) hpc (by omega) hx hcN h0 (by rw[hm];exact w1) hd2 rfl (V9 w2 w3) (first:=first) (l:=l) (λkey hkey=>
   OO (last:=last) (by rw[hm];exact w1) (λs hs=>⟨hkey s hs,by
    have hM:=hA.hM;subst hs;have:=(hA.hc ⟨4,0,s,0⟩ (List.mem_of_mem_drop (by rw[hd2];simp[BP]))).1;simp only at this;omega⟩) hl2 (λl' hl'=>NA (F:=F) w2 w3 (by omega) hcM.2.1 hl'))
  obtain⟨o,b,ho1,ho2⟩:=ih v c (F+4) L (at_+(BP k).length+((Fo.cell none cc .nil).flat.length:Int)) (x+1) false (l++(DZ first++Jt k++E9 cc)) m k ys hA hpc hm hcN w4 (Ed (by omega) hd1) (by omega) (by omega) (by omega) hlen (by omega) (by omega);exact⟨o,b,M6 hb ho1,ho2⟩
 | node k cc kids r ihk ih=>
  intro v c F L at_ x first l m last ys hA hpc hm hcN hw hd h0 hN hx hlen hL hF
  simp only[Fo.wf,AfM,AfF] at hw;obtain⟨⟨⟨⟨⟨w1,w2⟩,w3⟩,w5⟩,w6⟩,w4⟩:=hw;have hd2:v.drop at_.toNat=BP k++((Fo.node none cc kids .nil).flat++(r.flat++ys)):=by rw[hd];simp[Fo.flat,BP]
  have hd1:=Ed h0 hd2;simp only[Fo.cnt] at hN hL;simp only[Fo.flat,AfK,AfJ] at hF;obtain⟨L,rfl⟩:∃K,L=K+1:=⟨L-1,by omega⟩
  obtain⟨F,rfl⟩:∃K,F=K+3:=⟨F-3,by omega⟩
  have hAe:=hA.mem hd1;have hfl:(Fo.node none cc kids .nil).flat=cc::kids.flat:=by simp[Fo.flat,BP]
  have hcM:=hAe.hc cc (by rw[hfl];simp);have hcf:=Dx kids;have e:l++(Fo.node k cc kids r).txt first=(l++(DZ first++Jt k++Uq cc (kids.txt true)))++r.txt false:=by simp[Fo.txt]
  rw[e] at hlen ⊢;have hl2:(l++(DZ first++Jt k++Uq cc (kids.txt true))).length≤140737488355328:=by rw[AfK] at hlen;omega
  have hb:=OU (F:=F+3) (last:=last) hA (by omega) hpc (by omega) hx hcN h0 (by rw[hm];exact w1) hd2 rfl (V8 w2 w3 w5 w6) (first:=first) (l:=l) (λkey hkey=>
   OO (last:=last) (by rw[hm];exact w1) (λs hs=>⟨hkey s hs,by
    have hM:=hA.hM;subst hs;have:=(hA.hc ⟨4,0,s,0⟩ (List.mem_of_mem_drop (by rw[hd2];simp[BP]))).1;simp only at this;omega⟩) hl2 (λl' hl'=>by
     rw[GI];have hat:Aq (Fo.node none cc kids .nil).flat 0=cc:=by rw[hfl];rfl
     have hlen0:0<(Fo.node none cc kids .nil).flat.length:=by rw[hfl];simp
     have hbl:=MO cc (kids.txt true);rw[AfK,hbl] at hl';have hb:∀l2:Ai,l2.length=l'.length+1→∃b,H3 (F+1) (Fo.node none cc kids .nil).flat true l2 cc=some (b,l2++kids.txt true):=λl2 hl2'=>by
       rw[H3];unfold IO;have i0:(0:Int)<((Fo.node none cc kids .nil).flat.length:Int):=by omega
       obtain⟨o,b,ho1,ho2⟩:=ihk (Fo.node none cc kids .nil).flat cc F F 1 0 true l2 _ none [] hAe hat rfl hcM.2.2 w6 (by rw[hfl];simp) (by decide) (by omega) (Agp 0) (by rw[AfK];omega) (by omega) (by omega);exact⟨b,by rw[Bm (Agp 0) i0,Bs ho1,ho2]⟩
     exact LD hat hlen0 (Oz w2 w3).1 (by rw[AfK,hbl];exact hl') hb))
  obtain⟨o,b,ho1,ho2⟩:=ih v c (F+3) L (at_+(BP k).length+((Fo.node none cc kids .nil).flat.length:Int)) (x+1) false (l++(DZ first++Jt k++Uq cc (kids.txt true))) m k ys hA hpc hm hcN w4 (Ed (by omega) hd1) (by omega) (by omega) (by omega) hlen (by omega) (by omega);exact⟨o,b,M6 hb ho1,ho2⟩
theorem WT {f:Fo}{F:Nat}{l:Ai}(hA:KE M f.flat)(h1:f.one=true)(hw:f.wf false none=true)(hF:M+8+3*f.flat.length<F)(hlen:(l++f.txt true).length≤140737488355328):GI F l f.flat=some (l++f.txt true):=by
 have hM:=hA.hM;have hvM:=hA.hv
 cases f with
 | nil=>cases h1
 | cell k c r=>
  cases k with
  | some s=>cases h1
  | none=>
   cases r with
   | nil=>
    simp only[Fo.wf,AfM,Agd] at hw;have hfl:(Fo.cell none c .nil).flat=[c]:=by simp[Fo.flat,BP]
    have hcM:=hA.hc c (by rw[hfl];simp);have et:(Fo.cell none c .nil).txt true=E9 c:=by simp[Fo.txt,DZ,Jt]
    rw[et] at hlen ⊢;obtain⟨F,rfl⟩:∃K,F=K+3:=⟨F-3,by omega⟩
    rw[hfl];exact NA hw.1.1.2 hw.1.2 (by omega) hcM.2.1 hlen
   | cell _ _ _=>cases h1
   | node _ _ _ _=>cases h1
 | node k c kids r=>
  cases k with
  | some s=>cases h1
  | none=>
   cases r with
   | nil=>
    simp only[Fo.wf,AfM,AfF] at hw;obtain⟨⟨⟨⟨⟨w1,w2⟩,w3⟩,w5⟩,w6⟩,w4⟩:=hw;have hfl:(Fo.node none c kids .nil).flat=c::kids.flat:=by simp[Fo.flat,BP]
    have hcM:=hA.hc c (by rw[hfl];simp);have et:(Fo.node none c kids .nil).txt true=Uq c (kids.txt true):=by simp[Fo.txt,DZ,Jt]
    rw[et] at hlen ⊢;have hcf:=Dx kids;have hat:Aq (Fo.node none c kids .nil).flat 0=c:=by rw[hfl];rfl
    have hlen0:0<(Fo.node none c kids .nil).flat.length:=by rw[hfl];simp
    have hl1:(Fo.node none c kids .nil).flat.length=kids.flat.length+1:=by rw[hfl];simp
    have hbl:=MO c (kids.txt true);obtain⟨F,rfl⟩:∃K,F=K+2:=⟨F-2,by omega⟩
    rw[GI];refine LD hat hlen0 (Oz w2 w3).1 hlen (λl2 hl2=>?_);rw[AfK,hbl] at hlen;rw[H3];unfold IO;have i0:(0:Int)<((Fo.node none c kids .nil).flat.length:Int):=by omega
    obtain⟨o,b,ho1,ho2⟩:=Qg kids (Fo.node none c kids .nil).flat c F F 1 0 true l2 _ none [] hA hat rfl hcM.2.2 w6 (by rw[hfl];simp) (by decide) (by omega) (Agp 0) (by rw[AfK];omega) (by omega) (by omega);exact⟨b,by rw[Bm (Agp 0) i0,Bs ho1,ho2]⟩
   | cell _ _ _=>cases h1
   | node _ _ _ _=>cases h1
def Hj (v:List Ab):Ai×Int:=match whole v with
 | none=>([],1)
 | some f=>bif decide (If f=0) then(f.txt true,0) else([],If f)
theorem Acq (n:Int):Lib.itoa n≠[]:=by
 unfold Lib.itoa
 split
 ·simp
 ·intro h;have:=congrArg List.length h;rw[Lib.decDigits_length] at this;have:=Lib.nDigits_pos n.toNat;simp at *;omega
theorem AbC {f:Fo}(hw:f.wf false none=true)(h1:f.one=true):0<(f.txt true).length:=by
 have e:=KQ f false none true hw
 cases f with
 | nil=>cases h1
 | cell k c r=>
  have h2:=IC hw;simp only[Fo.txt,AfK];simp only[Fo.wf,AfM] at hw;have hp:=hw.1.1.2;have:0<(E9 c).length:=by
   have hl:=Rl hp;have:0<Y6 c:=by
    unfold Y6
    cases h1:decide (c.fKind=1) with
    | true=>simp
    | false=>
     cases h2:decide (c.fKind=2) with
     | true=>
      simp[pl,h1,h2] at hp;simp only[AfH,AfL];omega
     | false=>
      cases h3:decide (c.fKind=3) with
      | true=>
       simp only[AfH,AfL];have:Lib.itoa c.fInt≠[]:=Acq _;have:=List.length_pos_iff.2 this;omega
      | false=>
       cases h4:decide (c.fKind=4) with
       | true=>have:=Mr c.fStr;simp only[AfH,AfL];omega
       | false=>simp
   omega
  omega
 | node k c kids r=>
  have:=MO c (kids.txt true);simp only[Fo.txt,AfK];omega
theorem UA {v:List Ab}(hA:KE M v)(hM:M≤2000000){F:Nat}(hF:4*M+8<F):Mi F v=some (Hj v):=by
 have hvM:=hA.hv;unfold Mi Hj;rw[KP hA hM (by omega),Bs rfl];unfold Jo
 cases hwh:whole v with
 | none=>rfl
 | some f=>
  change Bw (!decide (If f=0)) _ _=some (bif decide (If f=0) then(f.txt true,0) else([],If f))
  cases he:decide (If f=0) with
  | false=>rw[AZ (p:=!false) rfl];rfl
  | true=>
   obtain⟨h1,h2,h3⟩:=LC hwh;have hl:v.length=f.flat.length:=by rw[h1]
   have hc:∀c∈f.flat,c.fStr.length≤M∧Cb .i64 c.fInt=true∧c.fN≤9223372036854775807:=λc hc=>hA.hc c (by rw[h1];exact hc);have hb:=RC hM h2 (by omega) hc;have htl:((f.txt true).length:Int)=f.byt:=by rw[KQ f false none true h2,VX h3];simp
   have hA':KE M f.flat:=by rw[← h1];exact hA
   have hw:=WT (F:=F) (l:=[]) hA' h3 h2 (by omega) (by rw[Agz];omega);rw[AN (p:=!true) rfl,h1,hw,Bs rfl,Agz,Cq (AfI (AbC h2 h3))];rfl
end
def Zh (v:List Ab):Bool:=!decide (300<v.length)&&v.all λc=>!decide (300<c.fStr.length)
def ZF (c:Ab):Bool:=Cb .i64 c.fKind&&Cb .i64 c.fInt&&okS c.fStr&&Cb .i64 c.fN
theorem KE.of {v:List Ab}(hs:Zh v=true)(hc:v.all ZF=true):KE 300 v:=by
 unfold Zh at hs;simp only[AfM,Agd,AfE,Ags] at hs hc;refine⟨by decide,by omega,λc h=>?_⟩;obtain h1:=hs.2 c h;obtain h2:=hc c h;unfold ZF at h2;simp only[AfM] at h2;exact⟨by omega,h2.1.1.2,(Lf h2.2).2⟩
theorem AdC (a:Bool):imp a true=true:=by cases a<;>rfl
section
variable {M : Nat}
end
def pre:Ai→Ai→Option Ai
 | [],s=>some s
 | c::w,d::s=>bif decide (c=d) then pre w s else none
 | _::_,[]=>none
def Dt (strict:Bool):Ai→Option (Ai×Ai)
 | []=>none
 | c::r=>
  bif decide (c=34) then some ([],r) else
  bif strict&&!Lp c then none else
  bif decide (c=92) then(match r with
   | []=>none
   | d::r'=>bif decide (d=34)||decide (d=92) then(match Dt strict r' with
    | none=>none
    | some (t,u)=>some (d::t,u)) else none)
  else(match Dt strict r with
   | none=>none
   | some (t,u)=>some (c::t,u))
def Cs (c:UInt8):Bool:=decide (48≤c.toNat)&&decide (c.toNat≤57)
def Db:Ai→Ai×Ai
 | []=>([],[])
 | c::r=>bif Cs c then(c::(Db r).1,(Db r).2) else([],c::r)
def Qs (d:Ai):Int:=d.foldl (λn c=>10*n+((c.toNat:Int)-48)) 0
def Lq (neg:Bool)(d:Ai):Int:=
 bif decide (18<d.length) then(bif neg then -2000000000000 else 2000000000000) else bif neg then -(Qs d) else Qs d
def Gv (neg:Bool)(d:Ai):Bool:=!decide (d=[])&&!(decide (d.head? =some 48)&&(decide (1<d.length)||neg))
def Ji (s:Ai):Option (Fo×Ai):=
 let neg:=decide (s.head? =some 45)
 let r:=bif neg then s.tail else s
 bif Gv neg (Db r).1 then some (.cell none ⟨3,Lq neg (Db r).1,[],0⟩ .nil,(Db r).2) else none
def lf (k i:Int)(t:Ai):Fo:=.cell none ⟨k,i,t,0⟩ .nil
def nd (m:Bool)(g:Fo):Fo:=bif decide (g.cnt=0) then .cell none ⟨bif m then 6 else 5,0,[],0⟩ .nil else .node none ⟨bif m then 6 else 5,0,[],(g.cnt:Int)⟩ g .nil
def Cl (m:Bool):UInt8:=bif m then 125 else 93
def Gb (strict m:Bool)(last:Option Ai)(s:Ai):Option (Option Ai×Ai):=
 bif m then(match s with
  | []=>none
  | c::r=>bif decide (c=34) then(match Dt strict r with
   | none=>none
   | some (k,u)=>bif strict&&!BG true last (some k) then none else(match u with
    | []=>none
    | d::u'=>bif decide (d=58) then some (some k,u') else none)) else none)
 else some (none,s)
mutual
def GK (strict:Bool):Nat→Ai→Option (Fo×Ai)
 | 0,_=>none
 | F+1,s=>
  match pre [110,117,108,108] s with
  | some r=>some (lf 1 0 [],r)
  | none=>match pre [116,114,117,101] s with
   | some r=>some (lf 2 1 [],r)
   | none=>match pre [102,97,108,115,101] s with
    | some r=>some (lf 2 0 [],r)
    | none=>match s with
     | []=>none
     | c::r=>
      bif decide (c=34) then(match Dt strict r with
       | none=>none
       | some (t,u)=>some (lf 4 0 t,u)) else
      bif decide (c=91)||decide (c=123) then(match r with
       | []=>none
       | d::r'=>bif decide (d=Cl (decide (c=123))) then some (nd (decide (c=123)) .nil,r') else(match Eb strict F (decide (c=123)) none (d::r') with
        | none=>none
        | some (g,u)=>some (nd (decide (c=123)) g,u))) else
      Ji (c::r)
def Eb (strict:Bool):Nat→Bool→Option Ai→Ai→Option (Fo×Ai)
 | 0,_,_,_=>none
 | F+1,m,last,s=>
  match Gb strict m last s with
  | none=>none
  | some (key,s1)=>match GK strict F s1 with
   | none=>none
   | some (f,s2)=>match s2 with
    | []=>none
    | c::s3=>
     bif decide (c=Cl m) then some (f.put key .nil,s3) else
     bif decide (c=44) then(match Eb strict F m key s3 with
      | none=>none
      | some (g,u)=>some (f.put key g,u)) else none
end
theorem Ea (strict:Bool)(F:Nat)(s:Ai):GK strict (F+1) s =
  match pre [110,117,108,108] s with
  | some r=>some (lf 1 0 [],r)
  | none=>match pre [116,114,117,101] s with
   | some r=>some (lf 2 1 [],r)
   | none=>match pre [102,97,108,115,101] s with
    | some r=>some (lf 2 0 [],r)
    | none=>match s with
     | []=>none
     | c::r=>
      bif decide (c=34) then(match Dt strict r with
       | none=>none
       | some (t,u)=>some (lf 4 0 t,u)) else
      bif decide (c=91)||decide (c=123) then(match r with
       | []=>none
       | d::r'=>bif decide (d=Cl (decide (c=123))) then some (nd (decide (c=123)) .nil,r') else(match Eb strict F (decide (c=123)) none (d::r') with
        | none=>none
        | some (g,u)=>some (nd (decide (c=123)) g,u))) else
      Ji (c::r):=by
 rw[GK.eq_def]
theorem DG (strict:Bool)(F:Nat)(m:Bool)(last:Option Ai)(s:Ai):Eb strict (F+1) m last s =
  match Gb strict m last s with
  | none=>none
  | some (key,s1)=>match GK strict F s1 with
   | none=>none
   | some (f,s2)=>match s2 with
    | []=>none
    | c::s3=>
     bif decide (c=Cl m) then some (f.put key .nil,s3) else
     bif decide (c=44) then(match Eb strict F m key s3 with
      | none=>none
      | some (g,u)=>some (f.put key g,u)) else none:=by
 rw[Eb.eq_def]
theorem DR:∀{w s r:Ai},pre w s=some r→s=w++r
 | [],s,r,h=>by cases h;rfl
 | c::w,[],r,h=>by cases h
 | c::w,d::s,r,h=>by
  rw[pre] at h
  cases hc:decide (c=d) with
  | false=>rw[hc] at h;cases h
  | true=>
   rw[hc] at h;simp only[AfF] at hc;rw[hc,DR h];rfl
theorem Ef (b:Bool)(c:UInt8)(r:Ai):Dt b (c::r) =
  bif decide (c=34) then some ([],r) else
  bif b&&!Lp c then none else
  bif decide (c=92) then(match r with
   | []=>none
   | d::r'=>bif decide (d=34)||decide (d=92) then(match Dt b r' with
    | none=>none
    | some (t,u)=>some (d::t,u)) else none)
  else(match Dt b r with
   | none=>none
   | some (t,u)=>some (c::t,u)):=by
 rw[Dt.eq_def]
 cases r<;>rfl
theorem Kl (b:Bool):∀(n:Nat) (s t u:Ai),s.length=n→Dt b s=some (t,u)→u.length<s.length:=by
 intro n
 induction n using Nat.strongRecOn with
 | ind n ih=>
  intro s t u hn h
  cases s with
  | nil=>cases h
  | cons c r=>
   simp only[AfJ] at hn ⊢;rw[Ef] at h
   cases h1:decide (c=34) with
   | true=>rw[h1] at h;cases h;omega
   | false=>
    rw[h1] at h;simp only[AfH] at h
    cases h2:(b&&!Lp c) with
    | true=>rw[h2] at h;cases h
    | false=>
     rw[h2] at h;simp only[AfH] at h
     cases h3:decide (c=92) with
     | true=>
      rw[h3] at h
      cases r with
      | nil=>cases h
      | cons d r'=>
       simp only[AfL] at h
       cases h4:(decide (d=34)||decide (d=92)) with
       | false=>rw[h4] at h;cases h
       | true=>
        rw[h4] at h;simp only[AfL] at h
        cases h5:Dt b r' with
        | none=>rw[h5] at h;cases h
        | some q=>
         obtain⟨t',u'⟩:=q;rw[h5] at h;cases h;simp only[AfJ] at hn ⊢;have:=ih r'.length (by omega) r' t' u rfl h5;omega
     | false=>
      rw[h3] at h;simp only[AfH] at h
      cases h5:Dt b r with
      | none=>rw[h5] at h;cases h
      | some q=>
       obtain⟨t',u'⟩:=q;rw[h5] at h;cases h;have:=ih r.length (by omega) r t' u rfl h5;omega
theorem O8:∀s:Ai,s=(Db s).1++(Db s).2
 | []=>rfl
 | c::r=>by
  have:=O8 r;rw[Db]
  cases Cs c with
  | true=>simp only[AfL,Ag2];rw[← this]
  | false=>rfl
theorem P8 {s u:Ai}{f:Fo}(h:Ji s=some (f,u)):u.length<s.length:=by
 unfold Ji at h;simp only at h
 cases hc:Gv (decide (s.head? =some 45)) (Db (bif decide (s.head? =some 45) then s.tail else s)).1 with
 | false=>rw[hc] at h;cases h
 | true=>
  rw[hc] at h;simp only[AfL,Option.some.injEq,Prod.mk.injEq] at h;obtain⟨_,h⟩:=h;have e:=congrArg List.length (O8 (bif decide (s.head? =some 45) then s.tail else s));rw[AfK,h] at e;have h1:0<(Db (bif decide (s.head? =some 45) then s.tail else s)).1.length:=by
   unfold Gv at hc;simp only[AfM,Agd,AfE] at hc;exact List.length_pos_iff.2 hc.1
  have h2:(bif decide (s.head? =some 45) then s.tail else s).length≤s.length:=by
   cases decide (s.head? =some 45)<;>simp
  omega
theorem TM {b m:Bool}{last key:Option Ai}{s u:Ai}(h:Gb b m last s=some (key,u)):u.length≤s.length:=by
 unfold Gb at h
 cases m with
 | false=>cases h;exact AfZ _
 | true=>
  simp only[AfL] at h
  cases s with
  | nil=>cases h
  | cons c r=>
   simp only at h
   cases h1:decide (c=34) with
   | false=>rw[h1] at h;cases h
   | true=>
    rw[h1] at h;simp only[AfL] at h
    cases h2:Dt b r with
    | none=>rw[h2] at h;cases h
    | some q=>
     obtain⟨k,w⟩:=q;have:=Kl b _ r k w rfl h2;rw[h2] at h;simp only at h
     cases h3:(b&&!BG true last (some k)) with
     | true=>rw[h3] at h;cases h
     | false=>
      rw[h3] at h;simp only[AfH] at h
      cases w with
      | nil=>cases h
      | cons d w'=>
       simp only at h
       cases h4:decide (d=58) with
       | false=>rw[h4] at h;cases h
       | true=>rw[h4] at h;cases h;simp only[AfJ] at this ⊢;omega
theorem ZY (m:Bool)(g:Fo):(nd m g).one=true:=by
 unfold nd
 cases decide (g.cnt=0)<;>rfl
theorem Aa1 {s u:Ai}{f:Fo}(h:Ji s=some (f,u)):f.one=true:=by
 unfold Ji at h;simp only at h
 cases hc:Gv (decide (s.head? =some 45)) (Db (bif decide (s.head? =some 45) then s.tail else s)).1 with
 | false=>rw[hc] at h;cases h
 | true=>rw[hc] at h;cases h;rfl
theorem ER (b:Bool):∀F:Nat,(∀s f u,GK b F s=some (f,u)→u.length<s.length∧f.one=true)∧(∀m last s g u,Eb b F m last s=some (g,u)→u.length<s.length∧1≤g.cnt)
 | 0=>⟨(λs f u h=>by rw[GK.eq_def] at h;cases h),(λm last s g u h=>by rw[Eb.eq_def] at h;cases h)⟩
 | F+1=>by
  obtain⟨ih1,ih2⟩:=ER b F;constructor
  ·intro s f u h;rw[Ea] at h
   cases h1:pre [110,117,108,108] s with
   | some r=>rw[h1] at h;cases h;rw[DR h1];exact⟨by simp;omega,rfl⟩
   | none=>
   rw[h1] at h;simp only at h
   cases h2:pre [116,114,117,101] s with
   | some r=>rw[h2] at h;cases h;rw[DR h2];exact⟨by simp;omega,rfl⟩
   | none=>
   rw[h2] at h;simp only at h
   cases h3:pre [102,97,108,115,101] s with
   | some r=>rw[h3] at h;cases h;rw[DR h3];exact⟨by simp;omega,rfl⟩
   | none=>
   rw[h3] at h;simp only at h
   cases s with
   | nil=>cases h
   | cons c r=>
   simp only at h
   cases h4:decide (c=34) with
   | true=>
    rw[h4] at h;simp only[AfL] at h
    cases h5:Dt b r with
    | none=>rw[h5] at h;cases h
    | some q=>
     obtain⟨t,w⟩:=q;rw[h5] at h;cases h;have:=Kl b _ r t u rfl h5;exact⟨by simp only[AfJ];omega,rfl⟩
   | false=>
   rw[h4] at h;simp only[AfH] at h
   cases h5:(decide (c=91)||decide (c=123)) with
   | false=>rw[h5] at h;simp only[AfH] at h;exact⟨P8 h,Aa1 h⟩
   | true=>
   rw[h5] at h;simp only[AfL] at h
   cases r with
   | nil=>cases h
   | cons d r'=>
   simp only at h
   cases h6:decide (d=Cl (decide (c=123))) with
   | true=>rw[h6] at h;cases h;exact⟨by simp only[AfJ];omega,ZY _ _⟩
   | false=>
   rw[h6] at h;simp only[AfH] at h
   cases h7:Eb b F (decide (c=123)) none (d::r') with
   | none=>rw[h7] at h;cases h
   | some q=>
    obtain⟨g,w⟩:=q;rw[h7] at h;cases h;have:=(ih2 _ _ _ _ _ h7).1;exact⟨by simp only[AfJ] at this ⊢;omega,ZY _ _⟩
  ·intro m last s g u h;rw[DG] at h
   cases h1:Gb b m last s with
   | none=>rw[h1] at h;cases h
   | some q=>
   obtain⟨key,s1⟩:=q;have l1:=TM h1;rw[h1] at h;simp only at h
   cases h2:GK b F s1 with
   | none=>rw[h2] at h;cases h
   | some q=>
   obtain⟨f,s2⟩:=q;obtain⟨l2,o2⟩:=ih1 _ _ _ h2;rw[h2] at h;simp only at h
   cases s2 with
   | nil=>cases h
   | cons c s3=>
   simp only[AfJ] at l2;have hput:∀r:Fo,1≤(f.put key r).cnt:=λr=>by
    cases f with
    | nil=>cases o2
    | cell _ _ _=>simp[Fo.put,Fo.cnt]
    | node _ _ _ _=>simp[Fo.put,Fo.cnt]
   simp only at h
   cases h3:decide (c=Cl m) with
   | true=>rw[h3] at h;cases h;exact⟨by omega,hput _⟩
   | false=>
   rw[h3] at h;simp only[AfH] at h
   cases h4:decide (c=44) with
   | false=>rw[h4] at h;cases h
   | true=>
   rw[h4] at h;simp only[AfL] at h
   cases h5:Eb b F m key s3 with
   | none=>rw[h5] at h;cases h
   | some q=>
    obtain⟨g',w⟩:=q;rw[h5] at h;cases h;have:=(ih2 _ _ _ _ _ h5).1;exact⟨by omega,hput _⟩
def Du (acc:Nat)(d:Ai):Nat:=d.foldl (λn c=>10*n+(c.toNat-48)) acc
theorem La:∀(d:Ai) (a:Nat),a≤Du a d
 | [],a=>AfZ _
 | c::d,a=>by
  have:=La d (10*a+(c.toNat-48));show a≤Du (10*a+(c.toNat-48)) d;omega
theorem T9:∀(d:Ai) (a:Nat),1≤a→10 ^ d.length≤Du a d
 | [],a,h=>by simpa[Du] using h
 | c::d,a,h=>by
  have hm:∀(d:Ai) (a b:Nat),a≤b→Du a d≤Du b d:=by
   intro d
   induction d with
   | nil=>intro a b h;exact h
   | cons c d ih=>intro a b h;show Du (10*a+(c.toNat-48)) d≤Du (10*b+(c.toNat-48)) d;exact ih _ _ (by omega)
  have hs:∀(d:Ai) (a:Nat),10 ^ d.length*a≤Du a d:=by
   intro d
   induction d with
   | nil=>intro a;simp[Du]
   | cons c d ih=>
    intro a;have:=ih (10*a+(c.toNat-48));show 10 ^ (d.length+1)*a≤Du (10*a+(c.toNat-48)) d;refine Nat.le_trans ?_ this;rw[Nat.pow_succ,Nat.mul_assoc];exact Nat.mul_le_mul_left _ (by omega)
  exact Nat.le_trans (Nat.le_mul_of_pos_right _ h) (hs (c::d) a)
theorem Kw:∀(d:Ai) (a:Nat),d.all Cs=true→d.foldl (λn c=>10*n+((c.toNat:Int)-48)) (a:Int)=(Du a d:Int)
 | [],a,_=>rfl
 | c::d,a,h=>by
  simp only[Agu,AfM] at h;have hc:48≤c.toNat:=by have:=h.1;simp[Cs] at this;omega
  have:=Kw d (10*a+(c.toNat-48)) h.2;show d.foldl _ (10*(a:Int)+((c.toNat:Int)-48))=(Du (10*a+(c.toNat-48)) d:Int);rw[← this]
  congr 1
  omega
theorem Z3:∀(d:Ai) (a:Nat),d.all Cs=true→Lib.parseUint10 a d = .ok (Du a d)∨(Lib.parseUint10 a d = .range∧1000000000000<Du a d)
 | [],a,_=>.inl rfl
 | c::d,a,h=>by
  simp only[Agu,AfM] at h;have hc:48≤c.toNat∧c.toNat≤57:=by have:=h.1;simp[Cs] at this;omega
  have hm:=La d (10*a+(c.toNat-48));have e:Du a (c::d)=Du (10*a+(c.toNat-48)) d:=rfl;rw[e];unfold Lib.parseUint10;rw[Ag9 hc]
  split
  ·exact .inr ⟨rfl,by omega⟩
  ·split
   ·exact .inr ⟨rfl,by omega⟩
   ·rw[show a*10+(c.toNat-48)=10*a+(c.toNat-48) from by omega];exact Z3 d _ h.2
theorem RD:∀(d:Ai) (i:Nat),Bp E2 i d=d.all Cs
 | [],_=>rfl
 | c::d,i=>by
  rw[Bp,Agu,RD d]
  congr 1
  simp only[E2,Cs];rw[AfY];simp only[Agd,Agj,AfE,AfM,AfF];omega
def H4 (neg:Bool)(d:Ai):Ai:=bif neg then 45::d else d
theorem Aa4 {d:Ai}(hd:d.all Cs=true) : ¬ d.head? =some 45:=by
 cases d with
 | nil=>simp
 | cons c d=>
  simp only[Agu,AfM] at hd;have:=hd.1;intro e;simp only[List.head?_cons,Option.some.injEq] at e;subst e;simp[Cs] at this
theorem Xg (s:Ai):Tl s=decide (s.head? =some 45):=by
 cases s with
 | nil=>rfl
 | cons c r=>
  have:B8 (c::r) 0=c.toNat:=HD rfl;unfold Tl;rw[this,AfY];simp only[AfM,AfF,List.head?_cons,Option.some.injEq,← AgE,AfJ];show _∧(c.toNat:Int)=45↔c.toNat=45;omega
theorem AaN {neg:Bool}{d:Ai}(hd:d.all Cs=true):LT (H4 neg d)=d:=by
 unfold LT;rw[Xg]
 cases neg with
 | true=>rfl
 | false=>
  have:=Aa4 hd;show(if decide (d.head? =some 45)=true then d.drop 1 else d)=d;rw[Agt (by simpa using this)]
theorem AaV {neg:Bool}{d:Ai}(hd:d.all Cs=true):Ny (H4 neg d)=Gv neg d:=by
 unfold Ny Gv;rw[AaN hd,RD,hd,Agg]
 cases d with
 | nil=>simp
 | cons c r=>
  have hb:B8 (c::r) 0=c.toNat:=HD rfl;have h1:decide (c::r=([]:Ai))=false:=by simp
  have h2:decide (B8 (c::r) 0=48)=decide ((c::r).head? =some 48):=by
   rw[hb,AfY];simp only[AfF,List.head?_cons,Option.some.injEq,← AgE];show(c.toNat:Int)=48↔c.toNat=48;omega
  rw[h1,h2,AfW,Agh,AfT]
  cases ha:decide ((c::r).head? =some 48) with
  | false=>rfl
  | true=>
   simp only[AfF,List.head?_cons,Option.some.injEq] at ha;subst ha
   cases neg with
   | true=>simp[H4]
   | false=>
    cases r with
    | nil=>simp[H4]
    | cons a r=>simp[H4]
theorem Abk {neg:Bool}{d:Ai}(hd:d.all Cs=true)(hne:d≠[]):Lib.atoiAll (H4 neg d)=(bif neg then Lib.signed (Lib.parseUint10 0 d) else Lib.signless (Lib.parseUint10 0 d)):=by
 cases neg with
 | true=>
  simp only[H4,AfL];rw[Lib.atoiAll_minus,Lib.parseMag,Agt hne]
 | false=>
  cases d with
  | nil=>exact absurd rfl hne
  | cons c r=>
   have hc:=hd;simp only[Agu,AfM] at hc;have ha:48≤c.toNat:=by have:=hc.1;simp[Cs] at this;omega
   simp only[H4,AfH];rw[Lib.atoiAll_plain c r (by omega) (by omega),Lib.parseMag,Agt hne]
theorem Xq {neg:Bool}{d:Ai}(hd:d.all Cs=true):(Gv neg d=false∧BH (H4 neg d)=1)∨(Gv neg d=true∧C0 ⟨3,Lq neg d,[],0⟩=false∧BH (H4 neg d)=0∧Bu (H4 neg d)=Lq neg d)∨(Gv neg d=true∧C0 ⟨3,Lq neg d,[],0⟩=true∧BH (H4 neg d)=2∧Bu (H4 neg d)=0):=by
 unfold BH Bu;rw[AaV hd]
 cases hc:Gv neg d with
 | false=>exact .inl ⟨rfl,rfl⟩
 | true=>
  right
  have hc':=hc;unfold Gv at hc';simp only[AfM,Agd,AfE] at hc';have hne:=hc'.1;rw[Ag9 rfl,Ag9 rfl,Abk hd hne];have hnum:Qs d=(Du 0 d:Int):=Kw d 0 hd;have hbig:18<d.length→1000000000000<Du 0 d:=λhl=>by
   cases d with
   | nil=>simp at hl
   | cons c r=>
    have hc1:=hd;simp only[Agu,AfM] at hc1;have he:48≤c.toNat:=by have:=hc1.1;simp[Cs] at this;omega
    have hne48 : ¬ c=48:=by
     intro e;have:=hc'.2;subst e;simp only[AfJ] at hl;have h1r:1<r.length+1:=by omega
     simp[h1r] at this
    have hf:49≤c.toNat:=by
     have : ¬ c.toNat=48:=λe=>hne48 (UInt8.toNat_inj.1 (by rw[e];rfl));omega
    have:=T9 r (10*0+(c.toNat-48)) (by omega);have ha:10 ^ 18≤10 ^ r.length:=Nat.pow_le_pow_right (by decide) (by simp at hl;omega);have e:Du 0 (c::r)=Du (10*0+(c.toNat-48)) r:=rfl;rw[e];have:(1000000000000:Nat)<10 ^ 18:=by decide
    omega
  have hout:C0 ⟨3,Lq neg d,[],0⟩=decide (1000000000000<Du 0 d):=by
   unfold C0 Lq;rw[hnum]
   cases ha:decide (18<d.length) with
   | true=>
    simp only[AfF] at ha;rw[AfI (hbig ha)]
    cases neg<;>rfl
   | false=>
    rw[AfY]
    cases neg<;>simp<;>omega
  rw[hout];rcases Z3 d 0 hd with hu | ⟨hu,hg⟩
  ·rw[hu]
   cases hg:decide (1000000000000<Du 0 d) with
   | false=>
    simp only[AfE] at hg;have ha:decide (18<d.length)=false:=by
     rw[AfE];intro h;have:=hbig h;omega
    refine .inl ⟨rfl,rfl,?_,?_⟩
    ·cases neg with
     | true=>simp only[AfL,Lib.signed];rw[Agt (by omega)];simp only;rw[Ag9 (by unfold ES;simp;omega)]
     | false=>simp only[AfH,Lib.signless];rw[Agt (by omega)];simp only;rw[Ag9 (by unfold ES;simp;omega)]
    ·unfold Lq;rw[ha,hnum]
     cases neg with
     | true=>simp only[AfL,AfH,Lib.signed];rw[Agt (by omega)];simp only;rw[Ag9 (by unfold ES;simp;omega)]
     | false=>simp only[AfH,Lib.signless];rw[Agt (by omega)];simp only;rw[Ag9 (by unfold ES;simp;omega)]
   | true=>
    simp only[AfF] at hg;refine .inr ⟨rfl,rfl,?_,?_⟩
    ·cases neg with
     | true=>
      simp only[AfL,Lib.signed]
      by_cases hb:9223372036854775808<Du 0 d
      ·rw[Ag9 hb]
      ·rw[Agt hb];simp only;rw[Agt (by unfold ES;simp;omega)]
     | false=>
      simp only[AfH,Lib.signless]
      by_cases hb:9223372036854775808≤Du 0 d
      ·rw[Ag9 hb]
      ·rw[Agt hb];simp only;rw[Agt (by unfold ES;simp;omega)]
    ·cases neg with
     | true=>
      simp only[AfL,Lib.signed]
      by_cases hb:9223372036854775808<Du 0 d
      ·rw[Ag9 hb]
      ·rw[Agt hb];simp only;rw[Agt (by unfold ES;simp;omega)]
     | false=>
      simp only[AfH,Lib.signless]
      by_cases hb:9223372036854775808≤Du 0 d
      ·rw[Ag9 hb]
      ·rw[Agt hb];simp only;rw[Agt (by unfold ES;simp;omega)]
  ·rw[hu,AfI hg];refine .inr ⟨rfl,rfl,?_,?_⟩<;>cases neg<;>rfl
def Ix (u S:Ai):Prop:=∃p,S=p++u
theorem Ix.len {u S:Ai}(h:Ix u S):u.length≤S.length:=by obtain⟨p,rfl⟩:=h;simp
theorem Ix.tail {c:UInt8}{r S:Ai}(h:Ix (c::r) S):Ix r S:=by obtain⟨p,rfl⟩:=h;exact⟨p++[c],by simp⟩
theorem Ix.app {w r S:Ai}(h:Ix (w++r) S):Ix r S:=by obtain⟨p,rfl⟩:=h;exact⟨p++w,by simp⟩
theorem Ix.drop {u S:Ai}(h:Ix u S):S.drop (Int.toNat ((S.length:Int)-u.length))=u:=by
 obtain⟨p,rfl⟩:=h;rw[show Int.toNat (((p++u).length:Int)-u.length)=p.length from by rw[AfK];omega,List.drop_left]
theorem Ix.get {c:UInt8}{r S:Ai}(h:Ix (c::r) S):S[(Int.toNat ((S.length:Int)-(c::r).length))]? =some c:=by
 have:=h.drop;have h2:(S.drop (Int.toNat ((S.length:Int)-(c::r).length)))[0]? =some c:=by rw[this];rfl
 simpa using h2
def DH (S u:Ai)(cs:List Ab)(g:Bool):Az:=⟨S,(S.length:Int)-u.length,cs,g⟩
theorem Mu:∀(w r:Ai),pre w (w++r)=some r
 | [],r=>rfl
 | c::w,r=>by
  show(bif decide (c=c) then pre w (w++r) else none)=some r;rw[AfI rfl];exact Mu w r
theorem UL (w s:Ai):(decide ((w.length:Int)≤(s.length:Int))&&decide (List.take (Int.toNat (w.length:Int)) s=w))=(pre w s).isSome:=by
 cases h:pre w s with
 | some r=>
  have:=DR h;subst this;simp;omega
 | none=>
  rw[AfY];simp only[AfM,AfF,Option.isSome_none,Agb,iff_false,not_and];intro hl e;have:s=w++s.drop w.length:=by
   conv=>lhs;rw[← Ag7 w.length s]
   rw[show Int.toNat (w.length:Int)=w.length from by omega] at e;rw[e]
  rw[this,Mu] at h
  cases h
theorem MC (s w:Ai):HM s w=some (pre w s).isSome:=by
 unfold HM I0;rw[← UL];have:imp (decide ((w.length:Int)≤(s.length:Int))) (Gs (w.length:Int) (s.length:Int))=true:=by
  cases hd:decide ((w.length:Int)≤(s.length:Int)) with
  | false=>rfl
  | true=>simp only[imp];rw[AeD (by omega) (by simpa using hd)];rfl
 rw[Cq this];rfl
theorem Dp {S u w:Ai}{cs:List Ab}{g:Bool}(hS:S.length≤100000)(h:Ix u S):Em (DH S u cs g) w=match pre w u with
  | some r=>some (true,DH S r cs g)
  | none=>some (false,DH S u cs g):=by
 have hl:=h.len;unfold Em DH;simp only;rw[C7 (by omega) (by omega),h.drop,MC,Bs rfl]
 cases hp:pre w u with
 | none=>rfl
 | some r=>
  have e:=DR hp;have el:u.length=w.length+r.length:=by rw[e];simp
  rw[AN (p:=!(some r).isSome) rfl,Ba (by omega) (by omega),show(S.length:Int)-u.length+w.length=S.length-r.length from by omega]
theorem Mv (c:UInt8)(u:Ai):pre [c] u=match u with
  | []=>none
  | d::r=>bif decide (d=c) then some r else none:=by
 cases u with
 | nil=>rfl
 | cons d r=>
  show(bif decide (c=d) then some r else none)=_;have:decide (c=d)=decide (d=c):=by rw[AfY];simp only[AfF];exact eq_comm
  rw[this]
theorem ZH (A:Ai):Qm (D7 A)=A:=by
 induction A with
 | nil=>rfl
 | cons c A ih=>
  show UInt8.ofNat (Int.toNat (c.toNat:Int))::Qm (D7 A)=c::A;rw[ih,← (show UInt8.ofNat c.toNat=c from by simp)];simp
theorem AbE:∀(n:Nat) (s t u:Ai),s.length=n→Dt true s=some (t,u)→t.all Lp=true:=by
 intro n
 induction n using Nat.strongRecOn with
 | ind n ih=>
  intro s t u hn h
  cases s with
  | nil=>cases h
  | cons c r=>
   simp only[AfJ] at hn;rw[Ef] at h
   cases h1:decide (c=34) with
   | true=>rw[h1] at h;cases h;rfl
   | false=>
    rw[h1] at h;simp only[AfH,AfT] at h
    cases h2:Lp c with
    | false=>rw[h2] at h;cases h
    | true=>
     rw[h2] at h;simp only[AfR,AfH] at h
     cases h3:decide (c=92) with
     | true=>
      rw[h3] at h
      cases r with
      | nil=>cases h
      | cons d r'=>
       simp only[AfL] at h
       cases h4:(decide (d=34)||decide (d=92)) with
       | false=>rw[h4] at h;cases h
       | true=>
        rw[h4] at h;simp only[AfL] at h
        cases h5:Dt true r' with
        | none=>rw[h5] at h;cases h
        | some q=>
         obtain⟨t',u'⟩:=q;rw[h5] at h;cases h;simp only[AfJ] at hn;have:=ih r'.length (by omega) r' t' u rfl h5;have hd:Lp d=true:=by
          simp only[Agv,AfF] at h4;rcases h4 with e | e<;>subst e<;>rfl
         simp[hd,this]
     | false=>
      rw[h3] at h;simp only[AfH] at h
      cases h5:Dt true r with
      | none=>rw[h5] at h;cases h
      | some q=>
       obtain⟨t',u'⟩:=q;rw[h5] at h;cases h;have:=ih r.length (by omega) r t' u rfl h5;simp[h2,this]
theorem AbS {c:UInt8}:(decide ((c.toNat:Int)<32)||decide (126<(c.toNat:Int))) = !Lp c:=by
 unfold Lp;rw[AfY];simp only[Agv,AfF,Agd,AgG,AfE];omega
theorem AcW (c:UInt8):decide ((c.toNat:Int)=34)=decide (c=34):=by
 rw[AfY,decide_eq_true_iff,decide_eq_true_iff,← AgE];show _↔c.toNat=34;omega
theorem AcV (c:UInt8):decide ((c.toNat:Int)=92)=decide (c=92):=by
 rw[AfY,decide_eq_true_iff,decide_eq_true_iff,← AgE];show _↔c.toNat=92;omega
theorem YZ (A:Ai)(c:UInt8):D7 A++([(c.toNat:Int)]:List Int)=D7 (A++[c]):=by simp[D7]
theorem WV {S:Ai}{cs:List Ab}{g b:Bool}{p:Int}(hS:S.length≤100000):∀(n L:Nat) (u A:Ai),u.length=n→Ix u S→n<L→A.length≤S.length-n→
  ∃o,Ci (λσ=>EG (b,⟨S,p,cs,g⟩) σ.1 σ.2) L (D7 A,(S.length:Int)-u.length)=some o∧((∃t w,Dt true u=some (t,w)∧Ix w S∧BO (λν=>IR (b,⟨S,p,cs,g⟩) ν) o=some (A++t,true,DH S w cs g))∨(Dt true u=none∧∃q',BO (λν=>IR (b,⟨S,p,cs,g⟩) ν) o=some ([],false,q'))):=by
 intro n
 induction n using Nat.strongRecOn with
 | ind n ih=>
  intro L u A hn hs hL hA;obtain⟨L,rfl⟩:∃K,L=K+1:=⟨L-1,by omega⟩
  have hsl:=hs.len
  cases u with
  | nil=>
   have hgo:EG (b,⟨S,p,cs,g⟩) (D7 A) ((S.length:Int)-([]:Ai).length)=some (.out (.go ((S.length:Int)-([]:Ai).length))):=by
    unfold EG;rw[AN (AfG (by simp))]
   exact⟨_,Gq hgo,.inr ⟨rfl,_,rfl⟩⟩
  | cons c r=>
   have hb:B8 S ((S.length:Int)-(c::r).length)=c.toNat:=HD hs.get;have hpos:(S.length:Int)-(c::r).length+1=S.length-r.length:=by rw[AfJ];omega
   simp only[AfJ] at hn hsl;have hlt:(S.length:Int)-(c::r).length<S.length:=by rw[AfJ];omega
   have h0:0≤(S.length:Int)-(c::r).length:=by rw[AfJ];omega
   have hb1:EG (b,⟨S,p,cs,g⟩) (D7 A) ((S.length:Int)-(c::r).length)=Bw (decide (c=34)) (some (.out (.ret (A,true,DH S r cs g)))) (Bw (!Lp c) (some (.out (.ret ([],false,DH S r cs g)))) (Bw (decide (c=92)) (Bd (imp (!(decide ((S.length:Int)≤S.length-r.length))) (CY (S.length-r.length) (S.length:Int)))<|Bw (((decide ((S.length:Int)≤S.length-r.length))||((!decide ((B8 S (S.length-r.length))=34))&&(!decide ((B8 S (S.length-r.length))=92))))) (some (.out (.ret ([],false,DH S r cs g)))) (Bd (CY (S.length-r.length) (S.length:Int))<|Bd (Cb .i64 (((S.length:Int)-r.length)+1))<|Gy (D7 A) (B8 S (S.length-r.length)) (((S.length:Int)-r.length)+1))) (Gy (D7 A) (c.toNat:Int) ((S.length:Int)-r.length)))):=by
    unfold EG;simp only;rw[AZ (AfI hlt),Bm h0 hlt,hb,hpos,Ba (by omega) (by omega),AcW,AcV,AbS,ZH];rfl
   have hj:∀(x:UInt8) (y:Int),Gy (D7 A) (x.toNat:Int) y=some (.next (D7 (A++[x]),y)):=λx y=>by
    unfold Gy;rw[D4 (by simp[D7];omega),YZ]
   rw[Ef]
   cases h1:decide (c=34) with
   | true=>
    rw[h1] at hb1;exact⟨.ret (A,true,DH S r cs g),Gq hb1,.inl ⟨[],r,rfl,hs.tail,by rw[Z8,Ag4]⟩⟩
   | false=>
    rw[h1,AN rfl] at hb1;simp only[AfH,AfT]
    cases h2:Lp c with
    | false=>
     rw[h2,AZ (p:=!false) rfl] at hb1;exact⟨_,Gq hb1,.inr ⟨rfl,_,rfl⟩⟩
    | true=>
     rw[h2,AN (p:=!true) rfl] at hb1;simp only[AfR,AfH]
     cases h3:decide (c=92) with
     | true=>
      rw[h3,AZ rfl] at hb1
      cases r with
      | nil=>
       have e:decide ((S.length:Int)≤S.length-([]:Ai).length)=true:=by simp
       rw[e,Cq (p:=imp (!true) _) rfl,AZ (p:=true||_) rfl] at hb1;exact⟨_,Gq hb1,.inr ⟨rfl,_,rfl⟩⟩
      | cons d r'=>
       simp only[AfJ] at hn hsl;have hbd:B8 S ((S.length:Int)-(d::r').length)=d.toNat:=HD hs.tail.get;have hlt2:(S.length:Int)-(d::r').length<S.length:=by rw[AfJ];omega
       have ha:0≤(S.length:Int)-(d::r').length:=by rw[AfJ];omega
       have hpos2:(S.length:Int)-(d::r').length+1=S.length-r'.length:=by rw[AfJ];omega
       have e:decide ((S.length:Int)≤S.length-(d::r').length)=false:=AfG (by omega);rw[e,Qw ha hlt2,hbd,hpos2,AcW,AcV,Cq (p:=imp (!false) true) rfl] at hb1;simp only[AfL]
       cases h4:(decide (d=34)||decide (d=92)) with
       | false=>
        have e4:(false||(!decide (d=34)&&!decide (d=92)))=true:=by rw[← Bool.not_or,h4];rfl
        rw[AZ e4] at hb1;exact⟨_,Gq hb1,.inr ⟨rfl,_,rfl⟩⟩
       | true=>
        have e4:(false||(!decide (d=34)&&!decide (d=92)))=false:=by rw[← Bool.not_or,h4];rfl
        rw[AN e4,Cq rfl,Ba (by omega) (by omega),hj] at hb1;obtain⟨o,ho1,ho2⟩:=ih r'.length (by omega) L r' (A++[d]) rfl hs.tail.tail (by omega) (by rw[Jr];omega);refine⟨o,M6 hb1 ho1,?_⟩;simp only[AfL];rcases ho2 with⟨t,w,q1,q2,q3⟩ | ⟨q1,q2⟩
        ·rw[q1];exact .inl ⟨d::t,w,rfl,q2,by rw[q3];simp⟩
        ·rw[q1];exact .inr ⟨rfl,q2⟩
     | false=>
      rw[h3,AN rfl,hj] at hb1;obtain⟨o,ho1,ho2⟩:=ih r.length (by omega) L r (A++[c]) rfl hs.tail (by omega) (by rw[Jr];omega);refine⟨o,M6 hb1 ho1,?_⟩;simp only[AfH];rcases ho2 with⟨t,w,q1,q2,q3⟩ | ⟨q1,q2⟩
      ·rw[q1];exact .inl ⟨c::t,w,rfl,q2,by rw[q3];simp⟩
      ·rw[q1];exact .inr ⟨rfl,q2⟩
theorem SY {F:Nat}{S u:Ai}{cs:List Ab}{g:Bool}(hS:S.length≤100000)(h:Ix u S)(hF:S.length<F) :
  (∃r t w,u=34::r∧Dt true r=some (t,w)∧Ix w S∧OP F (DH S u cs g)=some (t,true,DH S w cs g))∨((∀r,u=34::r→Dt true r=none)∧∃q',OP F (DH S u cs g)=some ([],false,q')):=by
 unfold OP;rw[Dp hS h,Mv]
 cases u with
 | nil=>exact .inr ⟨(λr e=>by cases e),_,rfl⟩
 | cons c r=>
  simp only
  cases hc:decide (c=34) with
  | false=>
   simp only[AfE] at hc;exact .inr ⟨(λr' e=>by cases e;exact absurd rfl hc),_,rfl⟩
  | true=>
   simp only[AfF] at hc;subst hc;have hl:=h.len;simp only[AfJ] at hl;simp only[AfL];rw[Bs rfl,AN (p:=!true) rfl];obtain⟨o,ho1,ho2⟩:=WV (b:=true) (cs:=cs) (g:=g) (p:=(S.length:Int)-r.length) hS r.length F r [] rfl h.tail (by omega) (Agn _);have ho1':Ci (λσ=>EG (true,DH S r cs g) σ.1 σ.2) F ([],(S.length:Int)-r.length)=some o:=ho1;rw[show(true,DH S r cs g).2.fAt=(S.length:Int)-r.length from rfl,Bs ho1'];rcases ho2 with⟨t,w,q1,q2,q3⟩ | ⟨q1,q',q2⟩
   ·exact .inl ⟨r,t,w,rfl,q1,q2,q3⟩
   ·exact .inr ⟨(λr' e=>by cases e;exact q1),q',q2⟩
def Dk (c:Ab):Ab:=bif C0 c then⟨3,0,[],0⟩ else c
theorem MK:∀s:Ai,(Db s).1.all Cs=true
 | []=>rfl
 | c::r=>by
  rw[Db]
  cases h:Cs c with
  | true=>simp only[AfL,Agu,h,MK r];rfl
  | false=>rfl
theorem Ac6 {c:UInt8}:(decide (48≤(c.toNat:Int))&&decide ((c.toNat:Int)≤57))=Cs c:=by
 unfold Cs;rw[AfY];simp only[AfM,AfF];omega
theorem Q8 {S:Ai}{cs:List Ab}{g b:Bool}{p:Int}(hS:S.length≤100000):∀(u:Ai) (L:Nat),Ix u S→u.length<L→
  Ci (λσ=>EH (b,⟨S,p,cs,g⟩) σ) L ((S.length:Int)-u.length)=some (.go ((S.length:Int)-(Db u).2.length))
 | [],L,hs,hL=>by
  obtain⟨L,rfl⟩:∃K,L=K+1:=⟨L-1,by omega⟩
  refine Gq ?_;show EH _ _=_;unfold EH;have e:decide ((S.length:Int)-([]:Ai).length<(S.length:Int))=false:=by simp
  simp only;rw[e,Cq (p:=imp false _) rfl,AN (p:=false&&_) rfl];rfl
 | c::r,L,hs,hL=>by
  obtain⟨L,rfl⟩:∃K,L=K+1:=⟨L-1,by omega⟩
  have hsl:=hs.len;have hb:B8 S ((S.length:Int)-(c::r).length)=c.toNat:=HD hs.get;have hpos:(S.length:Int)-(c::r).length+1=S.length-r.length:=by rw[AfJ];omega
  simp only[AfJ] at hsl hL;have hlt:(S.length:Int)-(c::r).length<S.length:=by rw[AfJ];omega
  have h0:0≤(S.length:Int)-(c::r).length:=by rw[AfJ];omega
  have hb1:EH (b,⟨S,p,cs,g⟩) ((S.length:Int)-(c::r).length)=Bw (Cs c) (some (.next ((S.length:Int)-r.length))) (some (.out (.go ((S.length:Int)-(c::r).length)))):=by
   unfold EH;simp only;rw[AfI hlt,Qw h0 hlt,Cq (p:=imp true true) rfl,hb,Ac6,hpos,Ba (by omega) (by omega),AfT]
  rw[Db]
  cases hd:Cs c with
  | true=>
   rw[hd] at hb1;exact M6 hb1 (Q8 hS r L hs.tail (by omega))
  | false=>
   rw[hd] at hb1;exact Gq hb1
theorem Ta {F:Nat}{S u:Ai}{cs:List Ab}{g:Bool}(hS:S.length≤100000)(h:Ix u S)(hF:S.length<F)(hcs:cs.length≤100000) :
  (∃f w,Ji u=some (f,w)∧Ix w S∧OQ F (DH S u cs g)=some (true,DH S w (cs++f.flat.map Dk) (g||f.flat.any C0)))∨(Ji u=none∧∃q',OQ F (DH S u cs g)=some (false,q')):=by
 have hl:=h.len;have hneg:∃neg r b,neg=decide (u.head? =some 45)∧r=(bif neg then u.tail else u)∧Em (DH S u cs g) [45]=some (b,DH S r cs g)∧u=(bif neg then 45::r else r):=by
  rw[Dp hS h,Mv]
  cases u with
  | nil=>exact⟨false,[],false,rfl,rfl,rfl,rfl⟩
  | cons c r=>
   simp only[List.head?_cons,Option.some.injEq]
   cases hc:decide (c=45) with
   | true=>simp only[AfF] at hc;subst hc;exact⟨true,r,true,rfl,rfl,rfl,rfl⟩
   | false=>exact⟨false,c::r,false,rfl,rfl,rfl,rfl⟩
 obtain⟨neg,r,b,e1,e2,e3,e4⟩:=hneg;have hr:Ix r S:=by
  rw[e4] at h
  cases neg with
  | true=>exact h.tail
  | false=>exact h
 have hrl:=hr.len;have hd:=MK r;have hsplit:=O8 r;have hlen:r.length=(Db r).1.length+(Db r).2.length:=by conv=>lhs;rw[hsplit,AfK]
 have hw:Ix (Db r).2 S:=by rw[hsplit] at hr;exact hr.app
 have hut:u=H4 neg (Db r).1++(Db r).2:=by
  rw[e4]
  cases neg with
  | true=>show 45::r=45::((Db r).1++(Db r).2);rw[← hsplit]
  | false=>exact hsplit
 have hul:u.length=(H4 neg (Db r).1).length+(Db r).2.length:=by conv=>lhs;rw[hut,AfK]
 have hslice:List.take (Int.toNat ((S.length:Int)-(Db r).2.length)-Int.toNat ((S.length:Int)-u.length)) (List.drop (Int.toNat ((S.length:Int)-u.length)) S)=H4 neg (Db r).1:=by
  rw[h.drop,show Int.toNat ((S.length:Int)-(Db r).2.length)-Int.toNat ((S.length:Int)-u.length)=(H4 neg (Db r).1).length from by omega]
  conv=>lhs;rw[hut]
  rw[List.take_left]
 have hlop:Ci (λσ=>EH (b,DH S r cs g) σ) F ((S.length:Int)-r.length)=some (.go ((S.length:Int)-(Db r).2.length)):=Q8 hS r F hr (by omega);have hrun:OQ F (DH S u cs g)=Bw (((decide ((BH (H4 neg (Db r).1))=1))||(decide ((S.length:Int)-r.length=(S.length:Int)-(Db r).2.length)))) (some (false,DH S (Db r).2 cs g)) (some (true,DH S (Db r).2 (cs++[⟨3,Bu (H4 neg (Db r).1),[],0⟩]) (g||!decide (BH (H4 neg (Db r).1)=0)))):=by
  unfold OQ;rw[e3,Bs rfl,show(b,DH S r cs g).2.fAt=(S.length:Int)-r.length from rfl,Bs hlop,J4];unfold Kg;rw[show(DH S u cs g).fAt=(S.length:Int)-u.length from rfl,show(b,DH S r cs g).2.fS=S from rfl,show(b,DH S r cs g).2.fAt=(S.length:Int)-r.length from rfl,C7 (by omega) (by omega),C7 (by omega) (by omega),hslice,D4 (by omega),Cq (p:=Dz 40 _) (AfI (by
   show(cs.length+1)*40≤140737488355328;omega))]
  rfl
 rw[hrun];unfold Ji;simp only;rw[← e1,← e2];rcases Xq (neg:=neg) hd with⟨p1,p2⟩ | ⟨p1,p2,p3,p4⟩ | ⟨p1,p2,p3,p4⟩
 ·rw[p1,p2];exact .inr ⟨rfl,_,rfl⟩
 ·have hne:(Db r).1≠[]:=by
   intro e;rw[e] at p1
   cases neg<;>cases p1
  have hpos:0<(Db r).1.length:=List.length_pos_iff.2 hne;rw[p1,p3,p4,AfG (show ¬ (S.length:Int)-r.length=(S.length:Int)-(Db r).2.length by omega)];refine .inl ⟨_,_,rfl,hw,?_⟩;simp[Fo.flat,BP,Dk,p2,Bw]
 ·have hne:(Db r).1≠[]:=by
   intro e;rw[e] at p1
   cases neg<;>cases p1
  have hpos:0<(Db r).1.length:=List.length_pos_iff.2 hne;rw[p1,p3,p4,AfG (show ¬ (S.length:Int)-r.length=(S.length:Int)-(Db r).2.length by omega)];refine .inl ⟨_,_,rfl,hw,?_⟩;simp[Fo.flat,BP,Dk,p2,Bw]
def Zk (strict:Bool)(s:Ai):Option (Fo×Ai):=
 match pre [110,117,108,108] s with
 | some r=>some (lf 1 0 [],r)
 | none=>match pre [116,114,117,101] s with
  | some r=>some (lf 2 1 [],r)
  | none=>match pre [102,97,108,115,101] s with
   | some r=>some (lf 2 0 [],r)
   | none=>match s with
    | []=>none
    | c::r=>bif decide (c=34) then(match Dt strict r with
     | none=>none
     | some (t,u)=>some (lf 4 0 t,u)) else Ji (c::r)
theorem Z4 (b:Bool)(F:Nat){s:Ai}(h:∀c r,s=c::r→(decide (c=91)||decide (c=123))=false):GK b (F+1) s=Zk b s:=by
 rw[Ea];unfold Zk
 cases pre [110,117,108,108] s with
 | some r=>rfl
 | none=>
 cases pre [116,114,117,101] s with
 | some r=>rfl
 | none=>
 cases pre [102,97,108,115,101] s with
 | some r=>rfl
 | none=>
 cases s with
 | nil=>rfl
 | cons c r=>
  simp only;rw[h c r rfl];rfl
theorem SZ {F:Nat}{S u:Ai}{cs:List Ab}{g:Bool}(hS:S.length≤100000)(h:Ix u S)(hF:S.length<F)(hcs:cs.length≤100000) :
  (∃f w,Zk true u=some (f,w)∧Ix w S∧IS F (DH S u cs g)=some (true,DH S w (cs++f.flat.map Dk) (g||f.flat.any C0)))∨(Zk true u=none∧∃q',IS F (DH S u cs g)=some (false,q')):=by
 have hA:∀c:Ab,Dz 40 (cs.length+([c]:List Ab).length)=true:=λc=>AfI (by show(cs.length+1)*40≤140737488355328;omega);unfold IS Zk;rw[Dp hS h]
 cases h1:pre [110,117,108,108] u with
 | some r=>
  have hr:Ix r S:=by rw[DR h1] at h;exact h.app
  refine .inl ⟨_,r,rfl,hr,?_⟩;simp only;rw[Bs rfl,AZ rfl];show Bd (Dz 40 (cs.length+([⟨1,0,[],0⟩]:List Ab).length)) (some (true,DH S r (cs++[⟨1,0,[],0⟩]) g))=_;rw[Cq (hA _)];simp[lf,Fo.flat,BP,Dk,C0]
 | none=>
 simp only;rw[Bs rfl,AN rfl,show(false,DH S u cs g).2=DH S u cs g from rfl,Dp hS h]
 cases h2:pre [116,114,117,101] u with
 | some r=>
  have hr:Ix r S:=by rw[DR h2] at h;exact h.app
  refine .inl ⟨_,r,rfl,hr,?_⟩;simp only;rw[Bs rfl,AZ rfl];show Bd (Dz 40 (cs.length+([⟨2,1,[],0⟩]:List Ab).length)) (some (true,DH S r (cs++[⟨2,1,[],0⟩]) g))=_;rw[Cq (hA _)];simp[lf,Fo.flat,BP,Dk,C0]
 | none=>
 simp only;rw[Bs rfl,AN rfl,show(false,DH S u cs g).2=DH S u cs g from rfl,Dp hS h]
 cases h3:pre [102,97,108,115,101] u with
 | some r=>
  have hr:Ix r S:=by rw[DR h3] at h;exact h.app
  refine .inl ⟨_,r,rfl,hr,?_⟩;simp only;rw[Bs rfl,AZ rfl];show Bd (Dz 40 (cs.length+([⟨2,0,[],0⟩]:List Ab).length)) (some (true,DH S r (cs++[⟨2,0,[],0⟩]) g))=_;rw[Cq (hA _)];simp[lf,Fo.flat,BP,Dk,C0]
 | none=>
 have hl:=h.len;simp only;rw[Bs rfl,AN rfl,show(false,DH S u cs g).2=DH S u cs g from rfl,show(DH S u cs g).fAt=(S.length:Int)-u.length from rfl,show(DH S u cs g).fS=S from rfl,C7 (by omega) (by omega),h.drop,MC,Bs rfl,Mv]
 cases u with
 | nil=>
  simp only;rw[AN (p:=(none:Option Ai).isSome) rfl];rcases Ta (g:=g) hS h hF hcs with⟨f,w,q1,q2,q3⟩ | ⟨q1,q',q2⟩
  ·exact absurd (P8 q1) (by simp)
  ·rw[q2];exact .inr ⟨trivial,_,rfl⟩
 | cons c r=>
  simp only
  cases hc:decide (c=34) with
  | true=>
   simp only[AfL];rw[AZ (p:=(some r).isSome) rfl];simp only[AfF] at hc;subst hc;rcases SY (cs:=cs) (g:=g) hS h hF with⟨r',t,w,q1,q2,q3,q4⟩ | ⟨q1,q',q2⟩
   ·cases q1
    rw[q2,q4,Bs rfl,AN (p:=!true) rfl];refine .inl ⟨_,w,rfl,q3,?_⟩;simp only;show Bd (Dz 40 (cs.length+([⟨4,0,t,0⟩]:List Ab).length)) (some (true,DH S w (cs++[⟨4,0,t,0⟩]) g))=_;rw[Cq (hA _)];simp[lf,Fo.flat,BP,Dk,C0]
   ·rw[q1 r rfl,q2,Bs rfl];exact .inr ⟨rfl,_,rfl⟩
  | false=>
   simp only[AfH];rw[AN (p:=(none:Option Ai).isSome) rfl];rcases Ta (g:=g) hS h hF hcs with⟨f,w,q1,q2,q3⟩ | ⟨q1,q',q2⟩
   ·rw[q3,Bs rfl];exact .inl ⟨f,w,q1,q2,rfl⟩
   ·rw[q2,Bs rfl];exact .inr ⟨q1,_,rfl⟩
theorem VR {f:Fo}(h:f.one=true)(key:Option Ai)(r:Fo):(f.put key r).cnt=r.cnt+1:=by
 cases f with
 | nil=>cases h
 | cell _ _ _=>rfl
 | node _ _ _ _=>rfl
theorem KZ (m:Bool)(g:Fo)(h:g.cnt=0→g = .nil):(nd m g).flat=⟨bif m then 6 else 5,0,[],(g.cnt:Int)⟩::g.flat:=by
 unfold nd
 cases hd:decide (g.cnt=0) with
 | true=>
  simp only[AfF] at hd;rw[h hd];rfl
 | false=>simp[Fo.flat,BP]
theorem JE {g:Fo}(h:g.cnt=0):g = .nil:=by
 cases g with
 | nil=>rfl
 | cell _ _ _=>simp[Fo.cnt] at h
 | node _ _ _ _=>simp[Fo.cnt] at h
theorem XL {b m:Bool}{last key:Option Ai}{s u:Ai}(h:Gb b m last s=some (key,u)):(BP key).length+u.length≤s.length:=by
 unfold Gb at h
 cases m with
 | false=>cases h;simp[BP]
 | true=>
  simp only[AfL] at h
  cases s with
  | nil=>cases h
  | cons c r=>
   simp only at h
   cases h1:decide (c=34) with
   | false=>rw[h1] at h;cases h
   | true=>
    rw[h1] at h;simp only[AfL] at h
    cases h2:Dt b r with
    | none=>rw[h2] at h;cases h
    | some q=>
     obtain⟨k,w⟩:=q;have:=Kl b _ r k w rfl h2;rw[h2] at h;simp only at h
     cases h3:(b&&!BG true last (some k)) with
     | true=>rw[h3] at h;cases h
     | false=>
      rw[h3] at h;simp only[AfH] at h
      cases w with
      | nil=>cases h
      | cons d w'=>
       simp only at h
       cases h4:decide (d=58) with
       | false=>rw[h4] at h;cases h
       | true=>rw[h4] at h;cases h;simp only[AfJ,BP,AgC] at this ⊢;omega
theorem Jb (b:Bool):∀F:Nat,(∀s f u,GK b F s=some (f,u)→f.flat.length+u.length≤s.length)∧(∀m last s g u,Eb b F m last s=some (g,u)→g.flat.length+u.length+1≤s.length)
 | 0=>⟨(λs f u h=>by rw[GK.eq_def] at h;cases h),(λm last s g u h=>by rw[Eb.eq_def] at h;cases h)⟩
 | F+1=>by
  obtain⟨ih1,ih2⟩:=Jb b F;have lfl:∀k i t,(lf k i t).flat.length=1:=λ_ _ _=>rfl;constructor
  ·intro s f u h;rw[Ea] at h
   cases h1:pre [110,117,108,108] s with
   | some r=>rw[h1] at h;cases h;rw[DR h1,lfl];simp;omega
   | none=>
   rw[h1] at h;simp only at h
   cases h2:pre [116,114,117,101] s with
   | some r=>rw[h2] at h;cases h;rw[DR h2,lfl];simp;omega
   | none=>
   rw[h2] at h;simp only at h
   cases h3:pre [102,97,108,115,101] s with
   | some r=>rw[h3] at h;cases h;rw[DR h3,lfl];simp;omega
   | none=>
   rw[h3] at h;simp only at h
   cases s with
   | nil=>cases h
   | cons c r=>
   simp only at h
   cases h4:decide (c=34) with
   | true=>
    rw[h4] at h;simp only[AfL] at h
    cases h5:Dt b r with
    | none=>rw[h5] at h;cases h
    | some q=>
     obtain⟨t,w⟩:=q;rw[h5] at h;cases h;have:=Kl b _ r t u rfl h5;rw[lfl];simp only[AfJ];omega
   | false=>
   rw[h4] at h;simp only[AfH] at h
   cases h5:(decide (c=91)||decide (c=123)) with
   | false=>
    rw[h5] at h;simp only[AfH] at h;have h6:=P8 h;have h7:f.flat.length=1:=by
     unfold Ji at h;simp only at h
     cases hc:Gv (decide ((c::r).head? =some 45)) (Db (bif decide ((c::r).head? =some 45) then(c::r).tail else c::r)).1 with
     | false=>rw[hc] at h;cases h
     | true=>rw[hc] at h;cases h;rfl
    omega
   | true=>
   rw[h5] at h;simp only[AfL] at h
   cases r with
   | nil=>cases h
   | cons d r'=>
   simp only at h
   cases h6:decide (d=Cl (decide (c=123))) with
   | true=>rw[h6] at h;cases h;rw[KZ _ _ JE];simp[Fo.flat];omega
   | false=>
   rw[h6] at h;simp only[AfH] at h
   cases h7:Eb b F (decide (c=123)) none (d::r') with
   | none=>rw[h7] at h;cases h
   | some q=>
    obtain⟨g,w⟩:=q;rw[h7] at h;cases h;have:=ih2 _ _ _ _ _ h7;rw[KZ _ _ JE];simp only[AfJ] at this ⊢;omega
  ·intro m last s g u h;rw[DG] at h
   cases h1:Gb b m last s with
   | none=>rw[h1] at h;cases h
   | some q=>
   obtain⟨key,s1⟩:=q;have l1:=XL h1;rw[h1] at h;simp only at h
   cases h2:GK b F s1 with
   | none=>rw[h2] at h;cases h
   | some q=>
   obtain⟨f,s2⟩:=q;have l2:=ih1 _ _ _ h2;have o2:=((ER b F).1 _ _ _ h2).2;rw[h2] at h;simp only at h
   cases s2 with
   | nil=>cases h
   | cons c s3=>
   simp only[AfJ] at l2;simp only at h
   cases h3:decide (c=Cl m) with
   | true=>rw[h3] at h;cases h;rw[Gz o2,AfK,AfK];simp only[Fo.flat,AgC];omega
   | false=>
   rw[h3] at h;simp only[AfH] at h
   cases h4:decide (c=44) with
   | false=>rw[h4] at h;cases h
   | true=>
   rw[h4] at h;simp only[AfL] at h
   cases h5:Eb b F m key s3 with
   | none=>rw[h5] at h;cases h
   | some q=>
    obtain⟨g',w⟩:=q;rw[h5] at h;cases h;have:=ih2 _ _ _ _ _ h5;rw[Gz o2,AfK,AfK];omega
theorem VK {α:Type}(xs D:List α)(a b:α):List.set (xs++a::D) (Int.toNat (xs.length:Int)) b=xs++b::D:=by
 rw[show Int.toNat (xs.length:Int)=xs.length from by omega,List.set_append_right _ _ (AfZ _)];simp
theorem Abm {α:Type}[Inhabited α](xs D:List α)(a:α):Aq (xs++a::D) (xs.length:Int)=a:=by simp[Aq]
def VOk (F P:Nat)(S u:Ai)(cs:List Ab)(g:Bool):Prop:=
 (∃f w,GK true P u=some (f,w)∧Ix w S∧CJ F (DH S u cs g)=some (true,DH S w (cs++f.flat.map Dk) (g||f.flat.any C0)))∨(GK true P u=none∧∃q',CJ F (DH S u cs g)=some (false,q'))
abbrev LB2 (F:Nat)(x16:List Ab):Int×Ai×Int×List Ab×Bool→Option (Stp (Int×Ai×Int×List Ab×Bool) (Out (Bool×Az) Unit)):=λσ=>EU (CJ F) x16 σ.1 σ.2.1 σ.2.2.1 σ.2.2.2.1 σ.2.2.2.2
abbrev LB3 (F:Nat)(x16:List Ab):Ai×Int×Ai×Int×List Ab×Bool→Option (Stp (Ai×Int×Ai×Int×List Ab×Bool) (Out (Bool×Az) Unit)):=λσ=>ET F (CJ F) x16 σ.1 σ.2.1 σ.2.2.1 σ.2.2.2.1 σ.2.2.2.2.1 σ.2.2.2.2.2
def Y1 (P:Nat)(m:Bool)(last:Option Ai)(S u:Ai)(x16 D:List Ab)(k:Int)(g:Bool)(o:Out (Bool×Az) Unit):Prop:=
 (∃G w,Eb true P m last u=some (G,w)∧Ix w S∧o = .ret (true,DH S w (x16++⟨bif m then 6 else 5,0,[],k-1+(G.cnt:Int)⟩::(D++G.flat.map Dk)) (g||G.flat.any C0)))∨(Eb true P m last u=none∧∃q',o = .ret (false,q'))
theorem Acz (k:Option Ai):(BP k).map Dk=BP k∧(BP k).any C0=false:=by
 cases k with
 | none=>exact⟨rfl,rfl⟩
 | some s=>exact⟨by simp[BP,Dk,C0],by simp[BP,C0]⟩
theorem Y1.join {P:Nat}{m:Bool}{last key:Option Ai}{S u s1 s2:Ai}{x16 D:List Ab}{k:Int}{g:Bool}{o:Out (Bool×Az) Unit}{f:Fo}(hk:Gb true m last u=some (key,s1))(hf:GK true P s1=some (f,s2))(ho:f.one=true)
  (h:(∃s3,s2=Cl m::s3∧Ix s3 S∧o = .ret (true,DH S s3 (x16++⟨bif m then 6 else 5,0,[],k⟩::(D++(BP key++f.flat.map Dk))) (g||f.flat.any C0)))∨(∃s3,s2=44::s3∧Y1 P m key S s3 x16 (D++(BP key++f.flat.map Dk)) (k+1) (g||f.flat.any C0) o)∨((∀c s3,s2=c::s3→decide (c=Cl m)=false∧decide (c=44)=false)∧∃q',o = .ret (false,q'))):Y1 (P+1) m last S u x16 D k g o:=by
 obtain⟨fk1,fk2⟩:=Acz key;unfold Y1;rw[DG,hk];simp only[hf];have ha:decide ((44:UInt8)=Cl m)=false:=by cases m<;>rfl
 rcases h with⟨s3,rfl,h1,h2⟩ | ⟨s3,rfl,h⟩ | ⟨h1,h2⟩
 ·simp only[decide_true,AfL];refine .inl ⟨_,s3,rfl,h1,?_⟩;rw[h2,VR ho,Gz ho];simp only[Fo.flat,Fo.cnt,Ag4,Ag8,List.any_append,fk1,fk2,AfW]
  congr 6
  omega
 ·simp only[ha,AfH,decide_true,AfL];rcases h with⟨G,w,q1,q2,q3⟩ | ⟨q1,q2⟩
  ·rw[q1];refine .inl ⟨_,w,rfl,q2,?_⟩;rw[q3,VR ho,Gz ho];simp only[Ag8,List.any_append,fk1,fk2,AfW,Bool.or_assoc,Agk]
   congr 6
   omega
  ·rw[q1];exact .inr ⟨rfl,q2⟩
 ·refine .inr ⟨?_,h2⟩
  cases s2 with
  | nil=>rfl
  | cons c s3=>
   obtain⟨a,b⟩:=h1 c s3 rfl;simp only[a,b,AfH]
theorem O2 (S u:Ai)(cs:List Ab)(g:Bool):Az.mk S ((S.length:Int)-u.length) cs g=DH S u cs g:=rfl
theorem O0 {o:Out (Bool×Az) Unit}{r:Bool×Az}{K:Unit→Option (Bool×Az)}(h:o = .ret r):BO K o=some r:=by rw[h];rfl
theorem W2 {α:Type}{n:Nat}{x:Option α}(h:n≤1000000):Bd (Dz 40 n) x=x:=Cq (AfI (by omega))
theorem Vd {F P:Nat}{S u:Ai}{x16 D:List Ab}{k:Int}{g:Bool}(hS:S.length≤100000)(hs:Ix u S)(hk1:1≤k)(hk2:k≤200000)(hV:VOk F P S u (x16++⟨5,0,[],k-1⟩::D) g) :
  (∃q',LB2 F x16 (k,S,(S.length:Int)-u.length,x16++⟨5,0,[],k-1⟩::D,g)=some (.out (.ret (false,q')))∧(GK true P u=none∨∃f s2,GK true P u=some (f,s2)∧∀c s3,s2=c::s3→decide (c=Cl false)=false∧decide (c=44)=false))∨
  ∃f s2,GK true P u=some (f,s2)∧Ix s2 S∧((∃s3,s2=Cl false::s3∧LB2 F x16 (k,S,(S.length:Int)-u.length,x16++⟨5,0,[],k-1⟩::D,g)=some (.out (.ret (true,DH S s3 (x16++⟨5,0,[],k⟩::(D++f.flat.map Dk)) (g||f.flat.any C0)))))∨
   (∃s3,s2=44::s3∧LB2 F x16 (k,S,(S.length:Int)-u.length,x16++⟨5,0,[],k-1⟩::D,g)=some (.next (k+1,S,(S.length:Int)-s3.length,x16++⟨5,0,[],k⟩::(D++f.flat.map Dk),g||f.flat.any C0)))):=by
 have hb:LB2 F x16 (k,S,(S.length:Int)-u.length,x16++⟨5,0,[],k-1⟩::D,g)=EU (CJ F) x16 k S ((S.length:Int)-u.length) (x16++⟨5,0,[],k-1⟩::D) g:=rfl;rw[hb];unfold EU;rw[O2];rcases hV with⟨f,s2,q1,q2,q3⟩ | ⟨q1,q',q2⟩
 ·have ec:(x16++⟨5,0,[],k-1⟩::D)++f.flat.map Dk=x16++⟨5,0,[],k-1⟩::(D++f.flat.map Dk):=by simp
  rw[ec] at q3;rw[q3,Bs rfl,AN (p:=!true) rfl];have hin:CY (x16.length:Int) (((x16++(⟨5,0,[],k-1⟩:Ab)::(D++f.flat.map Dk)).length:Nat):Int)=true:=Qw (by omega) (by rw[AfK,AfJ];omega);have e1:(true,DH S s2 (x16++⟨5,0,[],k-1⟩::(D++f.flat.map Dk)) (g||f.flat.any C0)).2.fCells=x16++⟨5,0,[],k-1⟩::(D++f.flat.map Dk):=rfl;rw[e1,Cq hin,Abm,VK,GD];have e2:Az.mk (true,DH S s2 (x16++⟨5,0,[],k-1⟩::(D++f.flat.map Dk)) (g||f.flat.any C0)).2.fS (true,DH S s2 (x16++⟨5,0,[],k-1⟩::(D++f.flat.map Dk)) (g||f.flat.any C0)).2.fAt (x16++⟨5,0,[],k⟩::(D++f.flat.map Dk)) (true,DH S s2 (x16++⟨5,0,[],k-1⟩::(D++f.flat.map Dk)) (g||f.flat.any C0)).2.fGreat=DH S s2 (x16++⟨5,0,[],k⟩::(D++f.flat.map Dk)) (g||f.flat.any C0):=rfl;rw[e2,Dp hS q2,Mv]
  cases s2 with
  | nil=>
   simp only;rw[Bs rfl,AN rfl,Dp hS q2,Mv];exact .inl ⟨_,rfl,.inr ⟨f,[],q1,λc s3 e=>by cases e⟩⟩
  | cons c s3=>
   simp only
   cases ha:decide (c=93) with
   | true=>
    simp only[AfF] at ha;subst ha;exact .inr ⟨f,_,q1,q2,.inl ⟨s3,rfl,rfl⟩⟩
   | false=>
    simp only[AfH];rw[Bs rfl,AN rfl,Dp hS q2,Mv];simp only
    cases hd:decide (c=44) with
    | true=>
     simp only[AfF] at hd;subst hd;simp only[AfL];rw[Bs rfl,AN (p:=!true) rfl,Ba (by omega) (by omega)];exact .inr ⟨f,_,q1,q2,.inr ⟨s3,rfl,rfl⟩⟩
    | false=>
     exact .inl ⟨_,rfl,.inr ⟨f,_,q1,λc' s3' e=>by cases e;exact⟨ha,hd⟩⟩⟩
 ·rw[q2,Bs rfl];exact .inl ⟨q',rfl,.inl q1⟩
theorem Aaj {F P:Nat}{S u:Ai}{x16 D:List Ab}{k:Int}{g b1 b2:Bool}{r:Ai×Bool×Az}(hS:S.length≤100000)(hs:Ix u S)(hk1:1≤k)(hk2:k≤200000)(hD:x16.length+D.length≤200000)(hV:VOk F P S u (x16++⟨6,0,[],k-1⟩::(D++[⟨4,0,r.1,0⟩])) g) :
  (∃q',C9 (CJ F) x16 k r b1 b2 false S ((S.length:Int)-u.length) (x16++⟨6,0,[],k-1⟩::D) g=some (.out (.ret (false,q')))∧(GK true P u=none∨∃f s2,GK true P u=some (f,s2)∧∀c s3,s2=c::s3→decide (c=Cl true)=false∧decide (c=44)=false))∨
  ∃f s2,GK true P u=some (f,s2)∧Ix s2 S∧((∃s3,s2=Cl true::s3∧C9 (CJ F) x16 k r b1 b2 false S ((S.length:Int)-u.length) (x16++⟨6,0,[],k-1⟩::D) g=some (.out (.ret (true,DH S s3 (x16++⟨6,0,[],k⟩::(D++([⟨4,0,r.1,0⟩]++f.flat.map Dk))) (g||f.flat.any C0)))))∨
   (∃s3,s2=44::s3∧C9 (CJ F) x16 k r b1 b2 false S ((S.length:Int)-u.length) (x16++⟨6,0,[],k-1⟩::D) g=some (.next (r.1,k+1,S,(S.length:Int)-s3.length,x16++⟨6,0,[],k⟩::(D++([⟨4,0,r.1,0⟩]++f.flat.map Dk)),g||f.flat.any C0)))):=by
 unfold C9;have e0:(x16++⟨6,0,[],k-1⟩::D)++([⟨4,0,r.1,0⟩]:List Ab)=x16++⟨6,0,[],k-1⟩::(D++[⟨4,0,r.1,0⟩]):=by simp
 rw[AN rfl,W2 (by rw[AfK,AfJ,Agq];omega),e0,O2];rcases hV with⟨f,s2,q1,q2,q3⟩ | ⟨q1,q',q2⟩
 ·have ec:(x16++⟨6,0,[],k-1⟩::(D++[⟨4,0,r.1,0⟩]))++f.flat.map Dk=x16++⟨6,0,[],k-1⟩::(D++([⟨4,0,r.1,0⟩]++f.flat.map Dk)):=by simp
  rw[ec] at q3;rw[q3,Bs rfl,AN (p:=!true) rfl];have hin:CY (x16.length:Int) (((x16++(⟨6,0,[],k-1⟩:Ab)::(D++([⟨4,0,r.1,0⟩]++f.flat.map Dk))).length:Nat):Int)=true:=Qw (by omega) (by rw[AfK,AfJ];omega);have e1:(true,DH S s2 (x16++⟨6,0,[],k-1⟩::(D++([⟨4,0,r.1,0⟩]++f.flat.map Dk))) (g||f.flat.any C0)).2.fCells=x16++⟨6,0,[],k-1⟩::(D++([⟨4,0,r.1,0⟩]++f.flat.map Dk)):=rfl;rw[e1,Cq hin,Abm,VK,GD];have e2:Az.mk (true,DH S s2 (x16++⟨6,0,[],k-1⟩::(D++([⟨4,0,r.1,0⟩]++f.flat.map Dk))) (g||f.flat.any C0)).2.fS (true,DH S s2 (x16++⟨6,0,[],k-1⟩::(D++([⟨4,0,r.1,0⟩]++f.flat.map Dk))) (g||f.flat.any C0)).2.fAt (x16++⟨6,0,[],k⟩::(D++([⟨4,0,r.1,0⟩]++f.flat.map Dk))) (true,DH S s2 (x16++⟨6,0,[],k-1⟩::(D++([⟨4,0,r.1,0⟩]++f.flat.map Dk))) (g||f.flat.any C0)).2.fGreat=DH S s2 (x16++⟨6,0,[],k⟩::(D++([⟨4,0,r.1,0⟩]++f.flat.map Dk))) (g||f.flat.any C0):=rfl;rw[e2,Dp hS q2,Mv]
  cases s2 with
  | nil=>
   simp only;rw[Bs rfl,AN rfl,Dp hS q2,Mv];exact .inl ⟨_,rfl,.inr ⟨f,[],q1,λc s3 e=>by cases e⟩⟩
  | cons c s3=>
   simp only
   cases ha:decide (c=125) with
   | true=>
    simp only[AfF] at ha;subst ha;exact .inr ⟨f,_,q1,q2,.inl ⟨s3,rfl,rfl⟩⟩
   | false=>
    simp only[AfH];rw[Bs rfl,AN rfl,Dp hS q2,Mv];simp only
    cases hb:decide (c=44) with
    | true=>
     simp only[AfF] at hb;subst hb;simp only[AfL];rw[Bs rfl,AN (p:=!true) rfl,Ba (by omega) (by omega)];exact .inr ⟨f,_,q1,q2,.inr ⟨s3,rfl,rfl⟩⟩
    | false=>
     exact .inl ⟨_,rfl,.inr ⟨f,_,q1,λc' s3' e=>by cases e;exact⟨ha,hb⟩⟩⟩
 ·rw[q2,Bs rfl];exact .inl ⟨q',rfl,.inl q1⟩
def AdS (t:Ai):Ai→Option (Option Ai×Ai)
 | []=>none
 | d::u'=>bif decide (d=58) then some (some t,u') else none
theorem Wl (b:Bool)(last:Option Ai)(r:Ai):Gb b true last (34::r)=match Dt b r with
  | none=>none
  | some (k,u)=>bif b&&!BG true last (some k) then none else AdS k u:=by
 show(match Dt b r with
   | none=>none
   | some (k,u)=>bif b&&!BG true last (some k) then none else(match u with
    | []=>none
    | d::u'=>bif decide (d=58) then some (some k,u') else none))=_
 cases Dt b r with
 | none=>rfl
 | some q=>obtain⟨k,u⟩:=q;cases u<;>rfl
theorem Acp (b:Bool)(last:Option Ai){u:Ai}(h:∀r,u=34::r→Dt b r=none):Gb b true last u=none:=by
 cases u with
 | nil=>rfl
 | cons c r=>
  by_cases hc:c=34
  ·subst hc;rw[Wl,h r rfl]
  ·show(bif decide (c=34) then _ else none)=none;rw[AfG hc];rfl
theorem Rg {F:Nat}{S w t:Ai}{x16 cs:List Ab}{k:Int}{g:Bool}(b1 b2:Bool)(hS:S.length≤100000)(hw:Ix w S) :
  (∃q',Bq (Em (t,true,DH S w cs g).2.2 ([58]:Ai)) (λha=>C9 (CJ F) x16 k (t,true,DH S w cs g) b1 b2 (!ha.1) ha.2.fS ha.2.fAt ha.2.fCells ha.2.fGreat)=some (.out (.ret (false,q')))∧AdS t w=none)∨
  ∃s1,w=58::s1∧AdS t w=some (some t,s1)∧Bq (Em (t,true,DH S w cs g).2.2 ([58]:Ai)) (λha=>C9 (CJ F) x16 k (t,true,DH S w cs g) b1 b2 (!ha.1) ha.2.fS ha.2.fAt ha.2.fCells ha.2.fGreat)=C9 (CJ F) x16 k (t,true,DH S w cs g) b1 b2 false S ((S.length:Int)-s1.length) cs g:=by
 rw[show(t,true,DH S w cs g).2.2=DH S w cs g from rfl,Dp hS hw,Mv]
 cases w with
 | nil=>exact .inl ⟨_,rfl,rfl⟩
 | cons d s1=>
  by_cases hd:d=58
  ·subst hd;exact .inr ⟨s1,rfl,rfl,rfl⟩
  ·simp only[AfG hd,AfH];refine .inl ⟨_,rfl,?_⟩;show(bif decide (d=58) then _ else none)=none;rw[AfG hd];rfl
theorem Aci {F:Nat}{S u last:Ai}{x16 cs:List Ab}{k:Int}{g:Bool}(hS:S.length≤100000)(hs:Ix u S)(hF:S.length<F) :
  (Gb true true (bif decide (1<k) then some last else none) u=none∧∃q',LB3 F x16 (last,k,S,(S.length:Int)-u.length,cs,g)=some (.out (.ret (false,q'))))∨
  ∃t s1 b1 b2 q0,Gb true true (bif decide (1<k) then some last else none) u=some (some t,s1)∧Ix s1 S∧s1.length+2≤u.length∧LB3 F x16 (last,k,S,(S.length:Int)-u.length,cs,g)=C9 (CJ F) x16 k (t,true,q0) b1 b2 false S ((S.length:Int)-s1.length) cs g:=by
 have hb:LB3 F x16 (last,k,S,(S.length:Int)-u.length,cs,g)=ET F (CJ F) x16 last k S ((S.length:Int)-u.length) cs g:=rfl;rw[hb];unfold ET;rw[O2];rcases SY (cs:=cs) (g:=g) hS hs hF with⟨r,t,w,q1,q2,q3,q4⟩ | ⟨q1,q',q2⟩
 ·rw[q4,Bs rfl,AN (p:=!true) rfl];subst q1;have hok:=AbE _ r t w rfl q2;have hwl:=Kl true _ r t w rfl q2;rw[Wl,q2];simp only[AfT]
  cases h1:decide (1<k) with
  | true=>
   rw[AZ rfl];simp only[AfL];have hko:BG true (some last) (some t) = !(Cz t last||decide (t=last)):=by simp[BG,hok]
   rw[hko,Bool.not_not]
   cases hlt:(Cz t last||decide (t=last)) with
   | true=>
    rw[AZ rfl];exact .inl ⟨rfl,_,rfl⟩
   | false=>
    rw[AN rfl];simp only[AfH];rcases Rg (F:=F) (cs:=cs) (g:=g) (x16:=x16) (k:=k) (t:=t) false false hS q3 with⟨q',c1,c2⟩ | ⟨s1,c1,c2,c3⟩
    ·exact .inl ⟨c2,q',c1⟩
    ·subst c1;exact .inr ⟨t,s1,false,false,DH S (58::s1) cs g,c2,q3.tail,by simp only[AfJ] at hwl ⊢;omega,c3⟩
  | false=>
   rw[AN rfl];simp only[AfH];have hko:BG true none (some t)=true:=by simp[BG,hok]
   rw[hko];simp only[AfR,AfH];rcases Rg (F:=F) (cs:=cs) (g:=g) (x16:=x16) (k:=k) (t:=t) false false hS q3 with⟨q',c1,c2⟩ | ⟨s1,c1,c2,c3⟩
   ·exact .inl ⟨c2,q',c1⟩
   ·subst c1;exact .inr ⟨t,s1,false,false,DH S (58::s1) cs g,c2,q3.tail,by simp only[AfJ] at hwl ⊢;omega,c3⟩
 ·rw[q2,Bs rfl];exact .inl ⟨Acp _ _ q1,_,rfl⟩
def Yp (b:Bool)(F:Nat)(m:Bool):Ai→Option (Fo×Ai)
 | []=>none
 | d::r'=>bif decide (d=Cl m) then some (nd m .nil,r') else(match Eb b F m none (d::r') with
  | none=>none
  | some (g,u)=>some (nd m g,u))
theorem Ll (b:Bool)(F:Nat)(m:Bool)(d:UInt8)(r':Ai):Yp b F m (d::r')=bif decide (d=Cl m) then some (nd m .nil,r') else(match Eb b F m none (d::r') with
  | none=>none
  | some (g,u)=>some (nd m g,u)):=rfl
theorem UM (b:Bool)(F:Nat)(r:Ai)(m:Bool):GK b (F+1) ((bif m then 123 else 91)::r)=Yp b F m r:=by
 rw[Ea]
 cases m<;>cases r<;>rfl
theorem Aar {S:Ai}(hS:S.length≤100000):∀n:Nat,
  (∀(F P:Nat) (u:Ai) (cs:List Ab) (g:Bool),u.length=n→Ix u S→S.length+n+5<F→2*n+2≤P→cs.length+n≤S.length→VOk F P S u cs g)∧
  (∀(F P L:Nat) (u:Ai) (x16 D:List Ab) (k:Int) (g:Bool),u.length=n→Ix u S→S.length+n+5<F→2*n+3≤P→n<L→x16.length+1+D.length+n≤S.length→1≤k→k+n≤S.length+1→∃o,Ci (LB2 F x16) L (k,S,(S.length:Int)-u.length,x16++⟨5,0,[],k-1⟩::D,g)=some o∧Y1 P false none S u x16 D k g o)∧
  (∀(F P L:Nat) (u last:Ai) (x16 D:List Ab) (k:Int) (g:Bool),u.length=n→Ix u S→S.length+n+5<F→2*n+3≤P→n<L→x16.length+1+D.length+n≤S.length→1≤k→k+n≤S.length+1→∃o,Ci (LB3 F x16) L (last,k,S,(S.length:Int)-u.length,x16++⟨6,0,[],k-1⟩::D,g)=some o∧Y1 P true (bif decide (1<k) then some last else none) S u x16 D k g o):=by
 intro n
 induction n using Nat.strongRecOn with
 | ind n ih=>
 have hV:∀(F P:Nat) (u:Ai) (cs:List Ab) (g:Bool),u.length=n→Ix u S→S.length+n+5<F→2*n+2≤P→cs.length+n≤S.length→VOk F P S u cs g:=by
  intro F P u cs g hn hs hF hP hcs;obtain⟨F,rfl⟩:∃K,F=K+1:=⟨F-1,by omega⟩
  obtain⟨P,rfl⟩:∃K,P=K+1:=⟨P-1,by omega⟩
  unfold VOk;rw[CJ];unfold Mg;rw[Dp hS hs,Mv];have hsc:(∀c r,u=c::r→(decide (c=91)||decide (c=123))=false)→∀r1:Bool×Az,(∃f w,GK true (P+1) u=some (f,w)∧Ix w S∧En F (CJ F) r1 true S ((S.length:Int)-u.length) cs g=some (true,DH S w (cs++f.flat.map Dk) (g||f.flat.any C0)))∨(GK true (P+1) u=none∧∃q',En F (CJ F) r1 true S ((S.length:Int)-u.length) cs g=some (false,q')):=λhc r1=>by
   rw[Z4 true P hc];unfold En;rw[AZ rfl,O2];rcases SZ (F:=F) (cs:=cs) (g:=g) hS hs (by omega) (by omega) with⟨f,w,q1,q2,q3⟩ | ⟨q1,q',q2⟩
   ·rw[q3,Bs rfl];exact .inl ⟨f,w,q1,q2,rfl⟩
   ·rw[q2,Bs rfl];exact .inr ⟨q1,q',rfl⟩
  have hsl:=hs.len
  cases u with
  | nil=>
   simp only;rw[Bs rfl,AZ (p:=!false) rfl,show(false,DH S [] cs g).2=DH S [] cs g from rfl,Dp hS hs,Mv,Bs rfl];exact hsc (λc r e=>by cases e) _
  | cons c r=>
   simp only[AfJ] at hn hsl;simp only;have hbr:∀m:Bool,c=(bif m then 123 else 91)→∀body:Option (Bool×Az),body=(Bd (Dz 40 (cs.length+([⟨bif m then 6 else 5,0,[],0⟩]:List Ab).length))<|Bq (Em (DH S r (cs++[⟨bif m then 6 else 5,0,[],0⟩]) g) ([Cl m]:Ai)) λha=>Bw ha.1 (some (true,ha.2)) (bif m then Bq (Ci (LB3 F cs) F ([],1,ha.2.fS,ha.2.fAt,ha.2.fCells,ha.2.fGreat)) (BO λ_=>HT) else Bq (Ci (LB2 F cs) F (1,ha.2.fS,ha.2.fAt,ha.2.fCells,ha.2.fGreat)) (BO λ_=>HU)))→
     (∃f w,GK true (P+1) (c::r)=some (f,w)∧Ix w S∧body=some (true,DH S w (cs++f.flat.map Dk) (g||f.flat.any C0)))∨(GK true (P+1) (c::r)=none∧∃q',body=some (false,q')):=λm hc body hbody=>by
    rw[hbody,hc,UM,W2 (by rw[Agq];omega),Dp hS hs.tail,Mv];have hfh:Dk ⟨bif m then 6 else 5,0,[],0⟩=⟨bif m then 6 else 5,0,[],0⟩∧∀N,C0 ⟨bif m then 6 else 5,0,[],N⟩=false:=by cases m<;>exact⟨rfl,λ_=>rfl⟩
    have hfn:∀N,Dk ⟨bif m then 6 else 5,0,[],N⟩=⟨bif m then 6 else 5,0,[],N⟩:=λN=>by cases m<;>rfl
    have hloop:∀o:Out (Bool×Az) Unit,Y1 P m none S r cs [] 1 g o→(r=[]∨∃d r',r=d::r'∧decide (d=Cl m)=false)→
      (∃f w,Yp true P m r=some (f,w)∧Ix w S∧o = .ret (true,DH S w (cs++f.flat.map Dk) (g||f.flat.any C0)))∨(Yp true P m r=(none:Option (Fo×Ai))∧∃q',o = .ret (false,q')):=λo ho hr=>by
     rcases hr with rfl | ⟨d,r',rfl,hd⟩
     ·rcases ho with⟨G,w,q1,_,_⟩ | ⟨_,q2⟩
      ·exact absurd ((ER true P).2 _ _ _ _ _ q1).1 (by simp)
      ·exact .inr ⟨rfl,q2⟩
     ·rw[Ll,hd];simp only[AfH];rcases ho with⟨G,w,q1,q2,q3⟩ | ⟨q1,q2⟩
      ·rw[q1];refine .inl ⟨_,w,rfl,q2,?_⟩;rw[q3,KZ _ _ JE,Ag3,List.any_cons,hfn,hfh.2,AfW,Agz,show(1:Int)-1+(G.cnt:Int)=G.cnt from by omega]
      ·rw[q1];exact .inr ⟨rfl,q2⟩
    have hrest:(r=[]∨∃d r',r=d::r'∧decide (d=Cl m)=false)→(∃f w,Yp true P m r=some (f,w)∧Ix w S∧(bif m then Bq (Ci (LB3 F cs) F ([],1,S,(S.length:Int)-r.length,cs++[⟨bif m then 6 else 5,0,[],0⟩],g)) (BO λ_=>HT) else Bq (Ci (LB2 F cs) F (1,S,(S.length:Int)-r.length,cs++[⟨bif m then 6 else 5,0,[],0⟩],g)) (BO λ_=>HU))=some (true,DH S w (cs++f.flat.map Dk) (g||f.flat.any C0)))∨(Yp true P m r=(none:Option (Fo×Ai))∧∃q',(bif m then Bq (Ci (LB3 F cs) F ([],1,S,(S.length:Int)-r.length,cs++[⟨bif m then 6 else 5,0,[],0⟩],g)) (BO λ_=>HT) else Bq (Ci (LB2 F cs) F (1,S,(S.length:Int)-r.length,cs++[⟨bif m then 6 else 5,0,[],0⟩],g)) (BO λ_=>HU))=some (false,q')):=λhr=>by
     cases m with
     | true=>
      obtain⟨o,ho1,ho2⟩:=(ih r.length (by omega)).2.2 F P F r [] cs [] 1 g rfl hs.tail (by omega) (by omega) (by omega) (by simp;omega) (by decide) (by omega);simp only[AfL];have ho1':Ci (LB3 F cs) F ([],1,S,(S.length:Int)-r.length,cs++[⟨6,0,[],0⟩],g)=some o:=ho1;rw[Bs ho1'];rcases hloop o ho2 hr with⟨f,w,q1,q2,q3⟩ | ⟨q1,q',q2⟩
      ·exact .inl ⟨f,w,q1,q2,O0 q3⟩
      ·exact .inr ⟨q1,q',O0 q2⟩
     | false=>
      obtain⟨o,ho1,ho2⟩:=(ih r.length (by omega)).2.1 F P F r cs [] 1 g rfl hs.tail (by omega) (by omega) (by omega) (by simp;omega) (by decide) (by omega);simp only[AfH];have ho1':Ci (LB2 F cs) F (1,S,(S.length:Int)-r.length,cs++[⟨5,0,[],0⟩],g)=some o:=ho1;rw[Bs ho1'];rcases hloop o ho2 hr with⟨f,w,q1,q2,q3⟩ | ⟨q1,q',q2⟩
      ·exact .inl ⟨f,w,q1,q2,O0 q3⟩
      ·exact .inr ⟨q1,q',O0 q2⟩
    cases r with
    | nil=>
     simp only;rw[Bs rfl,AN rfl];exact hrest (.inl rfl)
    | cons d r'=>
     simp only
     cases hd:decide (d=Cl m) with
     | true=>
      simp only[AfL];rw[Bs rfl,AZ rfl];refine .inl ⟨_,r',by rw[Ll,hd];rfl,hs.tail.tail,?_⟩;rw[KZ _ _ JE];simp only[Fo.flat,Fo.cnt,Ag3,List.map_nil,List.any_cons,List.any_nil,Agi];rw[show((0:Nat):Int)=0 from rfl,hfh.1,hfh.2,Agi]
     | false=>
      simp only[AfH];rw[Bs rfl,AN rfl];exact hrest (.inr ⟨d,r',rfl,hd⟩)
   cases he:decide (c=91) with
   | true=>
    simp only[AfF] at he;simp only[AfL];rw[Bs rfl,AN (p:=!true) rfl];exact hbr false he _ rfl
   | false=>
    simp only[AfH];rw[Bs rfl,AZ (p:=!false) rfl,show(false,DH S (c::r) cs g).2=DH S (c::r) cs g from rfl,Dp hS hs,Mv];simp only
    cases hg:decide (c=123) with
    | true=>
     simp only[AfF] at hg;simp only[AfL];rw[Bs rfl];exact hbr true hg _ rfl
    | false=>
     simp only[AfH];rw[Bs rfl];exact hsc (λc' r' e=>by cases e;rw[he,hg];rfl) _
 refine⟨hV,?_,?_⟩
 ·intro F P L u x16 D k g hn hs hF hP hL hb hk1 hk2;obtain⟨P,rfl⟩:∃K,P=K+1:=⟨P-1,by omega⟩
  obtain⟨L,rfl⟩:∃K,L=K+1:=⟨L-1,by omega⟩
  have hsl:=hs.len;have hv:=hV F P u (x16++⟨5,0,[],k-1⟩::D) g hn hs hF (by omega) (by simp;omega);have hkp:Gb true false none u=some (none,u):=rfl;rcases Vd hS hs hk1 (by omega) hv with⟨q',hb1,hf⟩ | ⟨f,s2,q1,q2,h⟩
  ·refine⟨_,Gq hb1,?_⟩;rcases hf with hf | ⟨f,s2,hf,hno⟩
   ·refine .inr ⟨?_,q',rfl⟩;rw[DG,hkp];simp only[hf]
   ·exact Y1.join hkp hf ((ER true P).1 _ _ _ hf).2 (.inr (.inr ⟨hno,q',rfl⟩))
  ·obtain⟨l1,ho⟩:=(ER true P).1 _ _ _ q1;have l2:=(Jb true P).1 _ _ _ q1;rcases h with⟨s3,e,hb1⟩ | ⟨s3,e,hb1⟩
   ·subst e;exact⟨_,Gq hb1,Y1.join hkp q1 ho (.inl ⟨s3,rfl,q2.tail,rfl⟩)⟩
   ·subst e;simp only[AfJ] at l1 l2;obtain⟨o,ho1,ho2⟩:=(ih s3.length (by omega)).2.1 F P L s3 x16 (D++f.flat.map Dk) (k+1) (g||f.flat.any C0) rfl q2.tail (by omega) (by omega) (by omega) (by rw[AfK,AfP];omega) (by omega) (by omega);rw[show k+1-1=k from by omega] at ho1;exact⟨o,M6 hb1 ho1,Y1.join hkp q1 ho (.inr (.inl ⟨s3,rfl,ho2⟩))⟩
 ·intro F P L u last x16 D k g hn hs hF hP hL hb hk1 hk2;obtain⟨P,rfl⟩:∃K,P=K+1:=⟨P-1,by omega⟩
  obtain⟨L,rfl⟩:∃K,L=K+1:=⟨L-1,by omega⟩
  have hsl:=hs.len;rcases Aci (last:=last) (x16:=x16) (cs:=x16++⟨6,0,[],k-1⟩::D) (k:=k) (g:=g) hS hs (F:=F) (by omega) with⟨hk,q',hb1⟩ | ⟨t,s1,b1,b2,q0,hk,hs1,hl1,hb0⟩
  ·refine⟨_,Gq hb1,.inr ⟨?_,q',rfl⟩⟩;rw[DG,hk]
  ·have hv:=(ih s1.length (by omega)).1 F P s1 (x16++⟨6,0,[],k-1⟩::(D++[⟨4,0,t,0⟩])) g rfl hs1 (by omega) (by omega) (by simp;omega);rcases Aaj (r:=(t,true,q0)) (b1:=b1) (b2:=b2) hS hs1 hk1 (by omega) (by omega) hv with⟨q',hb1,hf⟩ | ⟨f,s2,q1,q2,h⟩
   ·refine⟨_,Gq (hb0.trans hb1),?_⟩;rcases hf with hf | ⟨f,s2,hf,hno⟩
    ·refine .inr ⟨?_,q',rfl⟩;rw[DG,hk];simp only[hf]
    ·exact Y1.join hk hf ((ER true P).1 _ _ _ hf).2 (.inr (.inr ⟨hno,q',rfl⟩))
   ·obtain⟨l1,ho⟩:=(ER true P).1 _ _ _ q1;have l2:=(Jb true P).1 _ _ _ q1;rcases h with⟨s3,e,hb1⟩ | ⟨s3,e,hb1⟩
    ·subst e;exact⟨_,Gq (hb0.trans hb1),Y1.join hk q1 ho (.inl ⟨s3,rfl,q2.tail,rfl⟩)⟩
    ·subst e;simp only[AfJ] at l1 l2;obtain⟨o,ho1,ho2⟩:=(ih s3.length (by omega)).2.2 F P L s3 t x16 (D++([⟨4,0,t,0⟩]++f.flat.map Dk)) (k+1) (g||f.flat.any C0) rfl q2.tail (by omega) (by omega) (by omega) (by rw[AfK,AfK,AfP,Agq];omega) (by omega) (by omega);rw[show k+1-1=k from by omega] at ho1;rw[show decide (1<k+1)=true from AfI (by omega)] at ho2;exact⟨o,M6 (hb0.trans hb1) ho1,Y1.join hk q1 ho (.inr (.inl ⟨s3,rfl,ho2⟩))⟩
theorem U8 {S:Ai}(hS:S.length≤100000){F P:Nat}(hF:2*S.length+6≤F)(hP:2*S.length+2≤P):VOk F P S S [] false:=
 (Aar hS S.length).1 F P S [] false rfl ⟨[],rfl⟩ (by omega) hP (by simp)
theorem Ace:∀(d:Ai),d.all Cs=true→Du 0 d<10 ^ d.length:=by
 have key:∀(d:Ai) (a m:Nat),d.all Cs=true→a<10 ^ m→Du a d<10 ^ (m+d.length):=by
  intro d
  induction d with
  | nil=>intro a m _ h;simpa[Du] using h
  | cons c d ih=>
   intro a m hd h;simp only[Agu,AfM] at hd;have hc:48≤c.toNat∧c.toNat≤57:=by have:=hd.1;simp[Cs] at this;omega
   have:=ih (10*a+(c.toNat-48)) (m+1) hd.2 (by rw[Nat.pow_succ];omega);rw[AfJ,show m+(d.length+1)=m+1+d.length from by omega];exact this
 intro d hd;have:=key d 0 0 hd (by decide);simpa using this
theorem Acc {d:Ai}(hd:d.all Cs=true)(hl:d.length≤18):0≤Qs d∧Qs d<1000000000000000000:=by
 have h1:Qs d=(Du 0 d:Int):=Kw d 0 hd;have h2:=Ace d hd;have h3:10 ^ d.length≤10 ^ 18:=Nat.pow_le_pow_right (by decide) hl;have:(10:Nat) ^ 18=1000000000000000000:=by decide
 omega
def hd (m:Bool)(N:Int):Ab:=⟨bif m then 6 else 5,0,[],N⟩
theorem Ti:∀(n:Nat) (s:Ai),s.length=n→Dt true s=match Dt false s with
  | none=>none
  | some (t,u)=>bif t.all Lp then some (t,u) else none:=by
 intro n
 induction n using Nat.strongRecOn with
 | ind n ih=>
  intro s hn
  cases s with
  | nil=>rfl
  | cons c r=>
   simp only[AfJ] at hn;rw[Ef,Ef]
   cases h1:decide (c=34) with
   | true=>rfl
   | false=>
    simp only[AfH,AfT,Agc]
    cases h3:decide (c=92) with
    | true=>
     have hc:Lp c=true:=by simp only[AfF] at h3;subst h3;rfl
     rw[hc]
     cases r with
     | nil=>rfl
     | cons d r'=>
      simp only[AfR,AfH,AfL];simp only[AfJ] at hn
      cases h4:(decide (d=34)||decide (d=92)) with
      | false=>rfl
      | true=>
       have hd:Lp d=true:=by
        simp only[Agv,AfF] at h4;rcases h4 with e | e<;>subst e<;>rfl
       simp only[AfL];rw[ih r'.length (by omega) r' rfl]
       cases Dt false r' with
       | none=>rfl
       | some q=>
        obtain⟨t,u⟩:=q;simp only[Agu,hd,AfT]
        cases t.all Lp<;>rfl
    | false=>
     simp only[AfH];rw[ih r.length (by omega) r rfl]
     cases hc:Lp c with
     | false=>
      simp only[Agh,AfL]
      cases Dt false r with
      | none=>rfl
      | some q=>obtain⟨t,u⟩:=q;simp[hc]
     | true=>
      simp only[AfR,AfH]
      cases Dt false r with
      | none=>rfl
      | some q=>
       obtain⟨t,u⟩:=q;simp only[Agu,hc,AfT]
       cases t.all Lp<;>rfl
theorem Aaw (m:Bool)(last:Option Ai)(s:Ai):Gb true m last s=match Gb false m none s with
  | none=>none
  | some (k,u)=>bif BG m last k then some (k,u) else none:=by
 cases m with
 | false=>rfl
 | true=>
  cases s with
  | nil=>rfl
  | cons c r=>
   unfold Gb;simp only[AfL,AfT,Agc,AfH]
   cases hc:decide (c=34) with
   | false=>rfl
   | true=>
    simp only[AfL];rw[Ti _ r rfl]
    cases Dt false r with
    | none=>rfl
    | some q=>
     obtain⟨t,u⟩:=q;simp only
     cases ht:t.all Lp with
     | false=>
      have hk:BG true last (some t)=false:=by simp[BG,ht]
      simp only[AfH]
      cases u with
      | nil=>rfl
      | cons d u'=>
       simp only
       cases decide (d=58) with
       | false=>rfl
       | true=>simp only[AfL,hk];rfl
     | true=>
      simp only[AfL]
      cases u with
      | nil=>cases BG true last (some t)<;>rfl
      | cons d u'=>
       simp only
       cases decide (d=58) with
       | false=>cases BG true last (some t)<;>rfl
       | true=>cases hk:BG true last (some t)<;>simp[hk]
def plr (c:Ab):Bool:=bif decide (c.fKind=4) then decide (c.fInt=0)&&decide (c.fN=0) else pl c
def Fo.rw:Bool→Fo→Bool
 | _,.nil=>true
 | m,.cell k c r=>(k.isSome ==m)&&plr c&&!decide (0<c.fN)&&r.rw m
 | m,.node k c kids r=>(k.isSome ==m)&&plr c&&decide (0<c.fN)&&decide (c.fN=kids.cnt)&&kids.rw (decide (c.fKind=6))&&r.rw m
theorem Zv {f:Fo}(h:f.one=true)(m:Bool)(last key:Option Ai)(r:Fo):(f.put key r).wf m last=(BG m last key&&f.wf false none&&r.wf m key):=by
 cases f with
 | nil=>cases h
 | cell k c r'=>
  cases k with
  | some _=>cases h
  | none=>cases r' with
   | nil=>simp[Fo.put,Fo.wf,BG,Bool.and_assoc]
   | cell _ _ _=>cases h
   | node _ _ _ _=>cases h
 | node k c kids r'=>
  cases k with
  | some _=>cases h
  | none=>cases r' with
   | nil=>simp[Fo.put,Fo.wf,BG,Bool.and_assoc]
   | cell _ _ _=>cases h
   | node _ _ _ _=>cases h
theorem Zw {f:Fo}(h:f.one=true)(m:Bool)(key:Option Ai)(r:Fo):(f.put key r).rw m=((key.isSome ==m)&&f.rw false&&r.rw m):=by
 cases f with
 | nil=>cases h
 | cell k c r'=>
  cases k with
  | some _=>cases h
  | none=>cases r' with
   | nil=>simp[Fo.put,Fo.rw,Bool.and_assoc]
   | cell _ _ _=>cases h
   | node _ _ _ _=>cases h
 | node k c kids r'=>
  cases k with
  | some _=>cases h
  | none=>cases r' with
   | nil=>simp[Fo.put,Fo.rw,Bool.and_assoc]
   | cell _ _ _=>cases h
   | node _ _ _ _=>cases h
theorem We (m:Bool)(g:Fo):(nd m g).wf false none=g.wf m none∧(nd m g).rw false=g.rw m:=by
 unfold nd
 cases hd:decide (g.cnt=0) with
 | true=>
  simp only[AfF] at hd;rw[JE hd]
  cases m<;>exact⟨rfl,rfl⟩
 | false=>
  simp only[AfE] at hd;have h1:decide ((0:Int)<(g.cnt:Int))=true:=AfI (by omega);have h2:decide ((0:Int)≤(g.cnt:Int))=true:=AfI (by omega)
  cases m<;>simp[Fo.wf,Fo.rw,BG,pl,plr]<;>omega
theorem XK {m:Bool}{last k:Option Ai}{s u:Ai}{b:Bool}(h:Gb b m last s=some (k,u)):(k.isSome ==m)=true:=by
 unfold Gb at h
 cases m with
 | false=>cases h;rfl
 | true=>
  simp only[AfL] at h
  cases s with
  | nil=>cases h
  | cons c r=>
   simp only at h
   cases h1:decide (c=34) with
   | false=>rw[h1] at h;cases h
   | true=>
    rw[h1] at h;simp only[AfL] at h
    cases h2:Dt b r with
    | none=>rw[h2] at h;cases h
    | some q=>
     obtain⟨t,w⟩:=q;rw[h2] at h;simp only at h
     cases h3:(b&&!BG true last (some t)) with
     | true=>rw[h3] at h;cases h
     | false=>
      rw[h3] at h;simp only[AfH] at h
      cases w with
      | nil=>cases h
      | cons d w'=>
       simp only at h
       cases h4:decide (d=58) with
       | false=>rw[h4] at h;cases h
       | true=>rw[h4] at h;cases h;rfl
theorem Se:∀F:Nat,(∀s,GK true F s=(match GK false F s with
   | none=>none
   | some (f,u)=>bif f.wf false none then some (f,u) else none)∧∀f u,GK false F s=some (f,u)→f.rw false=true)∧
  (∀m last last' s,Eb true F m last s=(match Eb false F m last' s with
   | none=>none
   | some (g,u)=>bif g.wf m last then some (g,u) else none)∧∀g u,Eb false F m last' s=some (g,u)→g.rw m=true)
 | 0=>⟨λs=>⟨by rw[GK.eq_def,GK.eq_def],(λf u h=>by rw[GK.eq_def] at h;cases h)⟩,λm last last' s=>⟨by rw[Eb.eq_def,Eb.eq_def],(λg u h=>by rw[Eb.eq_def] at h;cases h)⟩⟩
 | F+1=>by
  obtain⟨ih1,ih2⟩:=Se F;have lfw:∀k i t,pl ⟨k,i,t,0⟩=true→(lf k i t).wf false none=true:=λk i t h=>by simp[lf,Fo.wf,BG,h]
  have lfr:∀k i t,plr ⟨k,i,t,0⟩=true→(lf k i t).rw false=true:=λk i t h=>by simp[lf,Fo.rw,h]
  constructor
  ·intro s;rw[Ea,Ea]
   cases h1:pre [110,117,108,108] s with
   | some r=>exact⟨rfl,λf u h=>by cases h;rfl⟩
   | none=>
   simp only
   cases h2:pre [116,114,117,101] s with
   | some r=>exact⟨rfl,λf u h=>by cases h;rfl⟩
   | none=>
   simp only
   cases h3:pre [102,97,108,115,101] s with
   | some r=>exact⟨rfl,λf u h=>by cases h;rfl⟩
   | none=>
   simp only
   cases s with
   | nil=>exact⟨rfl,λf u h=>by cases h⟩
   | cons c r=>
   simp only
   cases h4:decide (c=34) with
   | true=>
    simp only[AfL];rw[Ti _ r rfl]
    cases hq:Dt false r with
    | none=>exact⟨rfl,λf u h=>by cases h⟩
    | some q=>
     obtain⟨t,u⟩:=q;simp only;have e:(lf 4 0 t).wf false none=t.all Lp:=by simp[lf,Fo.wf,BG,pl]
     rw[e];refine⟨by cases t.all Lp<;>rfl,λf u' h=>by cases h;exact lfr 4 0 t rfl⟩
   | false=>
   simp only[AfH]
   cases h5:(decide (c=91)||decide (c=123)) with
   | false=>
    simp only[AfH]
    cases hi:Ji (c::r) with
    | none=>exact⟨rfl,λf u h=>by cases h⟩
    | some q=>
     obtain⟨f,u⟩:=q;have hf:f.wf false none=true∧f.rw false=true:=by
      unfold Ji at hi;simp only at hi
      cases hc:Gv (decide ((c::r).head? =some 45)) (Db (bif decide ((c::r).head? =some 45) then(c::r).tail else c::r)).1 with
      | false=>rw[hc] at hi;cases hi
      | true=>rw[hc] at hi;cases hi;exact⟨rfl,rfl⟩
     refine⟨by simp only[hf.1];rfl,λf' u' h=>by cases h;exact hf.2⟩
   | true=>
   simp only[AfL]
   cases r with
   | nil=>exact⟨rfl,λf u h=>by cases h⟩
   | cons d r'=>
   simp only
   cases h6:decide (d=Cl (decide (c=123))) with
   | true=>
    simp only[AfL,(We _ _).1,Fo.wf];exact⟨trivial,λf u h=>by cases h;rw[(We _ _).2];rfl⟩
   | false=>
   simp only[AfH];obtain⟨e1,e2⟩:=ih2 (decide (c=123)) none none (d::r');rw[e1]
   cases hq:Eb false F (decide (c=123)) none (d::r') with
   | none=>exact⟨rfl,λf u h=>by cases h⟩
   | some q=>
    obtain⟨g,u⟩:=q;simp only[(We _ _).1];refine⟨by cases g.wf (decide (c=123)) none<;>rfl,λf u' h=>by cases h;rw[(We _ _).2];exact e2 g u hq⟩
  ·intro m last last' s;rw[DG,DG,Aaw m last s];have hkl:Gb false m last' s=Gb false m none s:=by
    cases m with
    | false=>rfl
    | true=>unfold Gb;simp only[Agc]
   rw[hkl]
   cases hk:Gb false m none s with
   | none=>exact⟨rfl,λf u h=>by cases h⟩
   | some q=>
   obtain⟨key,s1⟩:=q;have hks:=XK hk;simp only;obtain⟨e1,e2⟩:=ih1 s1
   cases hf:GK false F s1 with
   | none=>
    rw[hf] at e1;refine⟨?_,λf u h=>by cases h⟩
    cases BG m last key with
    | false=>rfl
    | true=>simp only[AfL,e1]
   | some q=>
   obtain⟨f,s2⟩:=q;have ho:=((ER false F).1 _ _ _ hf).2;have hfr:=e2 f s2 hf;rw[hf] at e1;simp only at e1;simp only
   cases s2 with
   | nil=>
    refine⟨?_,λf u h=>by cases h⟩
    cases BG m last key with
    | false=>rfl
    | true=>simp only[AfL,e1];cases f.wf false none<;>rfl
   | cons c s3=>
   simp only
   cases h3:decide (c=Cl m) with
   | true=>
    simp only[AfL,Zv ho,Fo.wf,Agg];refine⟨?_,λg u h=>by cases h;rw[Zw ho,hks,hfr];rfl⟩
    cases BG m last key with
    | false=>rfl
    | true=>simp only[AfL,e1,AfT];cases f.wf false none<;>simp[h3]
   | false=>
   simp only[AfH]
   cases h4:decide (c=44) with
   | false=>
    refine⟨?_,λg u h=>by cases h⟩
    cases BG m last key with
    | false=>rfl
    | true=>simp only[AfL,e1];cases f.wf false none<;>simp[h3,h4]
   | true=>
   simp only[AfL];obtain⟨e3,e4⟩:=ih2 m key key s3
   cases hq:Eb false F m key s3 with
   | none=>
    rw[hq] at e3;refine⟨?_,λg u h=>by cases h⟩
    cases BG m last key with
    | false=>rfl
    | true=>simp only[AfL,e1];cases f.wf false none<;>simp[h3,h4,e3]
   | some q=>
    obtain⟨g,u⟩:=q;rw[hq] at e3;simp only at e3;simp only[Zv ho];refine⟨?_,λg' u' h=>by cases h;rw[Zw ho,hks,hfr,e4 g u hq];rfl⟩
    cases BG m last key with
    | false=>rfl
    | true=>
     simp only[AfL,e1,AfT]
     cases f.wf false none with
     | false=>rfl
     | true=>
      simp only[AfL,h3,h4,AfH,e3,AfT]
      cases g.wf m key<;>rfl
def K8 (K:Nat)(c:Ab):Prop:=c.fStr.length≤K∧Cb .i64 c.fInt=true∧c.fN≤(K:Int)
theorem K8.mono {K K':Nat}{c:Ab}(h:K8 K c)(hk:K≤K'):K8 K' c:=⟨by have:=h.1;omega,h.2.1,by have:=h.2.2;omega⟩
theorem QG (b:Bool):∀(n:Nat) (s t u:Ai),s.length=n→Dt b s=some (t,u)→t.length≤s.length:=by
 intro n
 induction n using Nat.strongRecOn with
 | ind n ih=>
  intro s t u hn h
  cases s with
  | nil=>cases h
  | cons c r=>
   simp only[AfJ] at hn ⊢;rw[Ef] at h
   cases h1:decide (c=34) with
   | true=>rw[h1] at h;cases h;simp
   | false=>
    rw[h1] at h;simp only[AfH] at h
    cases h2:(b&&!Lp c) with
    | true=>rw[h2] at h;cases h
    | false=>
     rw[h2] at h;simp only[AfH] at h
     cases h3:decide (c=92) with
     | true=>
      rw[h3] at h
      cases r with
      | nil=>cases h
      | cons d r'=>
       simp only[AfL] at h
       cases h4:(decide (d=34)||decide (d=92)) with
       | false=>rw[h4] at h;cases h
       | true=>
        rw[h4] at h;simp only[AfL] at h
        cases h5:Dt b r' with
        | none=>rw[h5] at h;cases h
        | some q=>
         obtain⟨t',u'⟩:=q;rw[h5] at h;cases h;simp only[AfJ] at hn ⊢;have:=ih r'.length (by omega) r' t' u rfl h5;omega
     | false=>
      rw[h3] at h;simp only[AfH] at h
      cases h5:Dt b r with
      | none=>rw[h5] at h;cases h
      | some q=>
       obtain⟨t',u'⟩:=q;rw[h5] at h;cases h;have:=ih r.length (by omega) r t' u rfl h5;simp only[AfJ];omega
theorem XJ {b m:Bool}{last:Option Ai}{s u:Ai}{t:Ai}(h:Gb b m last s=some (some t,u)):t.length≤s.length:=by
 unfold Gb at h
 cases m with
 | false=>cases h
 | true=>
  simp only[AfL] at h
  cases s with
  | nil=>cases h
  | cons c r=>
   simp only at h
   cases h1:decide (c=34) with
   | false=>rw[h1] at h;cases h
   | true=>
    rw[h1] at h;simp only[AfL] at h
    cases h2:Dt b r with
    | none=>rw[h2] at h;cases h
    | some q=>
     obtain⟨k,w⟩:=q;have:=QG b _ r k w rfl h2;rw[h2] at h;simp only at h
     cases h3:(b&&!BG true last (some k)) with
     | true=>rw[h3] at h;cases h
     | false=>
      rw[h3] at h;simp only[AfH] at h
      cases w with
      | nil=>cases h
      | cons d w'=>
       simp only at h
       cases h4:decide (d=58) with
       | false=>rw[h4] at h;cases h
       | true=>rw[h4] at h;cases h;simp only[AfJ];omega
theorem Aa0 (neg:Bool){d:Ai}(hd:d.all Cs=true):Cb .i64 (Lq neg d)=true:=by
 unfold Lq
 cases ha:decide (18<d.length) with
 | true=>
  cases neg with
  | true=>exact(by decide:Cb .i64 (-2000000000000)=true)
  | false=>exact(by decide:Cb .i64 2000000000000=true)
 | false=>
  simp only[AfE] at ha;have hb:=Acc hd (by omega)
  cases neg with
  | true=>exact Jj (by simp only[AfH,AfL];omega) (by simp only[AfH,AfL];omega)
  | false=>exact Jj (by simp only[AfH];omega) (by simp only[AfH];omega)
theorem ZZ {m:Bool}{g:Fo}{K:Nat}(hg:∀c∈g.flat,K8 K c)(hl:g.flat.length≤K):∀c∈(nd m g).flat,K8 K c:=λc hc=>by
 rw[KZ _ _ JE] at hc;have hcf:=Dx g;rcases List.mem_cons.1 hc with rfl | hc
 ·exact⟨Agn _,(by decide:Cb .i64 0=true),by show(g.cnt:Int)≤K;omega⟩
 ·exact hg c hc
theorem VQ {f r:Fo}{K:Nat}{key:Option Ai}(ho:f.one=true)(hf:∀c∈f.flat,K8 K c)(hr:∀c∈r.flat,K8 K c)(hk:∀t,key=some t→t.length≤K):∀c∈(f.put key r).flat,K8 K c:=λc hc=>by
 rw[Gz ho] at hc;rcases List.mem_append.1 hc with h | h
 ·cases key with
  | none=>cases h
  | some t=>
   have:c=⟨4,0,t,0⟩:=by simpa[BP] using h
   subst this;exact⟨hk t rfl,(by decide:Cb .i64 0=true),by show(0:Int)≤K;omega⟩
 ·rcases List.mem_append.1 h with h | h
  ·exact hf c h
  ·exact hr c h
theorem Nd (b:Bool)(K:Nat):∀F:Nat,(∀s f u,s.length≤K→GK b F s=some (f,u)→∀c∈f.flat,K8 K c)∧(∀m last s g u,s.length≤K→Eb b F m last s=some (g,u)→∀c∈g.flat,K8 K c)
 | 0=>⟨(λs f u _ h=>by rw[GK.eq_def] at h;cases h),(λm last s g u _ h=>by rw[Eb.eq_def] at h;cases h)⟩
 | F+1=>by
  obtain⟨ih1,ih2⟩:=Nd b K F;have lfc:∀k i t,t.length≤K→Cb .i64 i=true→∀c∈(lf k i t).flat,K8 K c:=λk i t ht hi c hc=>by
   have:c=⟨k,i,t,0⟩:=by simpa[lf,Fo.flat,BP] using hc
   subst this;exact⟨ht,hi,by show(0:Int)≤K;omega⟩
  constructor
  ·intro s f u hs h;rw[Ea] at h
   cases h1:pre [110,117,108,108] s with
   | some r=>rw[h1] at h;cases h;exact lfc _ _ _ (Agn _) (by decide)
   | none=>
   rw[h1] at h;simp only at h
   cases h2:pre [116,114,117,101] s with
   | some r=>rw[h2] at h;cases h;exact lfc _ _ _ (Agn _) (by decide)
   | none=>
   rw[h2] at h;simp only at h
   cases h3:pre [102,97,108,115,101] s with
   | some r=>rw[h3] at h;cases h;exact lfc _ _ _ (Agn _) (by decide)
   | none=>
   rw[h3] at h;simp only at h
   cases s with
   | nil=>cases h
   | cons c r=>
   simp only[AfJ] at hs;simp only at h
   cases h4:decide (c=34) with
   | true=>
    rw[h4] at h;simp only[AfL] at h
    cases h5:Dt b r with
    | none=>rw[h5] at h;cases h
    | some q=>
     obtain⟨t,w⟩:=q;rw[h5] at h;cases h;have:=QG b _ r t u rfl h5;exact lfc _ _ _ (by omega) (by decide)
   | false=>
   rw[h4] at h;simp only[AfH] at h
   cases h5:(decide (c=91)||decide (c=123)) with
   | false=>
    rw[h5] at h;simp only[AfH] at h;unfold Ji at h;simp only at h
    cases hc:Gv (decide ((c::r).head? =some 45)) (Db (bif decide ((c::r).head? =some 45) then(c::r).tail else c::r)).1 with
    | false=>rw[hc] at h;cases h
    | true=>
     rw[hc] at h;cases h;exact lfc 3 _ [] (Agn _) (Aa0 _ (MK _))
   | true=>
   rw[h5] at h;simp only[AfL] at h
   cases r with
   | nil=>cases h
   | cons d r'=>
   simp only at h
   cases h6:decide (d=Cl (decide (c=123))) with
   | true=>rw[h6] at h;cases h;exact ZZ (λc hc=>by cases hc) (Agn _)
   | false=>
   rw[h6] at h;simp only[AfH] at h
   cases h7:Eb b F (decide (c=123)) none (d::r') with
   | none=>rw[h7] at h;cases h
   | some q=>
    obtain⟨g,w⟩:=q;rw[h7] at h;cases h;have:=(Jb b F).2 _ _ _ _ _ h7;exact ZZ (ih2 _ _ _ _ _ (by omega) h7) (by omega)
  ·intro m last s g u hs h;rw[DG] at h
   cases h1:Gb b m last s with
   | none=>rw[h1] at h;cases h
   | some q=>
   obtain⟨key,s1⟩:=q;have l1:=TM h1;have hkt:∀t,key=some t→t.length≤K:=λt e=>by subst e;have:=XJ h1;omega
   rw[h1] at h;simp only at h
   cases h2:GK b F s1 with
   | none=>rw[h2] at h;cases h
   | some q=>
   obtain⟨f,s2⟩:=q;obtain⟨l2,o2⟩:=(ER b F).1 _ _ _ h2;have hf:=ih1 _ _ _ (by omega) h2;rw[h2] at h;simp only at h
   cases s2 with
   | nil=>cases h
   | cons c s3=>
   simp only[AfJ] at l2;simp only at h
   cases h3:decide (c=Cl m) with
   | true=>rw[h3] at h;cases h;exact VQ o2 hf (λc hc=>by cases hc) hkt
   | false=>
   rw[h3] at h;simp only[AfH] at h
   cases h4:decide (c=44) with
   | false=>rw[h4] at h;cases h
   | true=>
   rw[h4] at h;simp only[AfL] at h
   cases h5:Eb b F m key s3 with
   | none=>rw[h5] at h;cases h
   | some q=>
    obtain⟨g',w⟩:=q;rw[h5] at h;cases h;exact VQ o2 hf (ih2 _ _ _ _ _ (by omega) h5) hkt
theorem AaE:∀l:List Ab,l.any C0=false→l.map Dk=l
 | [],_=>rfl
 | c::l,h=>by
  simp only[List.any_cons,Agj] at h;simp only[Ag3,AaE l h.2,Dk,h.1,AfH]
def Nx (s:Ai):Option (List Ab×Int):=
 bif decide (4000<s.length) then some ([],3) else match GK true 10000 s with
  | some (f,[])=>some (bif decide (If f=0) then(f.flat,0) else([],If f))
  | _=>some ([],1)
theorem Qh (s:Ai):Az.mk s 0 [] false=DH s s [] false:=by simp[DH]
theorem AaK {f:Fo}(h:f.flat.any C0=true):If f=2:=by unfold If;rw[h];rfl
theorem Td {F:Nat}(hF:20000≤F){s:Ai}:Jv F s=Nx s:=by
 unfold Jv Nx;have a1:decide ((4000:Int)<(s.length:Int))=decide (4000<s.length):=by rw[AfY];simp;omega
 rw[a1]
 cases h4:decide (4000<s.length) with
 | true=>rfl
 | false=>
  simp only[AfE] at h4;rw[AN rfl,Qh];simp only[AfH];rcases U8 (S:=s) (by omega) (F:=F) (P:=10000) (by omega) (by omega) with⟨f,w,q1,q2,q3⟩ | ⟨q1,q',q2⟩
  ·rw[q3,q1,Bs rfl,AN (p:=!true) rfl];obtain⟨_,hone⟩:=(ER true 10000).1 _ _ _ q1;have hwl:=q2.len;have hcells:=(Nd true 4000 10000).1 _ _ _ (by omega) q1;have hfl:=(Jb true 10000).1 _ _ _ q1;unfold GJ;have hat:(true,DH s w ([]++f.flat.map Dk) (false||f.flat.any C0)).2.fAt=(s.length:Int)-w.length:=rfl;rw[hat]
   cases w with
   | cons c w'=>
    have hd:decide ((s.length:Int)-(c::w').length=(s.length:Int))=false:=AfG (by simp only[AfJ];omega);rw[hd];rfl
   | nil=>
    have hd:decide ((s.length:Int)-([]:Ai).length=(s.length:Int))=true:=AfI (by simp);rw[hd,AN (p:=!true) rfl]
    change _=some (bif decide (If f=0) then(f.flat,0) else([],If f))
    have hgr:(true,DH s [] ([]++f.flat.map Dk) (false||f.flat.any C0)).2.fGreat=f.flat.any C0:=rfl;have hce:(true,DH s [] ([]++f.flat.map Dk) (false||f.flat.any C0)).2.fCells=f.flat.map Dk:=rfl;rw[hgr,hce]
    cases ho:f.flat.any C0 with
    | true=>rw[AaK ho];rfl
    | false=>
     rw[AN rfl,AaE _ ho];have hA:KE 4000 f.flat:=⟨by decide,by omega,λc hc=>by obtain⟨c1,c2,c3⟩:=hcells c hc;exact⟨c1,c2,by omega⟩⟩
     have hwf:f.wf false none=true:=by
      have:=((Se 10000).1 s).1;rw[q1] at this
      cases hp:GK false 10000 s with
      | none=>rw[hp] at this;cases this
      | some q=>
       obtain⟨f',u'⟩:=q;rw[hp] at this;simp only at this
       cases hw:f'.wf false none with
       | false=>rw[hw] at this;cases this
       | true=>rw[hw] at this;cases this;exact hw
     have hev:Jo f.flat=If f:=by unfold Jo;rw[OK hone hwf]
     unfold Mk;rw[KP hA (by decide) (by omega),Bs rfl,hev]
     cases decide (If f=0)<;>rfl
  ·rw[q2,q1];rfl
theorem KT {x:Nat}(h:x<10):(UInt8.ofNat (48+x)).toNat=48+x:=by simp;omega
theorem Rv {x:Nat}(h:x<10):Cs (UInt8.ofNat (48+x))=true:=by
 unfold Cs;rw[KT h];simp;omega
theorem Ra (d:Ai)(c:UInt8)(a:Nat):Du a (d++[c])=10*Du a d+(c.toNat-48):=by simp[Du]
theorem S6 {u:Nat}(h:u<10):Lib.decDigits u=[UInt8.ofNat (48+u)]:=by rw[Lib.decDigits,dif_pos h]
theorem AaT {u:Nat}(h : ¬ u<10):Lib.decDigits u=Lib.decDigits (u/10)++[UInt8.ofNat (48+u % 10)]:=by
 rw[Lib.decDigits,dif_neg h]
theorem R7:∀u:Nat,(Lib.decDigits u).all Cs=true∧Lib.decDigits u≠[]∧Du 0 (Lib.decDigits u)=u∧((Lib.decDigits u).head? =some 48→u=0):=by
 intro u
 induction u using Nat.strongRecOn with
 | ind u ih=>
  by_cases h:u<10
  ·rw[S6 h];refine⟨by simp only[Agu,List.all_nil,Rv h,Bool.and_self],by simp,?_,?_⟩
   ·show 10*0+((UInt8.ofNat (48+u)).toNat-48)=u;rw[KT h];omega
   ·intro e;simp only[List.head?_cons,Option.some.injEq] at e;have:=congrArg UInt8.toNat e;rw[KT h] at this;have ha:(48:UInt8).toNat=48:=rfl;omega
  ·obtain⟨a,b,c,d⟩:=ih (u/10) (by omega);rw[AaT h];refine⟨by simp only[List.all_append,a,Agu,List.all_nil,Rv (show u % 10<10 by omega),Bool.and_self],by simp,?_,?_⟩
   ·rw[Ra,c,KT (by omega)];omega
   ·intro e
    cases hd:Lib.decDigits (u/10) with
    | nil=>exact absurd hd b
    | cons x r=>
     rw[hd] at e;have:=d (by rw[hd];simpa using e);omega
theorem AaS:∀(n:Nat) (d:Ai),d.length=n→d.all Cs=true→d≠[]→(d.head? =some 48→d.length=1)→Lib.decDigits (Du 0 d)=d:=by
 intro n
 induction n with
 | zero=>intro d hn _ hne;exact absurd (Agf hn) hne
 | succ n ih=>
  intro d hn ha hne hh;obtain⟨d',c,rfl⟩:∃d' c,d=d'++[c]:=⟨d.dropLast,d.getLast hne,(List.dropLast_concat_getLast hne).symm⟩
  rw[List.all_append] at ha;simp only[Agu,List.all_nil,Agg,AfM] at ha;have hc:48≤c.toNat∧c.toNat≤57:=by have:=ha.2;simp[Cs] at this;omega
  have ec:UInt8.ofNat (48+(c.toNat-48))=c:=by rw[show 48+(c.toNat-48)=c.toNat from by omega];simp
  rw[Ra]
  cases hd:d' with
  | nil=>
   show Lib.decDigits (10*0+(c.toNat-48))=[c];rw[S6 (by omega),show 48+(10*0+(c.toNat-48))=48+(c.toNat-48) from by omega,ec]
  | cons x r=>
   rw[← hd];have hne':d'≠[]:=by rw[hd];simp
   have h1:d'.head?≠some 48:=λe=>by
    have:=hh (by rw[hd] at e ⊢;simpa using e);rw[hd] at this;simp at this
   have ih':=ih d' (by simp at hn;omega) ha.1 hne' (λe=>absurd e h1);have hpos:1≤Du 0 d':=by
    rw[hd];show 1≤Du (10*0+(x.toNat-48)) r;have hx:48≤x.toNat∧x.toNat≤57:=by have:=ha.1;rw[hd] at this;simp[Cs] at this;omega
    have hx2:x.toNat≠48:=λe=>h1 (by rw[hd];simp;rw[← AgE];exact e);exact Nat.le_trans (by omega) (La r _)
   rw[AaT (by omega),show(10*Du 0 d'+(c.toNat-48))/10=Du 0 d' from by omega,show(10*Du 0 d'+(c.toNat-48)) % 10=c.toNat-48 from by omega,ih',ec]
theorem PQ:∀(d w:Ai),d.all Cs=true→(∀c r,w=c::r→Cs c=false)→Db (d++w)=(d,w)
 | [],w,_,hw=>by
  cases w with
  | nil=>rfl
  | cons c r=>simp[Db,hw c r rfl]
 | c::d,w,ha,hw=>by
  simp only[Agu,AfM] at ha;simp[Db,ha.1,PQ d w ha.2 hw]
theorem XN {n:Int}{w:Ai}(h0 : -1000000000000≤n)(h1:n≤1000000000000)(hw:∀c r,w=c::r→Cs c=false):Ji (Lib.itoa n++w)=some (.cell none ⟨3,n,[],0⟩ .nil,w):=by
 have key:∀(u:Nat) (neg:Bool),u≤1000000000000→(neg=true→1≤u)→Ji (H4 neg (Lib.decDigits u)++w)=some (.cell none ⟨3,bif neg then -(u:Int) else u,[],0⟩ .nil,w):=λu neg hu hneg=>by
  obtain⟨a,b,c,d⟩:=R7 u;have hl:(Lib.decDigits u).length≤18:=by
   cases hdd:Lib.decDigits u with
   | nil=>simp
   | cons x r=>
    by_cases ha:(x::r).length≤18
    ·exact ha
    ·exfalso;have hx:48≤x.toNat∧x.toNat≤57:=by rw[hdd] at a;simp[Cs] at a;omega
     have hr:18≤r.length:=by simp only[AfJ] at ha;omega
     by_cases hb:x=48
     ·have:=d (by rw[hdd,hb];rfl);subst this;have e0:Lib.decDigits 0=[UInt8.ofNat 48]:=S6 (by omega);rw[e0] at hdd;cases hdd;simp at hr
     ·have hx2:x.toNat≠48:=λe=>hb (by rw[← AgE];exact e);rw[hdd] at c;have c':Du (10*0+(x.toNat-48)) r=u:=c;have:=T9 r (10*0+(x.toNat-48)) (by omega);have h2:10 ^ 18≤10 ^ r.length:=Nat.pow_le_pow_right (by omega) hr;omega
  have hhead:∀(x:UInt8) (r:Ai),Lib.decDigits u=x::r→x≠45:=λx r e=>by
   rw[e] at a;intro e2;subst e2;simp[Cs] at a
  have hcan:Gv neg (Lib.decDigits u)=true:=by
   unfold Gv;have e1:decide (Lib.decDigits u=[])=false:=AfG b;rw[e1]
   by_cases hh:(Lib.decDigits u).head? =some 48
   ·have hu0:=d hh;subst hu0;have:neg=false:=by cases neg with
     | false=>rfl
     | true=>have:=hneg rfl;omega
    subst this;rw[S6 (by omega)];rfl
   ·rw[AfG hh];rfl
  have hv:Lq neg (Lib.decDigits u)=bif neg then -(u:Int) else u:=by
   have hn:Qs (Lib.decDigits u)=(u:Int):=by
    have:=Kw (Lib.decDigits u) 0 a;rw[c] at this;exact this
   unfold Lq;rw[AfG (by omega),hn];rfl
  unfold Ji H4
  cases neg with
  | true=>
   have e1:decide ((45::(Lib.decDigits u++w)).head? =some 45)=true:=rfl;simp only[AfL,Ag2,e1,List.tail_cons,PQ _ _ a hw,hcan,hv]
  | false=>
   have e1:decide ((((bif false then 45::Lib.decDigits u else Lib.decDigits u)++w).head?)=some 45)=false:=by
    cases hdd:Lib.decDigits u with
    | nil=>exact absurd hdd b
    | cons x r=>simp[hhead x r hdd]
   simp only[AfH] at e1;simp only[AfH,e1,PQ _ _ a hw,hcan,hv,AfL]
 by_cases hneg:n<0
 ·have e:Lib.itoa n=H4 true (Lib.decDigits n.natAbs):=by
   have:=Lib.itoa_neg n.natAbs (by omega);rw[show -(n.natAbs:Int)=n from by omega] at this;rw[this];rfl
  have:=key n.natAbs true (by omega) (λ_=>by omega);rw[e,this];show some (Fo.cell none ⟨3,-(n.natAbs:Int),[],0⟩ .nil,w)=_;rw[show -(n.natAbs:Int)=n from by omega]
 ·have e:Lib.itoa n=H4 false (Lib.decDigits n.natAbs):=by
   have:=Lib.itoa_nonneg n.natAbs;rw[show(n.natAbs:Int)=n from by omega] at this;rw[this];rfl
  have:=key n.natAbs false (by omega) (λh=>by cases h);rw[e,this];show some (Fo.cell none ⟨3,(n.natAbs:Int),[],0⟩ .nil,w)=_;rw[show(n.natAbs:Int)=n from by omega]
theorem XO {s u:Ai}{f:Fo}(h:Ji s=some (f,u)):∃n,f = .cell none ⟨3,n,[],0⟩ .nil∧(C0 ⟨3,n,[],0⟩=false→s=Lib.itoa n++u):=by
 unfold Ji at h;simp only at h;have key:∀(neg:Bool) (r:Ai),s=(bif neg then 45::r else r)→Gv neg (Db r).1=true→C0 ⟨3,Lq neg (Db r).1,[],0⟩=false→s=Lib.itoa (Lq neg (Db r).1)++(Db r).2:=λneg r es hcan hout=>by
  have hd:=MK r;have he:=O8 r;generalize(Db r).1=d at *;generalize(Db r).2=w at *;unfold Gv at hcan;simp only[AfM,Agd,AfE] at hcan;obtain⟨hne,hz⟩:=hcan;have hl:d.length≤18:=by
   by_cases ha:d.length≤18
   ·exact ha
   ·exfalso;unfold Lq at hout;rw[AfI (by omega)] at hout
    cases neg<;>simp[C0] at hout
  have hn:Lq neg d=bif neg then -(Du 0 d:Int) else(Du 0 d:Int):=by
   have:=Kw d 0 hd;unfold Lq;rw[AfG (by omega)];show(bif neg then -(Qs d) else Qs d)=_;rw[show Qs d=(Du 0 d:Int) from this]
  have hback:=AaS d.length d rfl hd hne (λe=>by
   cases h1:decide (1<d.length) with
   | true=>rw[AfI e,h1] at hz;simp at hz
   | false=>
    simp only[AfE] at h1
    cases d with
    | nil=>exact absurd rfl hne
    | cons x y=>simp only[AfJ] at h1 ⊢;omega)
  rw[hn]
  cases neg with
  | true=>
   have hpos:1≤Du 0 d:=by
    cases d with
    | nil=>exact absurd rfl hne
    | cons x y=>
     have hx:48≤x.toNat∧x.toNat≤57:=by simp[Cs] at hd;omega
     have hx2:x.toNat≠48:=λe=>by
      have:x=48:=by rw[← AgE];exact e
      rw[this] at hz;simp at hz
     show 1≤Du (10*0+(x.toNat-48)) y;exact Nat.le_trans (by omega) (La y _)
   have:=Lib.itoa_neg (Du 0 d) hpos;simp only[AfL] at es ⊢;rw[this,hback,es,Ag2,← he]
  | false=>
   have:=Lib.itoa_nonneg (Du 0 d);simp only[AfH] at es ⊢;rw[this,hback,es,← he]
 cases hneg:decide (s.head? =some 45) with
 | true=>
  rw[hneg] at h;simp only[AfL] at h
  cases hcan:Gv true (Db s.tail).1 with
  | false=>rw[hcan] at h;cases h
  | true=>
   rw[hcan] at h;simp only[AfL,Option.some.injEq,Prod.mk.injEq] at h;obtain⟨rfl,rfl⟩:=h;refine⟨_,rfl,λhout=>key true s.tail ?_ hcan hout⟩
   cases s with
   | nil=>simp at hneg
   | cons c r=>
    simp at hneg;subst hneg;rfl
 | false=>
  rw[hneg] at h;simp only[AfH] at h
  cases hcan:Gv false (Db s).1 with
  | false=>rw[hcan] at h;cases h
  | true=>
   rw[hcan] at h;simp only[AfL,Option.some.injEq,Prod.mk.injEq] at h;obtain⟨rfl,rfl⟩:=h;exact⟨_,rfl,λhout=>key false s rfl hcan hout⟩
theorem OW:∀(s w:Ai),s.all Lp=true→Dt true (Gw s++34::w)=some (s,w)
 | [],w,_=>by
  show Dt true (34::w)=_;rw[Ef];rfl
 | c::s,w,ha=>by
  simp only[Agu,AfM] at ha;have ih:=OW s w ha.2;have e:Gw (c::s)=(bif (decide (c=34)||decide (c=92)) then[92,c] else[c])++Gw s:=by simp[Gw]
  rw[e]
  cases hq:(decide (c=34)||decide (c=92)) with
  | true=>
   simp only[AfL,Ag2,Agz];rw[Ef,show decide ((92:UInt8)=34)=false from by decide,show(true&&!Lp 92)=false from by decide,show decide ((92:UInt8)=92)=true from by decide];simp only[AfH,AfL,hq,ih]
  | false=>
   simp only[AfH,Ag2,Agz];simp only[Agj] at hq;rw[Ef,hq.1,ha.1,hq.2];simp only[AfR,Age,AfH,ih]
theorem QH:∀(n:Nat) (s t u:Ai),s.length=n→Dt true s=some (t,u)→s=Gw t++34::u:=by
 intro n
 induction n using Nat.strongRecOn with
 | ind n ih=>
  intro s t u hn h
  cases s with
  | nil=>cases h
  | cons c r=>
   simp only[AfJ] at hn;rw[Ef] at h
   cases h1:decide (c=34) with
   | true=>
    rw[h1] at h;cases h;rw[AfS h1];rfl
   | false=>
    rw[h1] at h;simp only[AfH] at h
    cases h2:(true&&!Lp c) with
    | true=>rw[h2] at h;cases h
    | false=>
     rw[h2] at h;simp only[AfH] at h
     cases h3:decide (c=92) with
     | true=>
      rw[h3] at h
      cases r with
      | nil=>cases h
      | cons d r'=>
       simp only[AfL] at h
       cases h4:(decide (d=34)||decide (d=92)) with
       | false=>rw[h4] at h;cases h
       | true=>
        rw[h4] at h;simp only[AfL] at h
        cases h5:Dt true r' with
        | none=>rw[h5] at h;cases h
        | some q=>
         obtain⟨t',u'⟩:=q;rw[h5] at h;cases h;simp only[AfJ] at hn;have:=ih r'.length (by omega) r' t' u rfl h5;rw[AfS h3,this];simp[Gw,h4]
     | false=>
      rw[h3] at h;simp only[AfH] at h
      cases h5:Dt true r with
      | none=>rw[h5] at h;cases h
      | some q=>
       obtain⟨t',u'⟩:=q;rw[h5] at h;cases h;have:=ih r.length (by omega) r t' u rfl h5;rw[this];simp only[AfE] at h1 h3;simp[Gw,h1,h3]
theorem KR {f:Fo}(h:f.one=true)(key:Option Ai)(r:Fo)(b:Bool):(f.put key r).txt b=DZ b++(Jt key++(f.txt true++r.txt false)):=by
 cases f with
 | nil=>cases h
 | cell k c s=>cases k with
  | some _=>cases h
  | none=>cases s with
   | nil=>simp[Fo.put,Fo.txt,DZ,Jt]
   | _=>cases h
 | node k c kids s=>cases k with
  | some _=>cases h
  | none=>cases s with
   | nil=>simp[Fo.put,Fo.txt,DZ,Jt]
   | _=>cases h
theorem Sb {f:Fo}(h:f.one=true)(key:Option Ai)(r:Fo):(f.put key r).flat.any C0=(f.flat.any C0||r.flat.any C0):=by
 rw[Gz h,List.any_append,List.any_append,P6,AfW]
theorem Vx {m:Bool}{last:Option Ai}{g:Fo}(hw:g.wf m last=true):g = .nil∨∃ (k:Option Ai) (f r:Fo),g=f.put k r∧f.one=true∧f.wf false none=true∧BG m last k=true∧r.wf m k=true:=by
 cases g with
 | nil=>exact .inl rfl
 | cell k c r=>
  simp only[Fo.wf,AfM,Agd] at hw;obtain⟨⟨⟨w1,w2⟩,w3⟩,w4⟩:=hw;exact .inr ⟨k,.cell none c .nil,r,rfl,rfl,V9 w2 w3,w1,w4⟩
 | node k c kids r=>
  simp only[Fo.wf,AfM,AfF] at hw;obtain⟨⟨⟨⟨⟨w1,w2⟩,w3⟩,w5⟩,w6⟩,w4⟩:=hw;exact .inr ⟨k,.node none c kids .nil,r,rfl,rfl,V8 w2 w3 w5 w6,w1,w4⟩
theorem YX {m:Bool}{last:Option Ai}{g:Fo}(hw:g.wf m last=true)(hn:g≠.nil):g.txt false=44::g.txt true:=by
 rcases Vx hw with h | ⟨k,f,r,rfl,h1,_⟩
 ·exact absurd h hn
 ·rw[KR h1,KR h1];rfl
theorem Aax {m:Bool}{last k:Option Ai}{w:Ai}(h:BG m last k=true):Gb true m last (Jt k++w)=some (k,w):=by
 cases k with
 | none=>
  have:m=false:=by simpa[BG] using h
  subst this;rfl
 | some s=>
  have h':=h;simp only[BG,AfM] at h;obtain⟨⟨h1,h2⟩,h3⟩:=h;subst h1;have e:Jt (some s)++w=34::(Gw s++34::(58::w)):=by simp[Jt,H6]
  rw[e];unfold Gb;simp only[AfL,decide_true,OW s (58::w) h2,h',AfR,Age,AfH]
theorem Ro {m:Bool}{last k:Option Ai}{s w:Ai}(h:Gb true m last s=some (k,w)):s=Jt k++w:=by
 unfold Gb at h
 cases m with
 | false=>cases h;rfl
 | true=>
  simp only[AfL] at h
  cases s with
  | nil=>cases h
  | cons c r=>
   simp only at h
   cases h1:decide (c=34) with
   | false=>rw[h1] at h;cases h
   | true=>
    rw[h1] at h;simp only[AfL] at h
    cases h2:Dt true r with
    | none=>rw[h2] at h;cases h
    | some q=>
     obtain⟨t,u⟩:=q;have:=QH _ r t u rfl h2;rw[h2] at h;simp only at h
     cases h3:(true&&!BG true last (some t)) with
     | true=>rw[h3] at h;cases h
     | false=>
      rw[h3] at h;simp only[AfH] at h
      cases u with
      | nil=>cases h
      | cons d u'=>
       simp only at h
       cases h4:decide (d=58) with
       | false=>rw[h4] at h;cases h
       | true=>
        rw[h4] at h;cases h;rw[AfS h1,this,AfS h4];simp[Jt,H6]
def okH (c:UInt8):Prop:=c=110∨c=116∨c=102∨c=34∨c=91∨c=123∨c=45∨Cs c=true
theorem QS {c:UInt8}(h:okH c)(m:Bool):decide (c=Cl m)=false:=by
 refine AfG λe=>?_;subst e
 cases m<;>revert h<;>unfold okH Cs Cl<;>decide
theorem Ru (n:Int):∃c r,Lib.itoa n=c::r∧(c=45∨Cs c=true):=by
 obtain⟨a,b,_,_⟩:=R7 n.natAbs
 by_cases hneg:n<0
 ·have:=Lib.itoa_neg n.natAbs (by omega);rw[show -(n.natAbs:Int)=n from by omega] at this;exact⟨45,_,this,.inl rfl⟩
 ·have:=Lib.itoa_nonneg n.natAbs;rw[show(n.natAbs:Int)=n from by omega] at this
  cases hd:Lib.decDigits n.natAbs with
  | nil=>exact absurd hd b
  | cons x r=>
   rw[hd] at a;simp only[Agu,AfM] at a;exact⟨x,r,by rw[this,hd],.inr a.1⟩
theorem Vf {c:Ab}:∃x r,E9 c=x::r∧okH x:=by
 unfold E9
 cases decide (c.fKind=1) with
 | true=>exact⟨_,_,rfl,.inl rfl⟩
 | false=>
 cases decide (c.fKind=2) with
 | true=>cases decide (c.fInt=1) with
  | true=>exact⟨_,_,rfl,.inr (.inl rfl)⟩
  | false=>exact⟨_,_,rfl,.inr (.inr (.inl rfl))⟩
 | false=>
 cases decide (c.fKind=3) with
 | true=>
  obtain⟨x,r,e,h⟩:=Ru c.fInt;exact⟨x,r,e,by unfold okH;rcases h with h | h<;>simp[h]⟩
 | false=>
 cases decide (c.fKind=4) with
 | true=>exact⟨_,_,rfl,.inr (.inr (.inr (.inl rfl)))⟩
 | false=>cases decide (c.fKind=6) with
  | true=>exact⟨_,_,rfl,.inr (.inr (.inr (.inr (.inr (.inl rfl)))))⟩
  | false=>exact⟨_,_,rfl,.inr (.inr (.inr (.inr (.inl rfl))))⟩
theorem ZB {f:Fo}(h:f.one=true):∃x r,f.txt true=x::r∧okH x:=by
 cases f with
 | nil=>cases h
 | cell k c s=>cases k with
  | some _=>cases h
  | none=>cases s with
   | nil=>
    obtain⟨x,r,e,ho⟩:=Vf (c:=c);exact⟨x,r,by simp[Fo.txt,DZ,Jt,e],ho⟩
   | _=>cases h
 | node k c kids s=>cases k with
  | some _=>cases h
  | none=>cases s with
   | nil=>
    simp only[Fo.txt,DZ,Jt,AfL,Agz,Ag4];unfold Uq
    cases decide (c.fKind=6) with
    | true=>exact⟨_,_,rfl,.inr (.inr (.inr (.inr (.inr (.inl rfl)))))⟩
    | false=>exact⟨_,_,rfl,.inr (.inr (.inr (.inr (.inl rfl))))⟩
   | _=>cases h
theorem YY {m:Bool}{last:Option Ai}{g:Fo}(hw:g.wf m last=true)(hn:g≠.nil):∃x r,g.txt true=x::r∧okH x:=by
 rcases Vx hw with h | ⟨k,f,r,rfl,h1,_⟩
 ·exact absurd h hn
 ·rw[KR h1]
  cases k with
  | none=>
   obtain⟨x,y,e,ho⟩:=ZB h1;exact⟨x,y++r.txt false,by simp[DZ,Jt,e],ho⟩
  | some s=>exact⟨34,_,by simp[DZ,Jt,H6];rfl,.inr (.inr (.inr (.inl rfl)))⟩
theorem UK {a b:UInt8}{x y:Ai}(h:a≠b):pre (a::x) (b::y)=none:=by
 rw[pre,AfG h];rfl
theorem KS {F:Nat}{c:UInt8}{r:Ai}(h1:c≠110)(h2:c≠116)(h3:c≠102):GK true (F+1) (c::r) =
  bif decide (c=34) then(match Dt true r with
   | none=>none
   | some (t,u)=>some (lf 4 0 t,u)) else
  bif decide (c=91)||decide (c=123) then(match r with
   | []=>none
   | d::r'=>bif decide (d=Cl (decide (c=123))) then some (nd (decide (c=123)) .nil,r') else(match Eb true F (decide (c=123)) none (d::r') with
    | none=>none
    | some (g,u)=>some (nd (decide (c=123)) g,u))) else
  Ji (c::r):=by
 rw[Ea,UK (Ne.symm h1),UK (Ne.symm h2),UK (Ne.symm h3)];rfl
theorem Z5 {F:Nat}{c:Ab}{w:Ai}(hp:pl c=true)(hn:decide (0<c.fN)=false)(ho:C0 c=false)(hw:∀x r,w=x::r→Cs x=false):GK true (F+1) (E9 c++w)=some (.cell none c .nil,w):=by
 have hN:=Zz hp;have h0:c.fN=0:=by simp only[AfE] at hn;omega
 cases c with
 | mk k n s N=>
 simp only at h0;subst h0;unfold E9
 by_cases k1:k=1
 ·subst k1;simp[pl] at hp;obtain⟨rfl,rfl⟩:=hp;show GK true (F+1) ([110,117,108,108]++w)=_;rw[Ea,Mu];rfl
 by_cases k2:k=2
 ·subst k2;simp[pl] at hp;obtain⟨hb,rfl⟩:=hp;rcases hb with rfl | rfl
  ·show GK true (F+1) ([102,97,108,115,101]++w)=_;rw[Ea,Mu];rfl
  ·show GK true (F+1) ([116,114,117,101]++w)=_;rw[Ea,Mu];rfl
 by_cases k3:k=3
 ·subst k3;simp[pl] at hp;subst hp;show GK true (F+1) (Lib.itoa n++w)=_;obtain⟨x,r,e,hx⟩:=Ru n;have hx2:45≤x.toNat∧x.toNat≤57:=by
   rcases hx with rfl | hx
   ·decide
   ·simp[Cs] at hx;omega
  have hne:∀y:UInt8,57<y.toNat∨y.toNat<45→x≠y:=λy hy e=>by subst e;omega
  rw[e,Ag2,KS (hne 110 (by decide)) (hne 116 (by decide)) (hne 102 (by decide)),AfG (hne 34 (by decide)),AfG (hne 91 (by decide)),AfG (hne 123 (by decide))];simp only[Bool.or_self,AfH];rw[← Ag2,← e];simp[C0] at ho;exact XN (by omega) (by omega) hw
 by_cases k4:k=4
 ·subst k4;simp[pl] at hp;obtain⟨rfl,hs⟩:=hp;have e:(bif decide ((4:Int)=1) then([110,117,108,108]:Ai) else bif decide ((4:Int)=2) then(bif decide ((0:Int)=1) then[116,114,117,101] else[102,97,108,115,101]) else bif decide ((4:Int)=3) then Lib.itoa 0 else bif decide ((4:Int)=4) then H6 s else bif decide ((4:Int)=6) then[123,125] else[91,93])=H6 s:=rfl;show GK true (F+1) (H6 s++w)=_;have e2:H6 s++w=34::(Gw s++34::w):=by simp[H6]
  rw[e2,KS (by decide) (by decide) (by decide),AfI rfl];simp only[AfL];rw[OW s w (by rw[Ags];exact hs)];rfl
 by_cases k5:k=5
 ·subst k5;simp[pl] at hp;obtain⟨rfl,rfl⟩:=hp;show GK true (F+1) (91::93::w)=_;rw[KS (by decide) (by decide) (by decide)];rfl
 by_cases k6:k=6
 ·subst k6;simp[pl] at hp;obtain⟨rfl,rfl⟩:=hp;show GK true (F+1) (123::125::w)=_;rw[KS (by decide) (by decide) (by decide)];rfl
 exfalso;simp[pl,k1,k2,k3,k4,k5,k6] at hp
theorem Yi (m:Bool):Cs (Cl m)=false:=by cases m<;>decide
theorem AbD:∀n:Nat,(∀f:Fo,f.flat.length=n→f.one=true→f.wf false none=true→f.flat.any C0=false→∀(F:Nat) (w:Ai),2*n≤F→(∀x r,w=x::r→Cs x=false)→GK true F (f.txt true++w)=some (f,w))∧
  (∀(g:Fo) (m:Bool) (last:Option Ai),g.flat.length=n→g≠.nil→g.wf m last=true→g.flat.any C0=false→∀(F:Nat) (w:Ai),2*n+1≤F→Eb true F m last (g.txt true++Cl m::w)=some (g,w)):=by
 intro n
 induction n using Nat.strongRecOn with
 | ind n ih=>
  have hP:∀f:Fo,f.flat.length=n→f.one=true→f.wf false none=true→f.flat.any C0=false→∀(F:Nat) (w:Ai),2*n≤F→(∀x r,w=x::r→Cs x=false)→GK true F (f.txt true++w)=some (f,w):=by
   intro f hn h1 hw ho F w hF hd;have hl:=Mx h1;obtain⟨F,rfl⟩:∃K,F=K+1:=⟨F-1,by omega⟩
   cases f with
   | nil=>cases h1
   | cell k c s=>cases k with
    | some _=>cases h1
    | none=>cases s with
     | nil=>
      simp only[Fo.wf,AfM,Agd] at hw;simp[Fo.flat,BP] at ho;have e:(Fo.cell none c .nil).txt true=E9 c:=by simp[Fo.txt,DZ,Jt]
      rw[e];exact Z5 hw.1.1.2 hw.1.2 ho hd
     | _=>cases h1
   | node k c kids s=>cases k with
    | some _=>cases h1
    | none=>cases s with
     | nil=>
      simp only[Fo.wf,AfM,AfF] at hw;obtain⟨⟨⟨⟨⟨w1,w2⟩,w3⟩,w5⟩,w6⟩,w4⟩:=hw;have hfl:(Fo.node none c kids .nil).flat=c::kids.flat:=by simp[Fo.flat,BP]
      rw[hfl] at hn ho;simp only[AfJ] at hn;simp only[List.any_cons,Agj] at ho;have hne:kids≠.nil:=λe=>by subst e;simp[Fo.cnt] at w5;omega
      obtain⟨x,r,ex,hx⟩:=YY w6 hne;obtain⟨ha,hi,hs⟩:=Oz w2 w3;have e:(Fo.node none c kids .nil).txt true=Uq c (kids.txt true):=by simp[Fo.txt,DZ,Jt]
      have ih2:=(ih kids.flat.length (by omega)).2 kids (decide (c.fKind=6)) none rfl hne w6 ho.2 F w (by omega);have hnd:nd (decide (c.fKind=6)) kids = .node none c kids .nil:=by
       unfold nd;rw[AfG (by omega)]
       cases c with
       | mk a1 a2 a3 a4=>
        simp only at ha hi hs w5 ⊢;subst hi;subst hs;subst w5;rcases ha with rfl | rfl<;>rfl
      rw[e];unfold Uq
      cases hm:decide (c.fKind=6) with
      | true=>
       rw[hm] at ih2 hnd;have e3:(bif true then 123::(kids.txt true++[125]) else 91::(kids.txt true++[93]))++w=(bif true then(123:UInt8) else 91)::(x::(r++125::w)):=by simp[ex]
       have ih3:Eb true F true none (x::(r++125::w))=some (kids,w):=by rw[ex] at ih2;exact ih2
       rw[e3,UM,Ll,QS hx true,AfH,ih3];show some (nd true kids,w)=_;rw[hnd]
      | false=>
       rw[hm] at ih2 hnd;have e3:(bif false then 123::(kids.txt true++[125]) else 91::(kids.txt true++[93]))++w=(bif false then(123:UInt8) else 91)::(x::(r++93::w)):=by simp[ex]
       have ih3:Eb true F false none (x::(r++93::w))=some (kids,w):=by rw[ex] at ih2;exact ih2
       rw[e3,UM,Ll,QS hx false,AfH,ih3];show some (nd false kids,w)=_;rw[hnd]
     | _=>cases h1
  refine⟨hP,?_⟩;intro g m last hn hne hw ho F w hF;rcases Vx hw with h | ⟨k,f,r,rfl,h1,h2,h3,h4⟩
  ·exact absurd h hne
  obtain⟨F,rfl⟩:∃K,F=K+1:=⟨F-1,by omega⟩
  have hl:=Mx h1;rw[Gz h1,AfK,AfK] at hn;rw[Sb h1,Agj] at ho;rw[KR h1,DG];have e:(DZ true++(Jt k++(f.txt true++r.txt false)))++Cl m::w=Jt k++(f.txt true++(r.txt false++Cl m::w)):=by simp[DZ]
  rw[e,Aax h3];simp only;have hpar:∀v:Ai,(∀x y,v=x::y→Cs x=false)→GK true F (f.txt true++v)=some (f,v):=λv hv=>by
   rcases Nat.lt_or_ge f.flat.length n with hlt | hge
   ·exact(ih f.flat.length hlt).1 f rfl h1 h2 ho.1 F v (by omega) hv
   ·exact hP f (by omega) h1 h2 ho.1 F v (by omega) hv
  by_cases hr:r = .nil
  ·subst hr;rw[hpar _ (λx y e=>by simp[Fo.txt] at e;rw[← e.1];exact Yi m)];simp[Fo.txt]
  ·rw[YX h4 hr,Ag2,hpar _ (λx y e=>by cases e;decide)];simp only;have hb:decide ((44:UInt8)=Cl m)=false:=by cases m<;>decide
   have:=(ih r.flat.length (by omega)).2 r m k rfl hr h4 ho.2 F w (by omega);rw[hb,this];rfl
theorem Ts:∀F:Nat,(∀s f u,GK true F s=some (f,u)→f.flat.any C0=false→s=f.txt true++u)∧(∀m last s g u,Eb true F m last s=some (g,u)→g.flat.any C0=false→s=g.txt true++Cl m::u)
 | 0=>⟨(λs f u h=>by rw[GK.eq_def] at h;cases h),(λm last s g u h=>by rw[Eb.eq_def] at h;cases h)⟩
 | F+1=>by
  obtain⟨ih1,ih2⟩:=Ts F;obtain⟨pl1,pl2⟩:=ER true F;constructor
  ·intro s f u h ho;rw[Ea] at h
   cases h1:pre [110,117,108,108] s with
   | some r=>rw[h1] at h;cases h;rw[DR h1];rfl
   | none=>
   rw[h1] at h;simp only at h
   cases h2:pre [116,114,117,101] s with
   | some r=>rw[h2] at h;cases h;rw[DR h2];rfl
   | none=>
   rw[h2] at h;simp only at h
   cases h3:pre [102,97,108,115,101] s with
   | some r=>rw[h3] at h;cases h;rw[DR h3];rfl
   | none=>
   rw[h3] at h;simp only at h
   cases s with
   | nil=>cases h
   | cons c r=>
    simp only at h
    cases h4:decide (c=34) with
    | true=>
     rw[h4] at h;simp only[AfL] at h
     cases h5:Dt true r with
     | none=>rw[h5] at h;cases h
     | some q=>
      obtain⟨t,u'⟩:=q;rw[h5] at h;cases h;rw[AfS h4,QH _ r t _ rfl h5];simp[lf,Fo.txt,DZ,Jt,E9,H6]
    | false=>
    rw[h4] at h;simp only[AfH] at h
    cases h5:(decide (c=91)||decide (c=123)) with
    | true=>
     rw[h5] at h;simp only[AfL] at h;have hopen:∀x:Ai,(c::x)=(bif decide (c=123) then(123:UInt8) else 91)::x:=λx=>by
      cases h6:decide (c=123) with
      | true=>rw[AfS h6];rfl
      | false=>rw[h6,Agi] at h5;rw[AfS h5];rfl
     rw[hopen];generalize decide (c=123)=m at *
     cases r with
     | nil=>cases h
     | cons d r'=>
      simp only at h
      cases h6:decide (d=Cl m) with
      | true=>
       rw[h6] at h;cases h;rw[AfS h6]
       cases m<;>simp[nd,Fo.cnt,Fo.txt,DZ,Jt,E9,Cl]
      | false=>
       rw[h6] at h;simp only[AfH] at h
       cases h7:Eb true F m none (d::r') with
       | none=>rw[h7] at h;cases h
       | some q=>
        obtain⟨g,u'⟩:=q;rw[h7] at h;cases h;have hc:=(pl2 _ _ _ _ _ h7).2;rw[KZ _ _ JE,List.any_cons,Agj] at ho;rw[ih2 _ _ _ _ _ h7 ho.2];unfold nd;rw[AfG (by omega)]
        cases m<;>simp[Fo.txt,DZ,Jt,Uq,Cl]
    | false=>
     rw[h5] at h;simp only[AfH] at h;obtain⟨n,rfl,hb⟩:=XO h;have ho':C0 ⟨3,n,[],0⟩=false:=by simpa[Fo.flat,BP] using ho
     rw[hb ho'];simp[Fo.txt,DZ,Jt,E9]
  ·intro m last s g u h ho;rw[DG] at h
   cases h1:Gb true m last s with
   | none=>rw[h1] at h;cases h
   | some q=>
    obtain⟨key,s1⟩:=q;rw[h1] at h;simp only at h
    cases h2:GK true F s1 with
    | none=>rw[h2] at h;cases h
    | some q=>
     obtain⟨f,s2⟩:=q;have hone:=(pl1 _ _ _ h2).2;rw[h2] at h;simp only at h
     cases s2 with
     | nil=>cases h
     | cons c s3=>
      simp only at h
      cases h3:decide (c=Cl m) with
      | true=>
       rw[h3] at h;cases h;rw[Sb hone,Agj] at ho;rw[Ro h1,ih1 _ _ _ h2 ho.1,KR hone,AfS h3];simp[DZ,Fo.txt]
      | false=>
       rw[h3] at h;simp only[AfH] at h
       cases h4:decide (c=44) with
       | false=>rw[h4] at h;cases h
       | true=>
        rw[h4] at h;simp only[AfL] at h
        cases h5:Eb true F m key s3 with
        | none=>rw[h5] at h;cases h
        | some q=>
         obtain⟨g',w⟩:=q;rw[h5] at h;cases h;have hc:=(pl2 _ _ _ _ _ h5).2;rw[Sb hone,Agj] at ho;have e5:=ih2 _ _ _ _ _ h5 ho.2;have e6:g'.txt false=44::g'.txt true:=by
          cases g' with
          | nil=>simp[Fo.cnt] at hc
          | cell k c r=>simp[Fo.txt,DZ]
          | node k c kids r=>simp[Fo.txt,DZ]
         rw[Ro h1,ih1 _ _ _ h2 ho.1,KR hone,AfS h4,e5,e6];simp[DZ]
open Go Go.RowKit
theorem PM {f:Fo}(h:If f=0):f.flat.any C0=false∧f.flat.any Rh=false∧f.flat.length≤200∧f.dep≤8∧(f.txt true).length≤4000:=by
 unfold If at h
 cases h1:f.flat.any C0 with
 | true=>rw[h1] at h;cases h
 | false=>
  rw[h1] at h
  cases h2:(f.flat.any Rh||(decide (200<f.flat.length)||(decide (8<f.dep)||decide (4000<(f.txt true).length)))) with
  | true=>rw[h2] at h;cases h
  | false=>
   simp only[Agj,AfE] at h2;exact⟨rfl,h2.1,by omega,by omega,by omega⟩
theorem Ac4 {f:Fo}(h1:f.one=true)(hw:f.wf false none=true)(he:If f=0):Jo f.flat=0:=by
 unfold Jo;rw[OK h1 hw];exact he
theorem Ado {F:Nat}{s u:Ai}{f:Fo}(h:GK true F s=some (f,u)):f.wf false none=true:=by
 have:=((Se F).1 s).1;rw[h] at this
 cases h2:GK false F s with
 | none=>rw[h2] at this;cases this
 | some q=>
  obtain⟨g,w⟩:=q;rw[h2] at this;simp only at this
  cases hw:g.wf false none with
  | true=>rw[hw] at this;cases this;exact hw
  | false=>rw[hw] at this;cases this
theorem Wx {v:List Ab}(h:(Hj v).2=0):Nx (Hj v).1=some (v,0):=by
 unfold Hj at h ⊢
 cases hw:whole v with
 | none=>rw[hw] at h;cases h
 | some f=>
  rw[hw] at h;simp only at h
  cases he:decide (If f=0) with
  | false=>rw[he] at h;exact absurd h (Ag0 he)
  | true=>
   obtain⟨x1,x2,x3⟩:=LC hw;obtain⟨h1,h2,h3,h4,h5⟩:=PM (AfS he);have hp:=(AbD f.flat.length).1 f rfl x3 x2 h1 10000 [] (by omega) (λx r e=>by cases e);rw[Ag4] at hp;simp only[he];show Nx (f.txt true)=_;unfold Nx;rw[AfG (by omega),AfH,hp];simp only;rw[he,x1];rfl
theorem Ac8 {s:Ai}{r:List Ab×Int}(h:Nx s=some r)(h0:r.2=0):KE 4000 r.1∧Hj r.1=(s,0)∧Jo r.1=0:=by
 unfold Nx at h
 cases h4:decide (4000<s.length) with
 | true=>rw[h4] at h;cases h;cases h0
 | false=>
  rw[h4] at h;simp only[AfE] at h4;simp only[AfH] at h
  cases hp:GK true 10000 s with
  | none=>rw[hp] at h;cases h;cases h0
  | some q=>
   obtain⟨f,w⟩:=q;rw[hp] at h
   cases w with
   | cons _ _=>cases h;cases h0
   | nil=>
    simp only[Option.some.injEq] at h;subst h
    cases he:decide (If f=0) with
    | false=>rw[he] at h0;exact absurd h0 (Ag0 he)
    | true=>
     have hf:=AfS he;have hw:=Ado hp;have hone:=((ER true 10000).1 _ _ _ hp).2;have hcells:=(Nd true 4000 10000).1 _ _ _ (by omega) hp;have hfl:=(Jb true 10000).1 _ _ _ hp;obtain⟨h1,h2,h3,_⟩:=PM hf;have hb:=(Ts 10000).1 _ _ _ hp h1;rw[Ag4] at hb;refine⟨⟨by decide,by show f.flat.length≤4000;omega,λc hc=>?_⟩,?_,Ac4 hone hw hf⟩
     ·obtain⟨a,b,c'⟩:=hcells c hc;exact⟨a,b,by omega⟩
     ·show Hj f.flat=_;unfold Hj;rw[OK hone hw];simp only;rw[he,hb];rfl
theorem Yf (s:Ai):∃r,Nx s=some r:=by
 unfold Nx
 cases decide (4000<s.length) with
 | true=>exact⟨_,rfl⟩
 | false=>
  simp only[AfH]
  split<;>exact⟨_,rfl⟩
section
variable {M : Nat} {v : List Ab}
end
theorem CS {α:Type}[Inhabited α]{l:List α}{i:Nat}(h:i<l.length):Aq l (i:Int)=l[i]:=by simp[Aq,h]
theorem N0 {α:Type}(p:Bool)(a b:α):Bw p (some a) (some b)=some (bif p then a else b):=by cases p<;>rfl
theorem CX {α:Type}(a b:Option α):Bw true a b=a:=rfl
theorem BU {α:Type}(a b:Option α):Bw false a b=b:=rfl
theorem N1 {α:Type}(x:Option α):Bd true x=x:=rfl
theorem Nu (a:Bool):imp a true=true:=by cases a<;>rfl
theorem Bh {α β:Type}(a:α)(k:α→Option β):Bq (some a) k=k a:=rfl
def K5 (g:Nat→Int):Nat→Nat→Int
 | _,0=>0
 | i,k+1=>bif decide (g i=0) then K5 g (i+1) k else g i
theorem Vc {U:Type}{N:Nat}{g:Nat→Int}{body:Int→Option (Stp Int (Out Int U))}{u:U}(hb:∀i:Nat,i<N→body (i:Int)=Bw (!decide (g i=0)) (some (.out (.ret (g i)))) (some (.next ((i:Int)+1))))(he:body (N:Int)=some (.out (.go u))) :
  ∀(k n i:Nat),i+k=N→k<n→Bq (Ci body n (i:Int)) (BO λ_=>some 0)=some (K5 g i k):=by
 intro k
 induction k with
 | zero=>
  intro n i h hn;obtain⟨n,rfl⟩:∃m,n=m+1:=⟨n-1,by omega⟩
  obtain rfl:i=N:=by omega
  rw[Ci,he];rfl
 | succ k ih=>
  intro n i h hn;obtain⟨n,rfl⟩:∃m,n=m+1:=⟨n-1,by omega⟩
  rw[Ci,hb i (by omega),K5]
  cases hg:decide (g i=0) with
  | true=>
   have:=ih n (i+1) (by omega) (by omega);exact this
  | false=>rfl
theorem Ry {g:Nat→Int}:∀{k i:Nat},K5 g i k=0→∀j,i≤j→j<i+k→g j=0
 | 0,i,_,j,h1,h2=>by omega
 | k+1,i,h,j,h1,h2=>by
  rw[K5] at h
  cases hg:decide (g i=0) with
  | false=>
   rw[hg] at h;exact absurd h (Ag0 hg)
  | true=>
   rw[hg] at h;rcases Nat.eq_or_lt_of_le h1 with rfl | h3
   ·exact AfS hg
   ·exact Ry (k:=k) (i:=i+1) h j h3 (by omega)
structure EfA (M:Nat) (x:Ap):Prop where
 v:KE M x.fValue
 k:x.fKey.length≤1000000000
structure V0 (M:Nat) (c:AC):Prop where
 r:KE M c.fResult
 es:∀x∈c.fEffects,EfA M x
 ev:c.fEvent.length≤1000000000
 tn:c.fTenant.length≤1000000000
def MB (n:Int):Bool:=decide (0≤n)&&decide (n≤1073741824)
def Kn (k:Int):Bool:=decide (k=3)||(decide (k=4)||decide (k=5))
def Adz (x:Ap):Bool:=bif decide (x.fKind=3)||decide (x.fKind=4) then Hf x.fKey else K3 x.fKey
def opO (v:List Ab):Bool:=decide (1<(v.length:Int))&&(decide ((Aq v 0).fKind=5)&&decide ((Aq v 1).fKind=4))
def Tg (event:Ai)(i:Int)(x:Ap):Int:=
 bif decide (x.fKind=5)&&!opO x.fValue then 7 else
 bif (bif !decide (x.fKind=4) then !decide (x.fDelay=0)||!MB x.fDelay else !MB x.fDelay) then 2 else
 bif Kn x.fKind then C1 event i else 0
def PL (event:Ai)(i:Int)(x:Ap):Int:=
 bif decide (x.fKind<1)||decide (5<x.fKind) then 7 else
 bif !Adz x then 4 else
 bif decide (x.fKind=2) then(bif decide (0<(x.fValue.length:Int)) then 7 else Tg event i x) else
 bif !decide (Jo x.fValue=0) then Jo x.fValue else Tg event i x
theorem NP (n:Int):BI n=some (MB n):=rfl
theorem My (n:Int):Gj n=some (Kn n):=rfl
theorem Xx (x:Ap):Sm x=some (Adz x):=N0 _ _ _
theorem Qq (v:List Ab):CL v=some (opO v):=by
 unfold CL
 by_cases h:1<(v.length:Int)
 ·rw[Qw (by omega) (by omega),Qw (by omega) (by omega)];simp only[Nu,N1];rfl
 ·unfold opO;rw[AfG h];rfl
theorem ZS {event:Ai}{i:Int}(x:Ap)(h1:Dz 1 event.length=true)(h2:Cb .i64 i=true) :
  (Bd (imp (decide (x.fKind=5)) ((CL x.fValue).isSome))<|Bw (((decide (x.fKind=5))&&(!(ov (CL x.fValue))))) (some 7) (Bd (imp (!decide (x.fKind=4)) (imp (!(!decide (x.fDelay=0))) ((BI x.fDelay).isSome)))<|Bd (imp (!(!decide (x.fKind=4))) ((BI x.fDelay).isSome))<|Bw ((bif !decide (x.fKind=4) then((!decide (x.fDelay=0))||(!(ov (BI x.fDelay)))) else !(ov (BI x.fDelay)))) (some 2) (Bq (Gj x.fKind) λha=>Bw (ha) (Bd (Dz 1 event.length)<|Bd (Cb .i64 i)<|some (C1 event i)) (some 0))))=some (Tg event i x):=by
 simp only[Qq,NP,My,Option.isSome_some,Nu,N1,J3,Bh,h1,h2,N0];rfl
theorem UX {M F:Nat}{event:Ai}{i:Int}{x:Ap}(hA:EfA M x)(hM:M≤2000000)(hF:M<F)(h1:event.length≤1000000000)(h2:Cb .i64 i=true):KW F event x i=some (PL event i x):=by
 unfold KW;simp only[ZS x (AfI (by omega):Dz 1 event.length=true) h2,Xx,Bh,KP hA.v hM hF,N0];rfl
def JY (c:AC):Int:=
 bif !(K3 c.fEvent)||!(Hf c.fTenant) then 4 else
 bif decide (c.fAttempt<1)||(decide (1073741824<c.fAttempt)||!MB c.fAt) then 2 else
 bif !decide (Jo c.fResult=0) then Jo c.fResult else
 bif decide (32<(c.fEffects.length:Int)) then 3 else
 K5 (λi=>PL c.fEvent (i:Int) (Aq c.fEffects (i:Int))) 0 c.fEffects.length
theorem QY {M F:Nat}{c:AC}(hA:V0 M c)(hM:M≤2000000)(hF:M<F)(hF0:32<F):Nk F c=some (JY c):=by
 unfold Nk JY;simp only[NP,Option.isSome_some,Nu,N1,J3,KP hA.r hM hF,Bh]
 by_cases hl:32<(c.fEffects.length:Int)
 ·rw[AfI hl];simp only[CX,N0];rfl
 ·have:=Vc (N:=c.fEffects.length) (g:=λi=>PL c.fEvent (i:Int) (Aq c.fEffects (i:Int))) (body:=λσ=>Gn F c σ) (u:=()) (λi hi=>by
   unfold Gn;rw[AZ (AfI (by omega)),Bm (by omega) (by omega),UX (hA.es _ (by rw[CS hi];exact List.getElem_mem hi)) hM hF hA.ev (Jj (by omega) (by omega)),Bh,Ba (by omega) (by omega)]) (by unfold Gn;rw[AN (AfG (by omega))]) c.fEffects.length F 0 (by omega) (by omega)
  rw[AfG hl];rw[show Bq (Ci (λσ=>Gn F c σ) F 0) (BO λν=>Jd)=some (K5 (λi=>PL c.fEvent (i:Int) (Aq c.fEffects (i:Int))) 0 c.fEffects.length) from this];simp only[BU,N0]
def sB (b:BitVec 32):BitVec 32:=if b.getLsbD 0=true then(b>>>1)^^^3988292384#32 else b>>>1
def Uz:Nat→BitVec 32→BitVec 32
 | 0,b=>b
 | n+1,b=>Uz n (sB b)
theorem Adn (a b:BitVec 32):sB (a^^^b)=sB a^^^sB b:=by
 unfold sB;rw[BitVec.getLsbD_xor,BitVec.ushiftRight_xor_distrib]
 cases a.getLsbD 0<;>cases b.getLsbD 0
 ·simp
 ·simp[BitVec.xor_assoc]
 ·simp only[Bool.xor_false,AgB,Agb,Ag5];rw[BitVec.xor_assoc,BitVec.xor_assoc,BitVec.xor_comm (b>>>1)]
 ·simp only[Bool.xor_self,Agb,Ag5,AgB];rw[BitVec.xor_assoc,BitVec.xor_comm 3988292384#32,BitVec.xor_assoc,BitVec.xor_self,BitVec.xor_zero]
theorem VL:∀(n:Nat) (a b:BitVec 32),Uz n (a^^^b)=Uz n a^^^Uz n b
 | 0,_,_=>rfl
 | n+1,a,b=>by rw[Uz,Adn,VL n];rfl
theorem QL:∀(n:Nat) (b:BitVec 32),(∀i,i<n→b.getLsbD i=false)→Uz n b=b>>>n
 | 0,b,_=>by simp[Uz]
 | n+1,b,h=>by
  have h0:sB b=b>>>1:=by unfold sB;rw[h 0 (by omega)];simp
  rw[Uz,h0,QL n (b>>>1) (λi hi=>by rw[BitVec.getLsbD_ushiftRight];exact h _ (by omega))];rw[← BitVec.shiftRight_add,Nat.add_comm]
theorem Xi (x:BitVec 32):Uz 8 x=Uz 8 (x&&& 255#32)^^^(x>>>8):=by
 have e:x=(x&&& 255#32)^^^(x&&& 4294967040#32):=by
  apply BitVec.eq_of_getLsbD_eq;intro i hi;rw[BitVec.getLsbD_xor,BitVec.getLsbD_and,BitVec.getLsbD_and];have hh:∀j:_root_.Fin 32,(4294967040#32).getLsbD j = !(255#32).getLsbD j:=by decide
  rw[hh ⟨i,hi⟩]
  cases x.getLsbD i<;>cases(255#32).getLsbD i<;>rfl
 have hz:∀i,i<8→(x&&& 4294967040#32).getLsbD i=false:=λi hi=>by
  rw[BitVec.getLsbD_and];have:(4294967040#32).getLsbD i=false:=by
   have hh:∀i:_root_.Fin 8,(4294967040#32).getLsbD i=false:=by decide
   exact hh ⟨i,hi⟩
  rw[this,Age]
 have hs:(x&&& 4294967040#32)>>>8=x>>>8:=by
  apply BitVec.eq_of_getLsbD_eq;intro i hi;rw[BitVec.getLsbD_ushiftRight,BitVec.getLsbD_ushiftRight,BitVec.getLsbD_and]
  by_cases h:8+i<32
  ·have hh:∀j:_root_.Fin 24,(4294967040#32).getLsbD (8+j)=true:=by decide
   rw[hh ⟨i,by omega⟩,Agg]
  ·rw[BitVec.getLsbD_of_ge x _ (by omega)];rfl
 conv=>lhs;rw[e]
 rw[VL,QL 8 _ hz,hs]
def bv (x:Int):BitVec 32:=BitVec.ofInt 32 x
def nv (b:BitVec 32):Int:=(b.toNat:Int)
def W32 (x:Int):Prop:=0≤x∧x<4294967296
theorem W32.nv (b:BitVec 32):W32 (nv b):=⟨by unfold Proofs.YtfobhhegpkinaaaGreatDoor.nv;omega,by have:=b.isLt;unfold Proofs.YtfobhhegpkinaaaGreatDoor.nv;omega⟩
theorem AcT {x:Int}(h:W32 x):nv (bv x)=x:=by
 unfold nv bv;have h1:=h.1;have h2:=h.2;rw[BitVec.toNat_ofInt];have:x % ((2 ^ 32:Nat):Int)=x:=Int.emod_eq_of_lt h1 (by simpa using h2);rw[this];omega
theorem Un (b:BitVec 32):bv (nv b)=b:=by
 apply BitVec.eq_of_toNat_eq;have h:=AcT (W32.nv b);unfold nv at h;exact Int.ofNat_inj.1 h
theorem RH (b:BitVec 32):IntKind.wrap .u32 (b.toNat:Int)=nv b:=by
 have:=b.isLt;unfold nv;simp[IntKind.wrap,IntKind.signed,IntKind.bits];omega
theorem S0 (x y:Int):Hn .u32 x y=nv (bv x^^^bv y):=RH (bv x^^^bv y)
theorem Acx (x y:Int):Qy .u32 x y=nv (bv x&&& bv y):=RH (bv x&&& bv y)
theorem Wo {n:Nat}(hn:n≤32)(b:BitVec 32):CA .u32 (nv b) (n:Int)=nv (b>>>n):=by
 unfold CA nv;have e:min (n:Int).toNat (IntKind.bits .u32)=n:=by
  have:IntKind.bits .u32=32:=rfl;rw[this];omega
 rw[e,BitVec.toNat_ushiftRight,Nat.shiftRight_eq_div_pow];rw[Int.fdiv_eq_ediv_of_nonneg _ (by exact Int.pow_nonneg (by omega))];simp
theorem Ad5 (b:BitVec 32):decide (Qy .u32 (nv b) 1=1)=b.getLsbD 0:=by
 rw[Acx,Un];have e:bv 1=1#32:=by decide
 rw[e];have h:(b&&& 1#32).toNat=b.toNat % 2:=by
  rw[BitVec.toNat_and];exact Nat.and_one_is_mod _
 unfold nv;rw[h,BitVec.getLsbD,Nat.testBit_zero];rw[AfY];simp only[AfF];omega
theorem Zn (b:BitVec 32):(bif decide (Qy .u32 (nv b) 1=1) then Hn .u32 (CA .u32 (nv b) 1) 3988292384 else CA .u32 (nv b) 1)=nv (sB b):=by
 have hs:CA .u32 (nv b) 1=nv (b>>>1):=Wo (n:=1) (by omega) b;have e:bv 3988292384=3988292384#32:=by decide
 rw[Ad5,hs,S0,Un,e];unfold sB
 cases b.getLsbD 0<;>rfl
def Yq (n:Nat):Ai:=[UInt8.ofNat (n/16777216),UInt8.ofNat (n/65536),UInt8.ofNat (n/256),UInt8.ofNat n]
def GA:Ai→Nat
 | a::b::c::d::_=>((a.toNat*256+b.toNat)*256+c.toNat)*256+d.toNat
 | _=>0
def JQ (c:UInt8):BitVec 32:=BitVec.ofNat 32 c.toNat
def AaZ (b:BitVec 32):Ai→BitVec 32
 | []=>b
 | c::s=>AaZ (Uz 8 (b^^^JQ c)) s
def Q1 (s:Ai):Nat:=(~~~ (AaZ 4294967295#32 s)).toNat
theorem Ac9 (s:Ai):Q1 s<4294967296:=(~~~ (AaZ 4294967295#32 s)).isLt
def CE (b:Ai):Ai:=Yq b.length++Yq (Q1 b)++b
theorem Eg (b:Ai):(CE b).length=8+b.length:=by simp[CE,Yq];omega
def D8 (s:Ai):Ai×Int×Int:=
 bif decide (s.length<8) then([],0,14)
 else bif decide (262136<GA s) then([],0,13)
 else bif decide (s.length-8<GA s) then([],0,14)
 else bif !decide (Q1 ((s.drop 8).take (GA s))=GA (s.drop 4)) then([],0,13)
 else((s.drop 8).take (GA s),((8+GA s:Nat):Int),0)
def Cj:Nat→Ai→List Ai×Nat
 | 0,_=>([],0)
 | n+1,s=>bif decide ((D8 s).2.2=0) then((D8 s).1::(Cj n (s.drop (D8 s).2.1.toNat)).1,(D8 s).2.1.toNat+(Cj n (s.drop (D8 s).2.1.toNat)).2) else([],0)
theorem T8 {n:Nat}(h:n<4294967296)(r:Ai):GA (Yq n++r)=n:=by
 show((((UInt8.ofNat (n/16777216)).toNat*256+(UInt8.ofNat (n/65536)).toNat)*256+(UInt8.ofNat (n/256)).toNat)*256+(UInt8.ofNat n).toNat)=n;simp only[UInt8.toNat_ofNat'];omega
theorem Ur {s:Ai}(h:4≤s.length):Yq (GA s)=s.take 4:=by
 match s,h with
 | a::b::c::d::r,_=>
  have ha:=a.toNat_lt;have hb:=b.toNat_lt;have hc:=c.toNat_lt;have hd:=d.toNat_lt;show Yq (((a.toNat*256+b.toNat)*256+c.toNat)*256+d.toNat)=[a,b,c,d];unfold Yq;have e:∀x y:UInt8,x.toNat=y.toNat→x=y:=λx y h=>UInt8.toNat_inj.1 h
  congr 1
  ·apply e;simp only[UInt8.toNat_ofNat'];omega
  ·congr 1
   ·apply e;simp only[UInt8.toNat_ofNat'];omega
   ·congr 1
    ·apply e;simp only[UInt8.toNat_ofNat'];omega
    ·congr 1
     apply e;simp only[UInt8.toNat_ofNat'];omega
theorem Acd (s:Ai):GA s<4294967296:=by
 match s with
 | a::b::c::d::r=>
  have ha:=a.toNat_lt;have hb:=b.toNat_lt;have hc:=c.toNat_lt;have hd:=d.toNat_lt;show((a.toNat*256+b.toNat)*256+c.toNat)*256+d.toNat<_;omega
 | []=>decide
 | [_]=>show 0<_;decide
 | [_,_]=>show 0<_;decide
 | [_,_,_]=>show 0<_;decide
theorem Xt {b:Ai}(h:b.length≤262136)(r:Ai):D8 (CE b++r)=(b,((8+b.length:Nat):Int),0):=by
 have h1:GA (CE b++r)=b.length:=by
  unfold CE;rw[Agk,Agk];exact T8 (by omega) _
 have h2:GA ((CE b++r).drop 4)=Q1 b:=by
  have:(CE b++r).drop 4=Yq (Q1 b)++(b++r):=by unfold CE Yq;simp
  rw[this];exact T8 (Ac9 b) _
 have h3:((CE b++r).drop 8).take b.length=b:=by
  have:(CE b++r).drop 8=b++r:=by unfold CE Yq;simp
  rw[this];simp
 have hl:=Eg b;unfold D8;rw[h1,h2,h3,AfK,hl];rw[AfG (by omega),AfG (by omega),AfG (by omega),AfI rfl];rfl
theorem Pj {s:Ai}(h:(D8 s).2.2=0):(D8 s).1.length≤262136∧(D8 s).2.1=((8+(D8 s).1.length:Nat):Int)∧s=CE (D8 s).1++s.drop (8+(D8 s).1.length):=by
 unfold D8 at h ⊢
 cases h1:decide (s.length<8) with
 | true=>rw[h1] at h;cases h
 | false=>
  rw[h1] at h;simp only[AfH] at h ⊢
  cases h2:decide (262136<GA s) with
  | true=>rw[h2] at h;cases h
  | false=>
   rw[h2] at h;simp only[AfH] at h ⊢
   cases h3:decide (s.length-8<GA s) with
   | true=>rw[h3] at h;cases h
   | false=>
    rw[h3] at h;simp only[AfH] at h ⊢
    cases h4:decide (Q1 ((s.drop 8).take (GA s))=GA (s.drop 4)) with
    | false=>rw[h4] at h;cases h
    | true=>
     simp only[AfE,AfF] at h1 h2 h3 h4;simp only[AfR,AfH];have hl:((s.drop 8).take (GA s)).length=GA s:=by simp;omega
     refine⟨by omega,by rw[hl],?_⟩;rw[hl];unfold CE;rw[hl,Ur (by omega),h4,Ur (by simp;omega)];rw[Agk,Agk,← List.drop_drop,Ag7];rw[show s.drop 8=(s.drop 4).drop 4 from by rw[List.drop_drop],Ag7,Ag7]
theorem Qz (l:List Ai):∀b∈l,8+b.length≤(l.flatMap CE).length:=by
 induction l with
 | nil=>intro b hb;cases hb
 | cons c l ih=>
  intro b hb;rw[AgA,AfK,Eg];rcases List.mem_cons.1 hb with rfl | hb
  ·omega
  ·have:=ih b hb;omega
theorem Tv:(D8 []).2.2=14:=rfl
theorem NG:∀(l:List Ai) (n:Nat),(∀b∈l,b.length≤262136)→l.length≤n→Cj n (l.flatMap CE)=(l,(l.flatMap CE).length)
 | [],0,_,_=>rfl
 | [],n+1,_,_=>by
  rw[Cj];show(bif decide ((D8 []).2.2=0) then _ else _)=_;rw[Tv];rfl
 | b::l,0,_,h=>by simp at h
 | b::l,n+1,hb,h=>by
  simp only[AfJ] at h;rw[Cj,AgA,Xt (hb b (by simp))];have hd:(CE b++l.flatMap CE).drop (8+b.length)=l.flatMap CE:=by rw[← Eg b];simp
  simp only[decide_true,AfL];rw[show(((8+b.length:Nat):Int)).toNat=8+b.length from by omega,hd,NG l n (λx hx=>hb x (by simp[hx])) (by omega)];rw[AfK,Eg]
theorem MW:∀(n:Nat) (s:Ai),(Cj n s).2≤s.length∧s.take (Cj n s).2=(Cj n s).1.flatMap CE∧∀b∈(Cj n s).1,b.length≤262136
 | 0,s=>⟨Agn _,by simp[Cj],λb hb=>by cases hb⟩
 | n+1,s=>by
  rw[Cj]
  cases h:decide ((D8 s).2.2=0) with
  | false=>exact⟨Agn _,by simp,λb hb=>by cases hb⟩
  | true=>
   simp only[AfL];obtain⟨h1,h2,h3⟩:=Pj (AfS h);generalize(D8 s).1=b at *;rw[h2,show(((8+b.length:Nat):Int)).toNat=8+b.length from by omega];obtain⟨g1,g2,g3⟩:=MW n (s.drop (8+b.length));generalize Cj n (s.drop (8+b.length))=t at *;have hl:s.length=8+b.length+(s.drop (8+b.length)).length:=by
    have:=congrArg List.length h3;rw[AfK,Eg] at this;exact this
   refine⟨by omega,?_,λx hx=>?_⟩
   ·rw[AgA,← g2]
    conv=>lhs;rw[h3]
    rw[← Eg b,List.take_length_add_append]
   ·rcases List.mem_cons.1 hx with rfl | hx
    ·exact h1
    ·exact g3 x hx
def MA (l:List Ai):Ai×Int:=bif decide ((l.flatMap CE).length≤262144) then(l.flatMap CE,0) else([],3)
theorem Sg (s:Ai):Qm (D7 s)=s:=by
 unfold Qm D7;rw[AgD];have:((λx:Int=>UInt8.ofNat x.toNat) ∘ λc:UInt8=>(c.toNat:Int))=id:=by funext c;simp
 rw[this,List.map_id]
theorem VE (a b:Ai):D7 a++D7 b=D7 (a++b):=by simp[D7]
theorem UC (a:Ai):(D7 a).length=a.length:=by simp[D7]
theorem OI (n:Nat):IntKind.wrap .u8 (n:Int)=((UInt8.ofNat n).toNat:Int):=by
 simp[IntKind.wrap,IntKind.signed,IntKind.bits]
theorem Afl (n:Nat):CA .i64 (n:Int) 8=((n/256:Nat):Int):=by
 unfold CA;have e:min (8:Int).toNat (IntKind.bits .i64)=8:=by decide
 rw[e,Int.fdiv_eq_ediv_of_nonneg _ (by decide)];simp
def PO (f:Ai):Ai:=UInt8.ofNat (f.length/256)::UInt8.ofNat (f.length % 256)::f
def EJ (l:List Ai):Ai:=UInt8.ofNat l.length::l.flatMap PO
def Tw (l:List Ai):Bool:=decide (l.length≤64)&&l.all λf=>decide (f.length≤4000)
def NK (l:List Ai):Ai×Int:=bif Tw l then(EJ l,0) else([],3)
theorem Xs (l:List Ai)(b:List Int×Int→Option (Stp (List Int×Int) (Out (Ai×Int) (List Int))))(hl:l.length≤64)
  (hb:∀(acc:List Int) (x:Int) (f:Ai),acc.length≤300000→0≤x→x<(l.length:Int)→Aq l x=f→b (acc,x)=bif decide (4000<f.length) then some (.out (.ret ([],3))) else some (.next (acc++D7 (PO f),x+1)))
  (he:∀acc,b (acc,(l.length:Int))=some (.out (.go acc))) {F:Nat} (hF:64<F) :
  Bq (Ci b F (D7 [UInt8.ofNat l.length],0)) (BO λq=>some (Qm q,0))=some (NK l):=by
 have key:∀(k:Nat) (F:Nat) (acc:Ai),k<F→k≤l.length→acc.length≤1+(l.length-k)*4002→
   Bq (Ci b F (D7 acc,((l.length-k:Nat):Int))) (BO λq=>some (Qm q,0))=some (bif (l.drop (l.length-k)).all (λf=>decide (f.length≤4000)) then(acc++(l.drop (l.length-k)).flatMap PO,0) else([],3)):=by
  intro k
  induction k with
  | zero=>
   intro F acc hF _ _
   cases F with
   | zero=>omega
   | succ F=>rw[Ci,Nat.sub_zero,he];simp[Bq,BO,Sg]
  | succ k ih=>
   intro F acc hF hk hacc
   cases F with
   | zero=>omega
   | succ F=>
    have hlt:l.length-(k+1)<l.length:=by omega
    have hat:Aq l ((l.length-(k+1):Nat):Int)=l[l.length-(k+1)]:=by simp[Aq,hlt]
    have hd:l.drop (l.length-(k+1))=l[l.length-(k+1)]::l.drop (l.length-k):=by
     rw[List.drop_eq_getElem_cons hlt];congr 2;omega
    have ha:(l.length-(k+1))*4002≤64*4002:=Nat.mul_le_mul_right _ (by omega);rw[Ci,hb _ _ _ (by rw[UC];omega) (by omega) (by omega) hat,hd];generalize l[l.length-(k+1)]=f at *
    cases h4:decide (4000<f.length) with
    | true=>
     simp only[AfF] at h4;rw[Agu,AfG (by omega),Agc];rfl
    | false=>
     simp only[AfE] at h4;have e2:(l.length-(k+1))*4002+4002=(l.length-k)*4002:=by
      rw[show l.length-k=l.length-(k+1)+1 from by omega,Nat.succ_mul]
     have:=ih F (acc++PO f) (by omega) (by omega) (by simp[PO];omega);rw[show((l.length-(k+1):Nat):Int)+1=((l.length-k:Nat):Int) from by omega];simp only[AfH,VE];rw[this,Agu,AfI (by omega),AfT,AgA,Agk]
 have:=key l.length F [UInt8.ofNat l.length] (by omega) (AfZ _) (by simp);simp only[Nat.sub_self,List.drop_zero] at this;refine Eq.trans this ?_;unfold NK Tw EJ;rw[AfI hl,AfT];rfl
theorem PV {α:Type}{n:Nat}{x:Option α}(h:n≤1000000000):Bd (Dz 1 n) x=x:=Cq (AfI (by omega))
theorem RA {α:Type}{n:Nat}{x:Option α}(h:n≤1000000000):Bd (Dz 16 n) x=x:=Cq (AfI (by omega))
theorem Ui (f:Ai):decide ((4000:Int)<(f.length:Int))=decide (4000<f.length):=by rw[AfY];simp;omega
theorem AaH {F:Nat}{l:List Ai}(hF:64<F):TZ F l=some (NK l):=by
 unfold TZ
 by_cases ha:l.length≤64
 ·rw[AN (AfG (by omega)),OI];refine Xs l _ ha (λacc x f hacc h0 hx hat=>?_) (λacc=>?_) hF
  ·show Hi l acc x=_;unfold Hi;rw[AZ (AfI hx),Bm h0 hx,hat,Ui]
   cases h4:decide (4000<f.length) with
   | true=>rfl
   | false=>
    simp only[AfE] at h4;have e1:([IntKind.wrap .u8 (CA .i64 (f.length:Int) 8),IntKind.wrap .u8 (f.length:Int)]:List Int)++D7 f=D7 (PO f):=by
     rw[Afl,OI,OI];simp[D7,PO]
    rw[AN rfl,PV (by simp;omega),PV (by simp;omega),Ba (by omega) (by omega),Agk,e1];rfl
  ·show Hi l acc _=_;unfold Hi;rw[AN (AfG (by omega))]
 ·rw[AZ (AfI (by omega))];unfold NK Tw;rw[AfG ha];rfl
def Of:Nat→Ai→List Ai→List Ai×Int
 | 0,s,acc=>bif decide (s=[]) then(acc,0) else([],13)
 | n+1,a::b::r,acc=>bif decide (4000<a.toNat*256+b.toNat) then([],13) else bif decide (r.length<a.toNat*256+b.toNat) then([],14) else Of n (r.drop (a.toNat*256+b.toNat)) (acc++[r.take (a.toNat*256+b.toNat)])
 | n+1,_,acc=>([],14)
def Ki:Ai→List Ai×Int
 | []=>([],14)
 | c::s=>bif decide (64<c.toNat) then([],13) else Of c.toNat s []
theorem Aft (a b:UInt8):JX .i64 (D2 .i64 (a.toNat:Int) 8) (b.toNat:Int)=((a.toNat*256+b.toNat:Nat):Int):=by
 have ha:=a.toNat_lt;have hb:=b.toNat_lt;have e0:D2 .i64 (a.toNat:Int) 8=((a.toNat*256:Nat):Int):=by
  unfold D2;have e:min (8:Int).toNat (IntKind.bits .i64)=8:=by decide
  rw[e,IntKind.wrap_i64];omega
 rw[e0];unfold JX;have h1:(BitVec.ofInt (IntKind.bits .i64) ((a.toNat*256:Nat):Int)||| BitVec.ofInt (IntKind.bits .i64) (b.toNat:Int)).toNat=a.toNat*256+b.toNat:=by
  rw[BitVec.toNat_or,BitVec.toNat_ofInt,BitVec.toNat_ofInt];have hbits:IntKind.bits .i64=64:=rfl;rw[hbits];have e1:(((a.toNat*256:Nat):Int) % ((2 ^ 64:Nat):Int)).toNat=a.toNat*256:=by omega
  have e2:(((b.toNat:Nat):Int) % ((2 ^ 64:Nat):Int)).toNat=b.toNat:=by omega
  rw[e1,e2,show a.toNat*256=a.toNat <<< 8 from by rw[Nat.shiftLeft_eq]];rw[Nat.shiftLeft_add_eq_or_of_lt (by simpa using hb)]
 rw[h1,IntKind.wrap_i64];omega
theorem AeQ (a:UInt8)(r:Ai):B8 (a::r) 0=(a.toNat:Int):=rfl
theorem Af0 (a b:UInt8)(r:Ai):B8 (a::b::r) 1=(b.toNat:Int):=rfl
theorem AaF (s:Ai)(c:UInt8)(hs:B8 s 0=(c.toNat:Int)):∀(k:Nat) (F:Nat) (t:Ai) (acc:List Ai) (z i:Int),k<F→i+k=(c.toNat:Int)→0≤i→acc.length≤64-k→k≤64→t.length≤1000000000→
  Bq (Ci (λσ=>Da s σ.1 σ.2.1 σ.2.2.1 σ.2.2.2) F (t,acc,z,i)) (BO λν=>Gc ν.1 ν.2)=some (Of k t acc)
 | k,0,t,acc,z,i,h,_,_,_,_,_=>by omega
 | 0,F+1,t,acc,z,i,hF,hi,h0,ha,hk,ht=>by
  rw[Ci];have hb:Da s t acc z i=some (.out (.go (t,acc))):=by
   unfold Da;rw[AN (AfG (by omega))]
  simp only[hb];show Gc t acc=_;unfold Gc Of
  cases h:decide (t=[]) with
  | true=>rw[AN (p:=!true) rfl,C7 (by omega) (Agp _)];simp
  | false=>rfl
 | k+1,F+1,t,acc,z,i,hF,hi,h0,ha,hk,ht=>by
  rw[Ci];have hcc:=c.toNat_lt
  match t,ht with
  | [],ht=>
   have hb:Da s [] acc z i=some (.out (.ret ([],14))):=by
    unfold Da;rw[AZ (AfI (by omega)),AZ (by decide)];rfl
   simp only[hb];rfl
  | [a],ht=>
   have hb:Da s [a] acc z i=some (.out (.ret ([],14))):=by
    unfold Da;rw[AZ (AfI (by omega)),AZ (by simp)];rfl
   simp only[hb];rfl
  | a::b::r,ht=>
   have haa:=a.toNat_lt;have hbb:=b.toNat_lt;simp only[AfJ] at ht;have hd:List.drop (Int.toNat 2) (a::b::r)=r:=rfl;have hb:Da s (a::b::r) acc z i=bif decide (4000<a.toNat*256+b.toNat) then some (.out (.ret ([],13))) else bif decide (r.length<a.toNat*256+b.toNat) then some (.out (.ret ([],14))) else some (.next (r.drop (a.toNat*256+b.toNat),acc++[r.take (a.toNat*256+b.toNat)],((a.toNat*256+b.toNat:Nat):Int),i+1)):=by
    unfold Da;rw[AZ (AfI (by omega)),AN (AfG (by simp only[AfJ];omega)),AeQ,Af0,hd,Aft];have hlen:((a::b::r).length:Int)=(r.length:Int)+2:=by simp only[AfJ];omega
    rw[hlen,Bm (by omega) (by omega),Ba (by omega) (by omega),Bm (by omega) (by omega),Ba (by omega) (by omega),C7 (by omega) (by omega)];generalize a.toNat*256+b.toNat=m;rw[show decide ((4000:Int)<(m:Int))=decide (4000<m) from by rw[AfY];simp;omega,show decide ((r.length:Int)<(m:Int))=decide (r.length<m) from by rw[AfY];simp]
    cases h1:decide (4000<m) with
    | true=>rfl
    | false=>
     cases h2:decide (r.length<m) with
     | true=>rfl
     | false=>
      simp only[AfE] at h1 h2;rw[AN rfl,AN rfl,C7 (by omega) (by omega),RA (by simp;omega),Ba (by omega) (by omega)];rfl
   simp only[hb];rw[Of]
   cases h1:decide (4000<a.toNat*256+b.toNat) with
   | true=>rfl
   | false=>
    cases h2:decide (r.length<a.toNat*256+b.toNat) with
    | true=>rfl
    | false=>
     simp only[AfH];exact AaF s c hs k F _ _ _ _ (by omega) (by omega) (by omega) (by simp;omega) (by omega) (by simp;omega)
theorem Vl {F:Nat}{s:Ai}(hF:64<F)(hs:s.length≤1000000000):ME F s=some (Ki s):=by
 unfold ME
 cases s with
 | nil=>rfl
 | cons c t=>
  have hc:=c.toNat_lt;simp only[AfJ] at hs;rw[AN (by simp),Bm (by omega) (by simp only[AfJ];omega),AeQ,Ba (by omega) (by omega),C7 (by omega) (by simp only[AfJ];omega)];rw[show decide ((64:Int)<(c.toNat:Int))=decide (64<c.toNat) from by rw[AfY];simp;omega];rw[Ki]
  cases h:decide (64<c.toNat) with
  | true=>rfl
  | false=>
   simp only[AfE] at h;rw[AN rfl];exact AaF (c::t) c rfl c.toNat F t [] 0 0 (by omega) (by omega) (Agp 0) (by simp) (by omega) (by omega)
theorem Abi {s:Ai}{k:Nat}{a:UInt8}{r:Ai}(h:s.drop k=a::r):B8 s (k:Int)=(a.toNat:Int):=by
 have:s[k]? =some a:=by rw[← List.head?_drop,h];rfl
 simp[B8,this]
theorem QC:∀(l:List Ai) (acc:List Ai),(l.all λf=>decide (f.length≤4000))=true→Of l.length (l.flatMap PO) acc=(acc++l,0)
 | [],acc,_=>by simp[Of]
 | f::l,acc,h=>by
  simp only[Agu,AfM,AfF] at h;rw[AgA,AfJ];show Of (l.length+1) (UInt8.ofNat (f.length/256)::UInt8.ofNat (f.length % 256)::(f++l.flatMap PO)) acc=_;rw[Of];have e:(UInt8.ofNat (f.length/256)).toNat*256+(UInt8.ofNat (f.length % 256)).toNat=f.length:=by
   simp only[UInt8.toNat_ofNat'];omega
  rw[e,AfG (by omega),AfG (by simp),AfH,AfH,List.take_left,List.drop_left,QC l _ (by simpa using h.2)];simp
theorem Te {l:List Ai}(h:Tw l=true):Ki (EJ l)=(l,0):=by
 unfold Tw at h;simp only[AfM,AfF] at h;unfold EJ;rw[Ki];have e:(UInt8.ofNat l.length).toNat=l.length:=by simp only[UInt8.toNat_ofNat'];omega
 rw[e,AfG (by omega),AfH,QC l [] h.2];rfl
theorem Tf:∀(n:Nat) (s:Ai) (acc:List Ai) (q:List Ai),Of n s acc=(q,0)→∃l,q=acc++l∧l.length=n∧(l.all λf=>decide (f.length≤4000))=true∧l.flatMap PO=s
 | 0,s,acc,q,h=>by
  rw[Of] at h
  cases hs:decide (s=[]) with
  | true=>rw[hs] at h;simp only[AfL,Prod.mk.injEq] at h;exact⟨[],by simp[h.1],rfl,rfl,by rw[AfS hs];rfl⟩
  | false=>rw[hs] at h;cases h
 | n+1,[],acc,q,h=>by have h2:(([]:List Ai),(14:Int))=(q,0):=h;cases h2
 | n+1,[a],acc,q,h=>by have h2:(([]:List Ai),(14:Int))=(q,0):=h;cases h2
 | n+1,a::b::r,acc,q,h=>by
  rw[Of] at h;have ha:=a.toNat_lt;have hb:=b.toNat_lt
  cases h1:decide (4000<a.toNat*256+b.toNat) with
  | true=>rw[h1] at h;cases h
  | false=>
   cases h2:decide (r.length<a.toNat*256+b.toNat) with
   | true=>rw[h1,h2] at h;cases h
   | false=>
    rw[h1,h2] at h;simp only[AfH] at h;simp only[AfE] at h1 h2;obtain⟨l,e1,e2,e3,e4⟩:=Tf n _ _ _ h;have hl:(r.take (a.toNat*256+b.toNat)).length=a.toNat*256+b.toNat:=by simp;omega
    refine⟨r.take (a.toNat*256+b.toNat)::l,by rw[e1];simp,by simp[e2],?_,?_⟩
    ·rw[Agu,e3,Agg,AfF,hl];omega
    ·rw[AgA,e4];unfold PO;rw[hl];have x1:UInt8.ofNat ((a.toNat*256+b.toNat)/256)=a:=by
      apply UInt8.toNat_inj.1;simp only[UInt8.toNat_ofNat'];omega
     have x2:UInt8.ofNat ((a.toNat*256+b.toNat) % 256)=b:=by
      apply UInt8.toNat_inj.1;simp only[UInt8.toNat_ofNat'];omega
     rw[x1,x2];simp
theorem Z7 {s:Ai}{l:List Ai}(h:Ki s=(l,0)):Tw l=true∧EJ l=s:=by
 cases s with
 | nil=>cases h
 | cons c t=>
  rw[Ki] at h
  cases h1:decide (64<c.toNat) with
  | true=>rw[h1] at h;cases h
  | false=>
   rw[h1] at h;simp only[AfH] at h;simp only[AfE] at h1;obtain⟨l',e1,e2,e3,e4⟩:=Tf _ _ _ _ h;simp only[Agz] at e1;subst e1;unfold Tw EJ;rw[e3,e4,e2,AfI (by omega)];exact⟨rfl,by simp⟩
theorem WZ {s:Ai}{f:Ai}(h:f∈(Ki s).1)(h0:(Ki s).2=0):f.length≤4000:=by
 have:=(Z7 (s:=s) (l:=(Ki s).1) (by rw[← h0])).1;unfold Tw at this;simp only[AfM,AfF,Ags] at this;exact this.2 f h
def tb (i:Nat):Int:=nv (Uz 8 (BitVec.ofNat 32 i))
def JT (x:Nat):List Int:=(List.range 256).map λi=>if i<x then tb i else 0
theorem Kk (x:Nat):(JT x).length=256:=by simp[JT]
theorem Za {x:Nat}(h:x<256):(JT x).set x (tb x)=JT (x+1):=by
 apply List.ext_getElem (by simp[JT]);intro i h1 h2;simp only[JT,List.getElem_set,List.getElem_map,List.getElem_range]
 by_cases e:x=i
 ·subst e;simp
 ·rw[Agt e]
  by_cases g:i<x
  ·rw[Ag9 g,Ag9 (by omega)]
  ·rw[Agt g,Agt (by omega)]
theorem Adi:JT 0=List.replicate 256 (0:Int):=by
 apply List.ext_getElem
 ·rw[Kk,List.length_replicate]
 ·intro i h1 h2;rw[List.getElem_replicate];simp only[JT,List.getElem_map,List.getElem_range,Nat.not_lt_zero,Ag5]
theorem AdT {i:Nat}(h:i<256):Aq (JT 256) (i:Int)=tb i:=by simp[Aq,JT,h]
theorem Aa6 (k:Nat):∀(n:Nat) (b:BitVec 32) (x:Int),0≤x→x+k=8→k<n→Ci (λσ:Int×Int=>GS σ.1 σ.2) n (nv b,x)=some (.go (nv (Uz k b),8,false)):=by
 induction k with
 | zero=>
  intro n b x h0 h hn;obtain⟨n,rfl⟩:∃m,n=m+1:=⟨n-1,by omega⟩
  have:x=8:=by omega
  subst this;rfl
 | succ k ih=>
  intro n b x h0 h hn;obtain⟨n,rfl⟩:∃m,n=m+1:=⟨n-1,by omega⟩
  have hb:GS (nv b) x=some (.next (nv (sB b),x+1)):=by
   unfold GS;rw[AZ (AfI (by omega)),Ba (by omega) (by omega),Zn]
  rw[Ci,hb];exact ih n (sB b) (x+1) (by omega) (by omega) (by omega)
theorem YN (n:Nat):IntKind.wrap .u32 (n:Int)=nv (BitVec.ofNat 32 n):=by
 unfold nv;rw[BitVec.toNat_ofNat];simp[IntKind.wrap,IntKind.signed,IntKind.bits]
theorem TU {F:Nat}(hF:8<F)(k:Nat):∀(n:Nat) (x:Nat),x+k=256→k<n→Ci (λσ:Int×List Int=>GT F σ.1 σ.2) n ((x:Int),JT x)=some (.go (JT 256)):=by
 induction k with
 | zero=>
  intro n x h hn;obtain⟨n,rfl⟩:∃m,n=m+1:=⟨n-1,by omega⟩
  have:x=256:=by omega
  subst this;rfl
 | succ k ih=>
  intro n x h hn;obtain⟨n,rfl⟩:∃m,n=m+1:=⟨n-1,by omega⟩
  have hb:GT F (x:Int) (JT x)=some (.next (((x+1:Nat):Int),JT (x+1))):=by
   unfold GT;rw[AZ (AfI (by omega)),YN,Bs (Aa6 8 F _ 0 (by omega) (by omega) hF),J4];unfold Jk;rw[show nv (Uz 8 (BitVec.ofNat 32 x))=tb x from rfl];rw[Bm (by omega) (by omega),Bm (by omega) (by rw[Kk];omega),Ba (by omega) (by omega),Int.toNat_natCast,Za (by omega)];rfl
  rw[Ci,hb];exact ih n (x+1) (by omega) (by omega)
theorem XU {F:Nat}(hF:300<F):PC F=some (JT 256):=by
 unfold PC;have:=TU (F:=F) (by omega) 256 F 0 (by omega) (by omega);rw[Adi] at this;rw[show((0:Int),List.replicate 256 (0:Int))=(((0:Nat):Int),List.replicate 256 (0:Int)) from rfl,Bs this,J4];unfold Jl;rw[Cq (AfI (Kk 256)),Cq (AfI List.length_replicate)]
theorem Uu {α:Type}[Inhabited α]{l:List α}{i:Nat}{b:α}{r:List α}(h:l.drop i=b::r):Aq l (i:Int)=b∧i<l.length∧l.drop (i+1)=r:=by
 have hl:i<l.length:=by
  have:=congrArg List.length h;simp only[Agy,AfJ] at this;omega
 have hg:l[i]? =some b:=by
  have:=congrArg (λt=>t[0]?) h;simpa using this
 refine⟨by simp[Aq,hg],hl,?_⟩;rw[← List.drop_drop,h];rfl
theorem Abd (b:BitVec 32)(c:UInt8):Hn .u8 (IntKind.wrap .u8 (nv b)) (c.toNat:Int)=(((b^^^JQ c).toNat % 256:Nat):Int):=by
 have hc:=c.toNat_lt;have e1:IntKind.wrap .u8 (nv b)=((b.toNat % 256:Nat):Int):=by
  unfold nv;simp[IntKind.wrap,IntKind.signed,IntKind.bits]
 have h1:(BitVec.ofInt (IntKind.bits .u8) ((b.toNat % 256:Nat):Int)^^^BitVec.ofInt (IntKind.bits .u8) (c.toNat:Int)).toNat=(b^^^JQ c).toNat % 256:=by
  rw[BitVec.toNat_xor,BitVec.toNat_ofInt,BitVec.toNat_ofInt,BitVec.toNat_xor];have hbits:IntKind.bits .u8=8:=rfl;have e1:(((b.toNat % 256:Nat):Int) % ((2 ^ 8:Nat):Int)).toNat=b.toNat % 256:=by omega
  have e2:(((c.toNat:Nat):Int) % ((2 ^ 8:Nat):Int)).toNat=c.toNat % 256:=by omega
  have e3:(JQ c).toNat=c.toNat:=by unfold JQ;rw[BitVec.toNat_ofNat];omega
  rw[hbits,e1,e2,e3];exact(Nat.xor_mod_two_pow (n:=8)).symm
 unfold Hn;rw[e1,h1];simp[IntKind.wrap,IntKind.signed,IntKind.bits]
theorem OH (b:BitVec 32)(c:UInt8):(b^^^JQ c)>>>8=b>>>8:=by
 rw[BitVec.ushiftRight_xor_distrib];have:JQ c>>>8=0#32:=by
  apply BitVec.eq_of_toNat_eq;have hc:=c.toNat_lt;rw[BitVec.toNat_ushiftRight,Nat.shiftRight_eq_div_pow];unfold JQ;rw[BitVec.toNat_ofNat];show c.toNat % 4294967296/256=0;omega
 rw[this];simp
theorem Aak (z:BitVec 32):BitVec.ofNat 32 (z.toNat % 256)=z&&& 255#32:=by
 apply BitVec.eq_of_toNat_eq;have hz:=z.isLt;rw[BitVec.toNat_ofNat,BitVec.toNat_and];have:z.toNat&&& 255=z.toNat % 256:=Nat.and_two_pow_sub_one_eq_mod z.toNat 8;show z.toNat % 256 % 4294967296=z.toNat&&& 255;rw[this];omega
theorem AaY (b:BitVec 32)(c:UInt8):Hn .u32 (tb ((b^^^JQ c).toNat % 256)) (CA .u32 (nv b) 8)=nv (Uz 8 (b^^^JQ c)):=by
 unfold tb;have hs:CA .u32 (nv b) 8=nv (b>>>8):=Wo (n:=8) (by omega) b;rw[hs,S0,Un,Un,Aak,← OH b c,← Xi]
theorem Ady (b:BitVec 32):XS .u32 (nv b)=((~~~b).toNat:Int):=by
 show Hn .u32 4294967295 (nv b)=_;rw[S0,Un];have:bv 4294967295=BitVec.allOnes 32:=by decide
 rw[this,BitVec.allOnes_xor];rfl
theorem Rw (s:Ai):∀(r:Ai) (n i:Nat) (b:BitVec 32),s.drop i=r→s.length≤1000000000→r.length<n→i≤s.length→Ci (λσ:Int×Int=>HA s (JT 256) σ.1 σ.2) n (nv b,(i:Int))=some (.go (nv (AaZ b r)))
 | [],n,i,b,h,hs,hn,hi=>by
  obtain⟨n,rfl⟩:∃m,n=m+1:=⟨n-1,by simp at hn;omega⟩
  have:s.length≤i:=by simpa using h
  have hb:HA s (JT 256) (nv b) (i:Int)=some (.out (.go (nv b))):=by
   unfold HA;rw[AN (AfG (by omega))]
  rw[Ci,hb];rfl
 | c::r,n,i,b,h,hs,hn,hi=>by
  obtain⟨n,rfl⟩:∃m,n=m+1:=⟨n-1,by simp at hn;omega⟩
  obtain⟨_,hl,hd⟩:=Uu h;have hbt:=Abi h;have hz:(b^^^JQ c).toNat % 256<256:=by omega
  have hb:HA s (JT 256) (nv b) (i:Int)=some (.next (nv (Uz 8 (b^^^JQ c)),((i+1:Nat):Int))):=by
   unfold HA;rw[AZ (AfI (by omega)),Bm (by omega) (by omega),hbt,Abd,Bm (by omega) (by omega),Bm (by omega) (by rw[Kk];omega),Ba (by omega) (by omega),AdT hz,AaY];rfl
  rw[Ci,hb];exact Rw s r n (i+1) _ hd hs (by simp at hn;omega) (by omega)
theorem Wp {F:Nat}{s:Ai}(hF:300<F)(hs:s.length<F)(hl:s.length≤1000000000):XV F s=some (Q1 s:Int):=by
 unfold XV;rw[Bs (XU hF),Cq (AfI List.length_replicate),Cq (AfI (Kk 256))];rw[show((4294967295:Int),(0:Int))=(nv 4294967295#32,((0:Nat):Int)) from rfl,Bs (Rw s s F 0 _ rfl hl hs (by omega))];show some (XS .u32 (nv (AaZ 4294967295#32 s)))=_;rw[Ady];rfl
theorem Zi (n k:Nat)(h:k≤32):CA .u32 (n:Int) (k:Int)=((n/2 ^ k:Nat):Int):=by
 unfold CA;have e:min (k:Int).toNat (IntKind.bits .u32)=k:=by
  have:IntKind.bits .u32=32:=rfl;rw[this];omega
 rw[e,Int.fdiv_eq_ediv_of_nonneg _ (Int.pow_nonneg (by omega))];simp
theorem AaD (n:Nat):([IntKind.wrap .u8 (CA .u32 (n:Int) 24),IntKind.wrap .u8 (CA .u32 (n:Int) 16),IntKind.wrap .u8 (CA .u32 (n:Int) 8),IntKind.wrap .u8 (n:Int)]:List Int)=D7 (Yq n):=by
 have ha:CA .u32 (n:Int) 24=((n/16777216:Nat):Int):=Zi n 24 (by omega);have hb:CA .u32 (n:Int) 16=((n/65536:Nat):Int):=Zi n 16 (by omega);have h8:CA .u32 (n:Int) 8=((n/256:Nat):Int):=Zi n 8 (by omega);rw[ha,hb,h8,OI,OI,OI,OI];rfl
theorem PI (n:Nat):Li (n:Int)=some (Yq n):=by
 unfold Li;rw[AaD,Sg]
theorem KG {n:Nat}(h:n<4294967296):IntKind.wrap .u32 (n:Int)=(n:Int):=by
 rw[YN];unfold nv;rw[BitVec.toNat_ofNat];omega
theorem AdE (x y:Int):JX .u32 x y=nv (bv x||| bv y):=RH (bv x||| bv y)
theorem S2 {x y:Nat}(hx:x<4294967296)(hy:y<4294967296):JX .u32 (x:Int) (y:Int)=((x||| y:Nat):Int):=by
 rw[AdE];unfold nv;rw[BitVec.toNat_or];have e:∀z:Nat,z<4294967296→(bv (z:Int)).toNat=z:=λz hz=>by
  have:=AcT (x:=(z:Int)) ⟨by omega,by omega⟩;unfold nv at this;exact Int.ofNat_inj.1 this
 rw[e x hx,e y hy]
theorem Zj {n k:Nat}(h:k≤32)(hn:n*2 ^ k<4294967296):D2 .u32 (n:Int) (k:Int)=((n <<< k:Nat):Int):=by
 unfold D2;have e:min (k:Int).toNat (IntKind.bits .u32)=k:=by
  have:IntKind.bits .u32=32:=rfl;rw[this];omega
 rw[e,Nat.shiftLeft_eq,show(n:Int)*2 ^ k=((n*2 ^ k:Nat):Int) from by simp,KG hn]
theorem Adq {a b c d:Nat}(ha:a<256)(hb:b<256)(hc:c<256)(hd:d<256):((a <<< 24||| b <<< 16)||| c <<< 8)||| d=((a*256+b)*256+c)*256+d:=by
 have e1:a <<< 24||| b <<< 16=(a*256+b) <<< 16:=by
  rw[← Nat.shiftLeft_add_eq_or_of_lt (by rw[Nat.shiftLeft_eq];omega)];simp only[Nat.shiftLeft_eq];omega
 have e2:(a*256+b) <<< 16||| c <<< 8=((a*256+b)*256+c) <<< 8:=by
  rw[← Nat.shiftLeft_add_eq_or_of_lt (by rw[Nat.shiftLeft_eq];omega)];simp only[Nat.shiftLeft_eq];omega
 rw[e1,e2,← Nat.shiftLeft_add_eq_or_of_lt (by omega)];simp only[Nat.shiftLeft_eq]
theorem PG {s:Ai}(h:4≤s.length):Lh s=some (GA s:Int):=by
 match s,h with
 | a::b::c::d::r,_=>
  have ha:=a.toNat_lt;have hb:=b.toNat_lt;have hc:=c.toNat_lt;have hd:=d.toNat_lt;unfold Lh;rw[Bm (by omega) (by simp only[AfJ];omega),Bm (by omega) (by simp only[AfJ];omega),Bm (by omega) (by simp only[AfJ];omega),Bm (by omega) (by simp only[AfJ];omega)];have b0:B8 (a::b::c::d::r) 0=(a.toNat:Int):=rfl;have b1:B8 (a::b::c::d::r) 1=(b.toNat:Int):=rfl;have b2:B8 (a::b::c::d::r) 2=(c.toNat:Int):=rfl;have b3:B8 (a::b::c::d::r) 3=(d.toNat:Int):=rfl;have s1:D2 .u32 (a.toNat:Int) 24=((a.toNat <<< 24:Nat):Int):=Zj (k:=24) (by omega) (by omega);have s2:D2 .u32 (b.toNat:Int) 16=((b.toNat <<< 16:Nat):Int):=Zj (k:=16) (by omega) (by omega);have s3:D2 .u32 (c.toNat:Int) 8=((c.toNat <<< 8:Nat):Int):=Zj (k:=8) (by omega) (by omega);have l1:a.toNat <<< 24<4294967296:=by rw[Nat.shiftLeft_eq];omega
  have l2:b.toNat <<< 16<4294967296:=by rw[Nat.shiftLeft_eq];omega
  have l3:c.toNat <<< 8<4294967296:=by rw[Nat.shiftLeft_eq];omega
  rw[b0,b1,b2,b3,KG (by omega),KG (by omega),KG (by omega),KG (by omega),s1,s2,s3,S2 l1 l2,S2 (Nat.or_lt_two_pow (n:=32) l1 l2) l3,S2 (Nat.or_lt_two_pow (n:=32) (Nat.or_lt_two_pow (n:=32) l1 l2) l3) (by omega),Adq ha hb hc hd];rfl
theorem ID (n:Nat):(Yq n).length=4:=rfl
theorem Dl (s:Ai):(D7 s).length=s.length:=by simp[D7]
theorem TY {F:Nat}(hF:262200<F)(b:Ai):PF F b=some (bif decide (262136<b.length) then([],3) else(CE b,0)):=by
 unfold PF
 cases h:decide (262136<b.length) with
 | true=>rw[AZ (AfI (by have:=AfS h;omega))];rfl
 | false=>
  have h':=Ag0 h;rw[AN (AfG (by omega)),KG (by omega),Bs (PI _),Bs (Wp (by omega) (by omega) (by omega)),Bs (PI _)];rw[Ba (by rw[ID,ID];omega) (by rw[ID,ID];omega),Ba (by rw[AfK,ID,ID];omega) (by rw[AfK,ID,ID];omega)];rfl
theorem WR {n:Nat}(h:n<4294967296):IntKind.wrap .i64 (n:Int)=(n:Int):=by rw[IntKind.wrap_i64];omega
theorem AdR (s:Ai)(n:Nat):List.take (Int.toNat (8+(n:Int))-Int.toNat 8) (List.drop (Int.toNat 8) s)=(s.drop 8).take n:=by
 rw[show Int.toNat (8+(n:Int))-Int.toNat 8=n from by omega];rfl
theorem AaI {F:Nat}(hF:262200<F){s:Ai}(hs:s.length≤1000000000):Ua F s=some (D8 s):=by
 unfold Ua D8
 cases h1:decide (s.length<8) with
 | true=>rw[AZ (AfI (by have:=AfS h1;omega))];rfl
 | false=>
  have h1':=Ag0 h1;have hn:=Acd s;rw[AN (AfG (by omega)),Bs (PG (by omega)),WR hn];simp only[AfH]
  cases h2:decide (262136<GA s) with
  | true=>rw[AZ (AfI (by have:=AfS h2;omega))];rfl
  | false=>
   have h2':=Ag0 h2;rw[AN (AfG (by omega)),Ba (by omega) (by omega)];simp only[AfH]
   cases h3:decide (s.length-8<GA s) with
   | true=>rw[AZ (AfI (by have:=AfS h3;omega))];rfl
   | false=>
    have h3':=Ag0 h3;rw[AN (AfG (by omega)),Ba (by omega) (by omega),C7 (by omega) (by omega),C7 (by omega) (by omega),AdR];have hl:((s.drop 8).take (GA s)).length=GA s:=by simp;omega
    rw[Bs (Wp (by omega) (by rw[hl];omega) (by rw[hl];omega)),C7 (by omega) (by omega),Bs (PG (by simp;omega))];simp only[AfH];rw[show decide (((Q1 ((s.drop 8).take (GA s)):Nat):Int)=((GA (List.drop (Int.toNat 4) s):Nat):Int))=decide (Q1 ((s.drop 8).take (GA s))=GA (s.drop 4)) from by rw[AfY];simp only[AfF];exact Int.ofNat_inj]
    cases decide (Q1 ((s.drop 8).take (GA s))=GA (s.drop 4)) with
    | true=>rfl
    | false=>rfl
theorem OY {O:Type}(s:Ai)(b:List Ai×Int→Option (Stp (List Ai×Int) O))(e:List Ai→Int→O)
  (hb:∀(acc:List Ai) (x:Nat),x≤s.length→acc.length≤x→b (acc,(x:Int))=bif decide ((D8 (s.drop x)).2.2=0) then some (.next (acc++[(D8 (s.drop x)).1],(x:Int)+(D8 (s.drop x)).2.1)) else some (.out (e acc (x:Int)))) :
  ∀(n m:Nat) (acc:List Ai) (x:Nat),x≤s.length→acc.length≤x→s.length-x≤n→n<m→Ci b m (acc,(x:Int))=some (e (acc++(Cj n (s.drop x)).1) ((x+(Cj n (s.drop x)).2:Nat):Int))
 | n,0,acc,x,hx,ha,hn,hm=>by omega
 | n,m+1,acc,x,hx,ha,hn,hm=>by
  rw[Ci,hb acc x hx ha]
  cases h:decide ((D8 (s.drop x)).2.2=0) with
  | false=>
   have:Cj n (s.drop x)=([],0):=by
    cases n with
    | zero=>rfl
    | succ n=>rw[Cj,h];rfl
   rw[this];simp only[AfH,Ag4,Nat.add_zero]
  | true=>
   obtain⟨h1,h2,h3⟩:=Pj (AfS h);have hl:=congrArg List.length h3;rw[AfK,Eg,Agy] at hl
   cases n with
   | zero=>omega
   | succ n=>
    rw[Cj,h];simp only[AfL];rw[h2,show(((8+(D8 (s.drop x)).1.length:Nat):Int)).toNat=8+(D8 (s.drop x)).1.length from by omega,List.drop_drop];rw[show(x:Int)+((8+(D8 (s.drop x)).1.length:Nat):Int)=((x+(8+(D8 (s.drop x)).1.length):Nat):Int) from by omega];rw[OY s b e hb n m _ (x+(8+(D8 (s.drop x)).1.length)) (by omega) (by rw[AfK,Agq];omega) (by omega) (by omega)];rw[Agk,Nat.add_assoc x];rfl
theorem XZ {F:Nat}(hF:262200<F){s:Ai}(hs:s.length<F)(hl:s.length≤999999999):PE F s=some ((Cj s.length s).1,((Cj s.length s).2:Int)):=by
 unfold PE;have:=OY s (λσ=>GU F s σ.1 σ.2) (λa x=>.go (a,x)) (λacc x hx ha=>by
  show GU F s acc (x:Int)=_;unfold GU;rw[Int.toNat_natCast]
  by_cases hx2:x<s.length
  ·rw[AZ (AfI (by omega)),C7 (by omega) (by omega),Bs (AaI hF (by simp;omega))]
   cases h:decide ((D8 (s.drop x)).2.2=0) with
   | false=>rfl
   | true=>
    obtain⟨h1,h2,h3⟩:=Pj (AfS h);rw[AN (p:=!true) rfl,RA (by simp;omega),Ba (by omega) (by omega)];rfl
  ·have:s.drop x=[]:=List.drop_eq_nil_of_le (by omega);rw[AN (AfG (by omega)),this,Tv];rfl) s.length F [] 0 (by omega) (by simp) (by omega) hs
 rw[show(([]:List Ai),(0:Int))=([],((0:Nat):Int)) from rfl,Bs this,J4];unfold Jn;rw[C7 (by omega) (Agp _),Int.toNat_natCast,List.take_length,List.drop_zero,Agz,Agx]
theorem PH {F:Nat}(hF:262200<F)(l:List Ai)(hl:l.length≤1000000000):∀(r:List Ai) (n i:Nat) (acc:Ai),l.drop i=r→i≤l.length→r.length<n→acc.length≤262144→
  Bq (Ci (λσ:List Int×Int=>G6 F l σ.1 σ.2) n (D7 acc,(i:Int))) (BO λν=>K6 ν)=some (bif decide ((acc++r.flatMap CE).length≤262144) then(acc++r.flatMap CE,0) else([],3))
 | [],n,i,acc,h,hi,hn,ha=>by
  obtain⟨n,rfl⟩:∃m,n=m+1:=⟨n-1,by simp at hn;omega⟩
  have:l.length≤i:=by simpa using h
  have hb:G6 F l (D7 acc) (i:Int)=some (.out (.go (D7 acc))):=by
   unfold G6;rw[AN (AfG (by omega))]
  rw[Ci,hb,List.flatMap_nil,Ag4,AfI ha];show some (Qm (D7 acc),0)=_;rw[Sg];rfl
 | c::r,n,i,acc,h,hi,hn,ha=>by
  obtain⟨n,rfl⟩:∃m,n=m+1:=⟨n-1,by simp at hn;omega⟩
  obtain⟨hat,hlt,hd⟩:=Uu h;have hs:=Eg c;have hlen:(acc++(c::r).flatMap CE).length=acc.length+(8+c.length)+(r.flatMap CE).length:=by
   rw[AgA,AfK,AfK,hs];omega
  have hb:G6 F l (D7 acc) (i:Int)=bif decide (acc.length+(8+c.length)≤262144) then some (.next (D7 (acc++CE c),((i+1:Nat):Int))) else some (.out (.ret ([],3))):=by
   unfold G6;rw[AZ (AfI (by omega)),Bm (by omega) (by omega),hat]
   cases h1:decide (262136<c.length) with
   | true=>
    have hsl:PF F c=some ([],3):=by rw[TY hF c,h1];rfl
    rw[Bs hsl,AfG (p:=acc.length+(8+c.length)≤262144) (by have:=AfS h1;omega)];rfl
   | false=>
    have h1':=Ag0 h1;have hsl:PF F c=some (CE c,0):=by rw[TY hF c,h1];rfl
    have hk:Cb .i64 (((D7 acc).length:Int)+((CE c).length:Int))=true:=Jj (by rw[Dl,hs];omega) (by rw[Dl,hs];omega);rw[Bs hsl,Cq (by rw[hk];exact AdC _)]
    cases h2:decide (acc.length+(8+c.length)≤262144) with
    | false=>
     have h2':=Ag0 h2;have hx:decide ((262144:Int)<((D7 acc).length:Int)+((CE c).length:Int))=true:=AfI (by rw[Dl,hs];omega);rw[AZ (by rw[hx,Agl])];rfl
    | true=>
     have h2':=AfS h2;have hx:decide ((262144:Int)<((D7 acc).length:Int)+((CE c).length:Int))=false:=AfG (by rw[Dl,hs];omega);rw[AN (by rw[hx];rfl),PV (by rw[Dl,hs];omega),Ba (by omega) (by omega),VE];rfl
  rw[Ci,hb]
  cases h2:decide (acc.length+(8+c.length)≤262144) with
  | false=>
   have h2':=Ag0 h2;rw[AfG (p:=(acc++(c::r).flatMap CE).length≤262144) (by rw[hlen];omega)];rfl
  | true=>
   have h2':=AfS h2;have:=PH hF l hl r n (i+1) (acc++CE c) hd (by omega) (by simp at hn;omega) (by rw[AfK,hs];omega);simp only[AfL];rw[this,AgA,Agk]
theorem AaJ {F:Nat}(hF:262200<F){l:List Ai}(hl:l.length<F)(hb:l.length≤1000000000):Ub F l=some (MA l):=by
 unfold Ub;have:=PH hF l hb l F 0 [] rfl (by omega) hl (by simp);rw[Agz] at this;exact this
def ED {α β R:Type}(g:Nat→β→α→Out R β):Nat→β→List α→Out R β
 | _,acc,[]=>.go acc
 | i,acc,x::r=>match g i acc x with
  | .ret q=>.ret q
  | .go b=>ED g (i+1) b r
def AbR {R β U:Type}(f:β→U):Out R β→Out R U
 | .ret q=>.ret q
 | .go b=>.go (f b)
def ZV {S R U β:Type}(mk:β→S):Out R β→Stp S (Out R U)
 | .ret q=>.out (.ret q)
 | .go b=>.next (mk b)
theorem Aal {α β R S U:Type}{l:List α}{mk:Nat→β→S}{body:S→Option (Stp S (Out R U))}{fin:β→U}(g:Nat→β→α→Out R β)(P:Nat→β→Prop)
  (hb:∀(i:Nat) (h:i<l.length) (acc:β),P i acc→body (mk i acc)=some (ZV (mk (i+1)) (g i acc l[i]))∧∀b,g i acc l[i] = .go b→P (i+1) b)
  (he:∀acc,P l.length acc→body (mk l.length acc)=some (.out (.go (fin acc)))) :
  ∀(d i n:Nat) (acc:β),i+d=l.length→d<n→P i acc→Ci body n (mk i acc)=some (AbR fin (ED g i acc (l.drop i)))∧∀b,ED g i acc (l.drop i) = .go b→P l.length b:=by
 intro d
 induction d with
 | zero=>
  intro i n acc h hn hP;obtain⟨n,rfl⟩:∃m,n=m+1:=⟨n-1,by omega⟩
  obtain rfl:i=l.length:=by omega
  rw[Ci,he _ hP,List.drop_length];exact⟨rfl,λb hb=>by cases hb;exact hP⟩
 | succ d ih=>
  intro i n acc h hn hP;obtain⟨n,rfl⟩:∃m,n=m+1:=⟨n-1,by omega⟩
  have hi:i<l.length:=by omega
  obtain⟨h1,h2⟩:=hb i hi acc hP;rw[Ci,h1,List.drop_eq_getElem_cons hi,ED]
  cases hg:g i acc l[i] with
  | ret q=>exact⟨rfl,λb hb=>by cases hb⟩
  | go b=>exact ih (i+1) n b (by omega) (by omega) (h2 b hg)
theorem H8 {α β R S U:Type}{l:List α}{mk:Nat→β→S}{body:S→Option (Stp S (Out R U))}{fin:β→U}(g:Nat→β→α→Out R β)(P:Nat→β→Prop)
  (hb:∀(i:Nat) (h:i<l.length) (acc:β),P i acc→body (mk i acc)=some (ZV (mk (i+1)) (g i acc l[i]))∧∀b,g i acc l[i] = .go b→P (i+1) b)
  (he:∀acc,P l.length acc→body (mk l.length acc)=some (.out (.go (fin acc)))) {F:Nat} (hF:l.length<F) {a:β} (hP:P 0 a) :
  Ci body F (mk 0 a)=some (AbR fin (ED g 0 a l))∧∀b,ED g 0 a l = .go b→P l.length b:=by
 have h:=Aal (fin:=fin) g P hb he l.length 0 F a (by omega) hF hP;rw[List.drop_zero] at h;exact h
theorem Mp {α β R:Type}(f:α→β):∀(l:List α) (i:Nat) (a:List β),ED (R:=R) (λ_ acc x=>.go (acc++[f x])) i a l = .go (a++l.map f)
 | [],i,a=>by simp[ED]
 | x::l,i,a=>by
  show ED (R:=R) (λ_ acc x=>.go (acc++[f x])) (i+1) (a++[f x]) l=_;rw[Mp f l];simp
theorem RT {α β R:Type}(ok:α→Bool)(f:α→β)(q:R):∀(l:List α) (i:Nat) (a:List β),ED (λ_ acc x=>bif ok x then .go (acc++[f x]) else .ret q) i a l=bif l.all ok then .go (a++l.map f) else .ret q
 | [],i,a=>by simp[ED]
 | x::l,i,a=>by
  rw[ED,Agu]
  cases ok x with
  | false=>rfl
  | true=>simp only[AfL,AfT];rw[RT ok f q l];simp
theorem K9 {p:Bool}{a b:Int}(h:(bif p then a else b)=0)(ha:a≠0):p=false∧b=0:=by
 cases p with
 | true=>exact absurd h ha
 | false=>exact⟨rfl,h⟩
theorem Ld {n:Int}(h:MB n=true):0≤n∧n≤1073741824:=by
 unfold MB at h;simpa using h
theorem QE {ev:Ai}{i:Int}{x:Ap}(h:Tg ev i x=0):MB x.fDelay=true∧(Kn x.fKind=true→C1 ev i=0):=by
 unfold Tg at h;obtain⟨_,h⟩:=K9 h (by decide);obtain⟨h1,h⟩:=K9 h (by decide);refine⟨?_,λho=>by rw[ho] at h;exact h⟩
 cases hk:decide (x.fKind=4) with
 | true=>rw[hk] at h1;simpa using h1
 | false=>rw[hk] at h1;simp at h1;exact h1.2
theorem MG {ev:Ai}{i:Int}{x:Ap}(h:PL ev i x=0):1≤x.fKind∧x.fKind≤5∧Adz x=true∧(x.fKind=2→x.fValue=[])∧(x.fKind≠2→Jo x.fValue=0)∧MB x.fDelay=true∧(Kn x.fKind=true→C1 ev i=0):=by
 unfold PL at h;obtain⟨h1,h⟩:=K9 h (by decide);obtain⟨h2,h⟩:=K9 h (by decide);simp only[Agj,AfE,AgJ] at h1 h2
 by_cases hk:x.fKind=2
 ·rw[AfI hk,AfL] at h;obtain⟨h3,h⟩:=K9 h (by decide);have ht:=QE h;simp only[AfE] at h3;exact⟨by omega,by omega,h2,λ_=>Agf (by omega),λh=>absurd hk h,ht⟩
 ·rw[AfG hk,AfH] at h
  by_cases hv:Jo x.fValue=0
  ·rw[AfI hv,AfR,AfH] at h;exact⟨by omega,by omega,h2,λh=>absurd h hk,λ_=>hv,QE h⟩
  ·rw[AfG hv] at h;exact absurd h hv
structure OkM (c:AC):Prop where
 id:K3 c.fEvent=true
 nm:Hf c.fTenant=true
 at1:1≤c.fAttempt
 at2:c.fAttempt≤1073741824
 now:MB c.fAt=true
 res:Jo c.fResult=0
 len:c.fEffects.length≤32
 ef:∀i:Nat,i<c.fEffects.length→PL c.fEvent (i:Int) (Aq c.fEffects (i:Int))=0
theorem MH {c:AC}(h:JY c=0):OkM c:=by
 unfold JY at h;obtain⟨h1,h⟩:=K9 h (by decide);obtain⟨h2,h⟩:=K9 h (by decide);simp only[Agj,AfE,AgJ] at h1 h2
 by_cases hv:Jo c.fResult=0
 ·rw[AfI hv] at h;obtain⟨h3,h⟩:=K9 (show(bif decide (32<(c.fEffects.length:Int)) then 3 else K5 (λi=>PL c.fEvent (i:Int) (Aq c.fEffects (i:Int))) 0 c.fEffects.length)=0 from h) (by decide);simp only[AfE] at h3;exact⟨h1.1,h1.2,by omega,by omega,h2.2.2,hv,by omega,λi hi=>Ry h i (by omega) (by omega)⟩
 ·rw[AfG hv] at h;exact absurd h hv
theorem OkM.eff {c:AC}(h:OkM c){x:Ap}(hx:x∈c.fEffects):∃i:Nat,i<c.fEffects.length∧PL c.fEvent (i:Int) x=0:=by
 obtain⟨i,hi,rfl⟩:=List.getElem_of_mem hx;have:=h.ef i hi;rw[CS hi] at this;exact⟨i,hi,this⟩
theorem Ug (v:List Ab):(Hj v).2=Jo v:=by
 unfold Hj Jo
 cases whole v with
 | none=>rfl
 | some f=>
  simp only
  cases h:decide (If f=0) with
  | true=>simp only[AfF] at h;simp[h]
  | false=>rfl
theorem XQ {s:Ai}(h:K3 s=true):s.length≤64:=by
 unfold K3 at h;simp only[AfM,AfF] at h;exact h.2
abbrev AbH:Ai:=[99,111,109,109,105,116]
abbrev Aeu:Ai:=[97,99,107]
def TW (x:Ap):List Ai:=[Lib.itoa x.fKind,x.fKey,Lib.itoa x.fDelay,(Hj x.fValue).1]
def hdM (c:AC):List Ai:=[AbH,c.fEvent,c.fTenant,Lib.itoa c.fAttempt,Lib.itoa c.fAt,(Hj c.fResult).1]
def UI (c:AC):List (List Ai):=hdM c::c.fEffects.map TW
def Jg (rs:List (List Ai)):Ai×Int:=bif rs.all Tw then MA (rs.map EJ) else([],3)
def Ii (c:AC):Ai×Int:=bif decide (JY c=0) then Jg (UI c) else([],JY c)
def HE (id:Ai):Ai×Int:=bif K3 id then Jg [[Aeu,id]] else([],4)
theorem Rr {l:List Ai}(h : ¬ (MA l).2=0):MA l=([],3):=by
 unfold MA at h ⊢
 cases hd:decide ((l.flatMap CE).length≤262144) with
 | true=>rw[hd] at h;exact absurd rfl h
 | false=>rfl
theorem AbP {l:List Ai}(h:Tw l=true):NK l=(EJ l,0):=by unfold NK;rw[h];rfl
theorem AbQ {l:List Ai}(h:Tw l=false):NK l=([],3):=by unfold NK;rw[h];rfl
theorem Im {α:Type}{n:Nat}{x:Option α}(h:n≤1000000000):Bd (Dz 16 n) x=x:=Cq (AfI (by omega))
theorem PU {α:Type}{n:Nat}{x:Option α}(h:n≤1000000000):Bd (Dz 24 n) x=x:=Cq (AfI (by omega))
theorem T5 {F:Nat}(hF:270000<F){rs:List (List Ai)}(hl:rs.length≤1000):Pr F rs=some (Jg rs):=by
 unfold Pr Jg;have h:=(H8 (l:=rs) (mk:=λi (acc:List Ai)=>(acc,(i:Int))) (fin:=id) (body:=λσ=>Hd F rs σ.1 σ.2) (λ_ acc x=>bif Tw x then .go (acc++[EJ x]) else .ret (([]:Ai),(3:Int))) (λi acc=>acc.length=i) (λi hi acc hP=>by
   unfold Hd;simp only;rw[AZ (AfI (by omega)),Bm (by omega) (by omega),CS hi,AaH (by omega),Bh]
   cases ho:Tw rs[i] with
   | false=>rw[AbQ ho];exact⟨rfl,λb hb=>by cases hb⟩
   | true=>
    rw[AbP ho,AN (by rfl),Im (by simp;omega),Ba (by omega) (by omega)];exact⟨rfl,λb hb=>by cases hb;simp[hP]⟩) (λacc hP=>by unfold Hd;simp only;rw[AN (AfG (by omega))];rfl) (F:=F) (by omega) (a:=[]) rfl).1
 show Bq (Ci (λσ=>Hd F rs σ.1 σ.2) F ([],((0:Nat):Int))) (BO λν=>HY F ν)=_;rw[h,RT,Bh]
 cases ho:rs.all Tw with
 | false=>rfl
 | true=>
  show HY F ([]++rs.map EJ)=_;rw[Agz];unfold HY;rw[AaJ (by omega) (by rw[AfP];omega) (by rw[AfP];omega),Bh]
  by_cases hj:(MA (rs.map EJ)).2=0
  ·rw[AN (by simp[hj])];exact congrArg some (Prod.ext rfl hj.symm)
  ·rw[AZ (by simp[hj])];exact congrArg some (Rr hj).symm
theorem T3 {M F:Nat}{v:List Ab}(hA:KE M v)(hM:M≤2000000)(hF:4*M+8<F):NO F v=some (Hj v).1:=by
 unfold NO;rw[UA hA hM hF,Bh]
theorem Ps {M F:Nat}{c:AC}(hA:V0 M c)(hM:M≤2000000)(hF:4*M+8<F)(hF0:270000<F):H7 F c=some (Ii c):=by
 unfold H7 Ii;rw[QY hA hM (by omega) (by omega),Bh]
 by_cases he:JY c=0
 ·rw[AN (by simp[he]),AfI he];have ho:=MH he;have b:=Ld ho.now;have hl:=ho.len;rw[Ba (by have:=ho.at1;omega) (by have:=ho.at2;omega),Ba (by omega) (by omega),T3 hA.r hM hF,Bh];have h:=(H8 (l:=c.fEffects) (mk:=λi (acc:List (List Ai))=>(acc,(i:Int))) (fin:=id) (body:=λσ=>Ew F c σ.1 σ.2) (λ_ acc x=>.go (acc++[TW x])) (λi acc=>acc.length=i+1) (λi hi acc hP=>by
    unfold Ew;simp only;obtain⟨h1,h2,h3,h4,h5,h6,_⟩:=MG (ho.ef i hi);have b:=Ld h6;rw[CS hi] at h1 h2 b;rw[AZ (AfI (by omega)),Bm (by omega) (by omega),CS hi,Ba (by omega) (by omega),Ba (by omega) (by omega),T3 (hA.es _ (List.getElem_mem hi)).v hM hF,Bh,PU (by simp;omega),Ba (by omega) (by omega)];exact⟨rfl,λb hb=>by cases hb;simp[hP]⟩) (λacc hP=>by unfold Ew;simp only;rw[AN (AfG (by omega))];rfl) (F:=F) (by omega) (a:=[hdM c]) rfl).1
  show Bq (Ci (λσ=>Ew F c σ.1 σ.2) F ([hdM c],((0:Nat):Int))) (BO λν=>EZ F ν)=_;rw[h,Mp,Bh];show EZ F (UI c)=_;unfold EZ;rw[T5 hF0 (by simp[UI];omega),Bh];rfl
 ·rw[AZ (by simp[he]),AfG he];rfl
theorem GX {F:Nat}(hF:270000<F)(id:Ai):DV F id=some (HE id):=by
 unfold DV HE
 cases K3 id with
 | false=>rfl
 | true=>
  rw[AN (by rfl),T5 hF (by simp),Bh];rfl
def Iu (s:Ai):List Ab×Int:=ov (Nx s)
theorem AaU {s:Ai}{r:List Ab×Int}(h:Nx s=some r):KE 4000 r.1:=by
 by_cases h0:r.2=0
 ·exact(Ac8 h h0).1
 ·have:r.1=[]:=by
   unfold Nx at h
   cases h4:decide (4000<s.length) with
   | true=>rw[h4] at h;cases h;rfl
   | false=>
    rw[h4] at h;simp only[AfH] at h
    split at h
    ·rename_i f _
     cases he:decide (If f=0) with
     | true=>rw[he] at h;cases h;exact absurd rfl h0
     | false=>rw[he] at h;cases h;rfl
    ·cases h;rfl
  rw[this];exact⟨by decide,by simp,λc hc=>by cases hc⟩
theorem R8 (s:Ai):Nx s=some (Iu s):=by
 obtain⟨r,hr⟩:=Yf s;unfold Iu;rw[hr,J3]
theorem W0 (s:Ai):KE 4000 (Iu s).1:=AaU (R8 s)
theorem QB {F:Nat}(hF:20000≤F)(s:Ai):Jv F s=some (Iu s):=by rw[Td hF,R8]
def ok6 (f:List Ai):Bool:=decide (BH (Aq f 3)=0)&&(decide (BH (Aq f 4)=0)&&decide ((Iu (Aq f 5)).2=0))
def Y5 (f:List Ai):Bool:=decide ((f.length:Int)=4)&&(decide (BH (Aq f 0)=0)&&(decide (BH (Aq f 2)=0)&&(decide (Aq f 3=([]:Ai))||decide ((Iu (Aq f 3)).2=0))))
def Oe (f:List Ai):Ap:=⟨Bu (Aq f 0),Aq f 1,bif decide (Aq f 3=([]:Ai)) then[] else(Iu (Aq f 3)).1,Bu (Aq f 2)⟩
def hd6 (f:List Ai)(es:List Ap):AC:=⟨Aq f 1,Aq f 2,Bu (Aq f 3),(Iu (Aq f 5)).1,es,Bu (Aq f 4)⟩
def Yg:List (List Ai)→Bool
 | []=>true
 | h::r=>decide ((h.length:Int)=6)&&(ok6 h&&r.all Y5)
def zM:AC:=⟨[],[],0,[],[],0⟩
def YS:List (List Ai)→AC
 | []=>zM
 | h::r=>hd6 h (r.map Oe)
theorem AdP (h:List Ai)(r:List (List Ai)):Yg (h::r)=(decide ((h.length:Int)=6)&&(ok6 h&&r.all Y5)):=rfl
theorem Adf (h:List Ai)(r:List (List Ai)):YS (h::r)=hd6 h (r.map Oe):=rfl
def Yu (c:AC)(x:Ap):AC:=⟨c.fEvent,c.fTenant,c.fAttempt,c.fResult,c.fEffects++[x],c.fAt⟩
def gD:Nat→AC→List Ai→Out (AC×Bool) AC
 | 0,c,f=>bif decide ((f.length:Int)=6) then(bif ok6 f then .go (hd6 f c.fEffects) else .ret (hd6 f c.fEffects,false)) else .ret (c,false)
 | _+1,c,f=>bif Y5 f then .go (Yu c (Oe f)) else .ret (c,false)
theorem AeI (c:AC)(f:List Ai):gD 0 c f=bif decide ((f.length:Int)=6) then(bif ok6 f then .go (hd6 f c.fEffects) else .ret (hd6 f c.fEffects,false)) else .ret (c,false):=rfl
theorem AeH (i:Nat)(c:AC)(f:List Ai):gD (i+1) c f=bif Y5 f then .go (Yu c (Oe f)) else .ret (c,false):=rfl
def X8 (i:Nat)(c:AC):Int×Ai×Ai×Int×(List Ab)×(List Ap)×Int:=((i:Int),c.fEvent,c.fTenant,c.fAttempt,c.fResult,c.fEffects,c.fAt)
def SmR (l:List (List Ai)):Prop:=∀f∈l,∀s∈f,s.length≤4000
theorem JF {l:List Ai}(h:∀f∈l,f.length≤4000)(i:Int):(Aq l i).length≤4000:=by
 unfold Aq
 cases hg:l[i.toNat]? with
 | none=>exact(by decide:([]:Ai).length≤4000)
 | some s=>rw[Agm];exact h s (AfU hg)
theorem Jq {α:Type}{n:Nat}{x:Option α}(h:n≤1000000000):Bd (Dz 1 n) x=x:=Cq (AfI (by omega))
theorem PT {α:Type}{n:Nat}{x:Option α}(h:n≤1000000000):Bd (Dz 56 n) x=x:=Cq (AfI (by omega))
theorem Uh {F:Nat}(hF:20000≤F){l:List (List Ai)}(hs:SmR l)(hl:l.length≤100000000)(i:Nat)(hi:i<l.length)(c:AC)(hP:c.fEffects.length≤i) :
  Ey F l (X8 i c).1 (X8 i c).2.1 (X8 i c).2.2.1 (X8 i c).2.2.2.1 (X8 i c).2.2.2.2.1 (X8 i c).2.2.2.2.2.1 (X8 i c).2.2.2.2.2.2=some (ZV (X8 (i+1)) (gD i c l[i]))∧∀b,gD i c l[i] = .go b→b.fEffects.length≤i+1:=by
 have hm:=hs l[i] (List.getElem_mem hi);unfold Ey X8;simp only;rw[AZ (AfI (by omega)),Bm (by omega) (by omega),CS hi];generalize hf:l[i]=f at hm
 cases i with
 | zero=>
  rw[AfI (show((0:Nat):Int)=0 from rfl),AfT,AeI]
  cases h6:decide ((f.length:Int)=6) with
  | false=>
   rw[BU,AfG (show ¬ (0:Int)<((0:Nat):Int) from by omega),Agc,BU];exact⟨rfl,λb hb=>by cases hb⟩
  | true=>
   have h6':=AfS h6;rw[CX,Bm (by omega) (by omega),Bm (by omega) (by omega),Bm (by omega) (by omega),Jq (by have:=JF hm 3;omega),Bm (by omega) (by omega),Jq (by have:=JF hm 4;omega),Bm (by omega) (by omega),QB hF,Bh];have e:(((!decide ((BH (Aq f 3))=0))||((!decide ((BH (Aq f 4))=0))||(!decide ((Iu (Aq f 5)).2=0))))) = !ok6 f:=by
    unfold ok6;cases decide (BH (Aq f 3)=0)<;>cases decide (BH (Aq f 4)=0)<;>rfl
   rw[e];unfold Ex;rw[Ba (by omega) (by omega)]
   cases ok6 f with
   | false=>exact⟨rfl,λb hb=>by cases hb⟩
   | true=>exact⟨rfl,λb hb=>by cases hb;show c.fEffects.length≤1;omega⟩
 | succ i=>
  rw[AfG (show ¬ ((i+1:Nat):Int)=0 from by omega),Agc,BU,AfI (show(0:Int)<((i+1:Nat):Int) from by omega),AfT];rw[AeH];unfold Y5 Oe
  cases h4:decide ((f.length:Int)=4) with
  | false=>
   rw[BU];exact⟨rfl,λb hb=>by cases hb⟩
  | true=>
   have h4':=AfS h4;rw[CX,Bm (by omega) (by omega),Jq (by have:=JF hm 0;omega)]
   cases p0:decide (BH (Aq f 0)=0) with
   | false=>exact⟨rfl,λb hb=>by cases hb⟩
   | true=>
    rw[AN (by rfl),Bm (by omega) (by omega),Bm (by omega) (by omega),Jq (by have:=JF hm 2;omega)]
    cases p2:decide (BH (Aq f 2)=0) with
    | false=>exact⟨rfl,λb hb=>by cases hb⟩
    | true=>
     rw[AN (by rfl),Bm (by omega) (by omega)];unfold Ex;have hb1:∀x,(Yu c x).fEffects.length≤i+1+1:=λx=>by show(c.fEffects++[x]).length≤_;rw[AfK];simp;omega
     cases p3:decide (Aq f 3=([]:Ai)) with
     | true=>
      rw[AN (by rfl),PT (by simp;omega),Ba (by omega) (by omega)];exact⟨rfl,λb hb=>by cases hb;exact hb1 _⟩
     | false=>
      rw[AZ (by rfl),QB hF,Bh,PT (by simp;omega),Ba (by omega) (by omega)]
      cases decide ((Iu (Aq f 3)).2=0) with
      | false=>exact⟨rfl,λb hb=>by cases hb⟩
      | true=>exact⟨rfl,λb hb=>by cases hb;exact hb1 _⟩
theorem YT {f:List Ai}(h:∀s∈f,s.length≤4000):EfA 4000 (Oe f):=by
 refine⟨?_,by have:=JF h 1;show(Aq f 1).length≤_;omega⟩;show KE 4000 (bif decide (Aq f 3=([]:Ai)) then[] else(Iu (Aq f 3)).1)
 cases decide (Aq f 3=([]:Ai)) with
 | true=>exact⟨by decide,by simp,λc hc=>by cases hc⟩
 | false=>exact W0 _
theorem Aa5 {f:List Ai}(h:∀s∈f,s.length≤4000){es:List Ap}(he:∀x∈es,EfA 4000 x):V0 4000 (hd6 f es):=
 ⟨W0 _,he,by have:=JF h 1;show(Aq f 1).length≤_;omega,by have:=JF h 2;show(Aq f 2).length≤_;omega⟩
theorem Aen:V0 4000 zM:=⟨⟨by decide,by decide,λc hc=>by cases hc⟩,λx hx=>(by cases hx),by decide,by decide⟩
theorem AdV {c:AC}(h:V0 4000 c){x:Ap}(hx:EfA 4000 x):V0 4000 (Yu c x):=
 ⟨h.r,λy hy=>by
  rcases List.mem_append.1 hy with hy | hy
  ·exact h.es y hy
  ·obtain rfl:=List.mem_singleton.1 hy;exact hx,h.ev,h.tn⟩
theorem QN:∀(r:List (List Ai)) (i:Nat) (c:AC),SmR r→V0 4000 c→
  (r.all Y5=true→ED gD (i+1) c r = .go ⟨c.fEvent,c.fTenant,c.fAttempt,c.fResult,c.fEffects++r.map Oe,c.fAt⟩)∧(r.all Y5=false→∃q,ED gD (i+1) c r = .ret (q,false)∧V0 4000 q)
 | [],i,c,_,hc=>⟨λ_=>by rw[ED];simp,λh=>by cases h⟩
 | f::r,i,c,hs,hc=>by
  have hf:=hs f (by simp);have hr:SmR r:=λg hg=>hs g (by simp[hg]);rw[ED,Agu,AeH]
  cases ho:Y5 f with
  | false=>exact⟨λh=>(by cases h),λ_=>⟨c,rfl,hc⟩⟩
  | true=>
   simp only[AfL,AfT];obtain⟨h1,h2⟩:=QN r (i+1) (Yu c (Oe f)) hr (AdV hc (YT hf));refine⟨λh=>?_,h2⟩;rw[h1 h];simp[Yu]
theorem UY {F:Nat}(hF:20000≤F){l:List (List Ai)}(hs:SmR l)(hl:l.length≤100000000)(hlF:l.length<F):∃c,M0 F l=some (c,Yg l)∧V0 4000 c∧(Yg l=true→c=YS l):=by
 have h:=(H8 (l:=l) (mk:=X8) (fin:=λc=>(X8 0 c).2) (body:=λσ=>Ey F l σ.1 σ.2.1 σ.2.2.1 σ.2.2.2.1 σ.2.2.2.2.1 σ.2.2.2.2.2.1 σ.2.2.2.2.2.2) gD (λi c=>c.fEffects.length≤i) (λi hi c hP=>Uh hF hs hl i hi c hP) (λc hP=>by
  unfold Ey X8;simp only;rw[AN (AfG (by omega))]) hlF (a:=zM) (by decide)).1
 have hd:M0 F l=Bq (some (AbR (λc=>(X8 0 c).2) (ED gD 0 zM l))) (BO λν=>HZ ν.1 ν.2.1 ν.2.2.1 ν.2.2.2.1 ν.2.2.2.2.1 ν.2.2.2.2.2):=by
  rw[← h];rfl
 rw[hd,Bh]
 cases l with
 | nil=>exact⟨zM,rfl,Aen,λ_=>rfl⟩
 | cons f r=>
  have hf:=hs f (by simp);have hr:SmR r:=λg hg=>hs g (by simp[hg]);rw[ED,AeI,AdP,Adf]
  cases h6:decide ((f.length:Int)=6) with
  | false=>exact⟨zM,rfl,Aen,λh=>by cases h⟩
  | true=>
   cases ho:ok6 f with
   | false=>exact⟨hd6 f [],rfl,Aa5 hf (λx hx=>by cases hx),λh=>by cases h⟩
   | true=>
    obtain⟨h1,h2⟩:=QN r 0 (hd6 f zM.fEffects) hr (Aa5 hf (λx hx=>by cases hx))
    cases ha:r.all Y5 with
    | true=>
     simp only[AfL];rw[h1 ha];refine⟨hd6 f (r.map Oe),rfl,Aa5 hf (λx hx=>?_),λ_=>rfl⟩;obtain⟨g,hg,rfl⟩:=List.mem_map.1 hx;exact YT (hr g hg)
    | false=>
     obtain⟨q,h3,h4⟩:=h2 ha;simp only[AfL];rw[h3];exact⟨q,rfl,h4,λh=>by cases h⟩
def NI (bs:List Ai):List (List Ai):=bs.map λb=>(Ki b).1
def Ys (bs:List Ai):Bool:=bs.all λb=>decide ((Ki b).2=0)
def Aap (rc:Ai)(l:List (List Ai)):Option (Sum Ai AC):=
 bif decide ((l.length:Int)=1)&&decide (((Aq l 0).length:Int)=2) then(bif decide (HE (Aq (Aq l 0) 1)=(rc,0)) then some (.inl (Aq (Aq l 0) 1)) else none)
 else(bif Yg l&&decide (Ii (YS l)=(rc,0)) then some (.inr (YS l)) else none)
def NR (rc:Ai):Option (Sum Ai AC):=bif Ys (Cj rc.length rc).1 then Aap rc (NI (Cj rc.length rc).1) else none
theorem UD (s:Ai):(Cj s.length s).1.length≤s.length:=by
 have h:=MW s.length s;have h2:=congrArg List.length h.2.1;rw[Ag6] at h2;have h3:(Cj s.length s).1.length≤((Cj s.length s).1.flatMap CE).length:=by
  generalize(Cj s.length s).1=l
  induction l with
  | nil=>simp
  | cons a l ih=>simp only[AgA,AfK,AfJ,Eg];omega
 omega
theorem Zm {bs:List Ai}(h:Ys bs=true):SmR (NI bs):=by
 intro f hf s hs;obtain⟨b,hb,rfl⟩:=List.mem_map.1 hf;exact WZ hs (AfS (List.all_eq_true.1 h b hb))
theorem S4 (l:List Ai):l.length≤(l.flatMap CE).length:=by
 induction l with
 | nil=>simp
 | cons a l ih=>simp only[AgA,AfK,AfJ,Eg];omega
theorem Rq {rs:List (List Ai)}{rc:Ai}(h:Jg rs=(rc,0)):Cj rc.length rc=(rs.map EJ,rc.length)∧NI (rs.map EJ)=rs∧Ys (rs.map EJ)=true∧rc.length≤262144:=by
 unfold Jg at h
 cases ha:rs.all Tw with
 | false=>rw[ha] at h;cases h
 | true=>
  rw[ha] at h;simp only[AfL] at h;unfold MA at h
  cases hj:decide (((rs.map EJ).flatMap CE).length≤262144) with
  | false=>rw[hj] at h;cases h
  | true=>
   rw[hj] at h;simp only[AfL] at h;obtain rfl:(rs.map EJ).flatMap CE=rc:=congrArg Prod.fst h;have hlim:=AfS hj;have hb:∀b∈rs.map EJ,b.length≤262136:=λb hb=>by have:=Qz _ b hb;omega
   refine⟨NG _ _ hb (S4 _),?_,?_,hlim⟩
   ·unfold NI;rw[AgD]
    conv=>rhs;rw[← List.map_id rs]
    exact List.map_congr_left λr hr=>by show(Ki (EJ r)).1=r;rw[Te (List.all_eq_true.1 ha r hr)]
   ·unfold Ys;rw[List.all_map,Ags];intro r hr;show decide ((Ki (EJ r)).2=0)=true;rw[Te (List.all_eq_true.1 ha r hr)];rfl
theorem Abq {id rc:Ai}(h:HE id=(rc,0)):K3 id=true∧Jg [[Aeu,id]]=(rc,0):=by
 unfold HE at h
 cases hi:K3 id with
 | false=>rw[hi] at h;cases h
 | true=>rw[hi] at h;exact⟨rfl,h⟩
theorem AaL {c:AC}{rc:Ai}(h:Ii c=(rc,0)):JY c=0∧Jg (UI c)=(rc,0):=by
 unfold Ii at h
 by_cases he:JY c=0
 ·rw[AfI he] at h;exact⟨he,h⟩
 ·rw[AfG he] at h;exact absurd (congrArg Prod.snd h) he
theorem AaW:Iu []=([],1):=by decide
theorem Aao {id rc:Ai}(h:HE id=(rc,0)):NR rc=some (.inl id):=by
 obtain⟨h1,h2⟩:=Abq h;obtain⟨h3,h4,h5,_⟩:=Rq h2;unfold NR;rw[h3];simp only;rw[h4,h5,AfL];show(bif decide (HE id=(rc,0)) then some (Sum.inl id) else none)=_;rw[AfI h];rfl
theorem Q7 {ev:Ai}{i:Int}{x:Ap}(h:PL ev i x=0):Y5 (TW x)=true∧Oe (TW x)=x:=by
 obtain⟨h1,h2,h3,h4,h5,h6,_⟩:=MG h;obtain⟨b1,b2⟩:=Ld h6;obtain⟨p1,p2⟩:=Jh (m:=x.fKind) (by omega) (by omega);obtain⟨p3,p4⟩:=Jh (m:=x.fDelay) (by omega) (by omega);have hv:(bif decide ((Hj x.fValue).1=([]:Ai)) then[] else(Iu (Hj x.fValue).1).1)=x.fValue∧(decide ((Hj x.fValue).1=([]:Ai))||decide ((Iu (Hj x.fValue).1).2=0))=true:=by
  by_cases hk:x.fKind=2
  ·rw[h4 hk];decide
  ·have he:=h5 hk;have hq:Iu (Hj x.fValue).1=(x.fValue,0):=by
    unfold Iu;rw[Wx (by rw[Ug];exact he),J3]
   rw[hq]
   by_cases hn:(Hj x.fValue).1=[]
   ·rw[hn,AaW] at hq;exact absurd (show(1:Int)=0 from congrArg Prod.snd hq) (by decide)
   ·rw[AfG hn];exact⟨rfl,rfl⟩
 refine⟨?_,?_⟩
 ·show(decide (((4:Nat):Int)=4)&&(decide (BH (Lib.itoa x.fKind)=0)&&(decide (BH (Lib.itoa x.fDelay)=0)&&(decide ((Hj x.fValue).1=([]:Ai))||decide ((Iu (Hj x.fValue).1).2=0)))))=true;rw[p1,p3,hv.2];rfl
 ·show Ap.mk (Bu (Lib.itoa x.fKind)) x.fKey (bif decide ((Hj x.fValue).1=([]:Ai)) then[] else(Iu (Hj x.fValue).1).1) (Bu (Lib.itoa x.fDelay))=x;rw[p2,p4,hv.1]
theorem AaQ {c:AC}(h:OkM c):Yg (UI c)=true∧YS (UI c)=c:=by
 obtain⟨b1,b2⟩:=Ld h.now;obtain⟨p1,p2⟩:=Jh (m:=c.fAttempt) (by have:=h.at1;omega) (by have:=h.at2;omega);obtain⟨p3,p4⟩:=Jh (m:=c.fAt) (by omega) (by omega);have hq:Iu (Hj c.fResult).1=(c.fResult,0):=by
  unfold Iu;rw[Wx (by rw[Ug];exact h.res),J3]
 have ha:(c.fEffects.map TW).all Y5=true:=by
  rw[List.all_map,Ags];intro x hx;obtain⟨i,_,hi⟩:=h.eff hx;exact(Q7 hi).1
 have hm:(c.fEffects.map TW).map Oe=c.fEffects:=by
  rw[AgD]
  conv=>rhs;rw[← List.map_id c.fEffects]
  exact List.map_congr_left λx hx=>by
   obtain⟨i,_,hi⟩:=h.eff hx;exact(Q7 hi).2
 refine⟨?_,?_⟩
 ·show(decide (((6:Nat):Int)=6)&&((decide (BH (Lib.itoa c.fAttempt)=0)&&(decide (BH (Lib.itoa c.fAt)=0)&&decide ((Iu (Hj c.fResult).1).2=0)))&&(c.fEffects.map TW).all Y5))=true;rw[p1,p3,hq,ha];rfl
 ·show AC.mk c.fEvent c.fTenant (Bu (Lib.itoa c.fAttempt)) (Iu (Hj c.fResult).1).1 ((c.fEffects.map TW).map Oe) (Bu (Lib.itoa c.fAt))=c;rw[p2,p4,hq,hm]
theorem Aan {c:AC}{rc:Ai}(h:Ii c=(rc,0)):NR rc=some (.inr c):=by
 obtain⟨h1,h2⟩:=AaL h;obtain⟨h3,h4,h5,_⟩:=Rq h2;obtain⟨d1,d2⟩:=AaQ (MH h1);unfold NR;rw[h3];simp only;rw[h4,h5,AfL];unfold Aap;have hl:(decide (((Aq (UI c) 0).length:Int)=2))=false:=rfl;rw[hl,Age,AfH,d1,d2,AfI h];rfl
def Afm {α β:Type}(none_:β)(ack:Ai→β)(com:AC→β):Option (Sum Ai AC)→β
 | none=>none_
 | some (.inl id)=>ack id
 | some (.inr c)=>com c
theorem Xj (bs:List Ai):(NI bs).length=bs.length:=by simp[NI]
theorem Pa:∀a:Ai,Cz a a=false
 | []=>rfl
 | x::a=>by
  show Op.bytesLess (x::a) (x::a)=false;have h : ¬ x<x:=λh=>absurd h (by simp);have ih:Op.bytesLess a a=false:=Pa a;simp[Op.bytesLess,h,ih]
theorem RP (x y:UInt8)(a b:Ai):Cz (x::a) (y::b)=(decide (x<y)||(decide (x=y)&&Cz a b)):=by
 show Op.bytesLess (x::a) (y::b)=_;simp only[Op.bytesLess]
 by_cases h:x<y
 ·simp[h]
 ·by_cases e:x=y
  ·subst e;simp[h]
  ·have:y<x:=by
    rcases Nat.lt_trichotomy x.toNat y.toNat with h1 | h1 | h1
    ·exact absurd (UInt8.lt_iff_toNat_lt.2 h1) h
    ·exact absurd (UInt8.toNat_inj.1 h1) e
    ·exact UInt8.lt_iff_toNat_lt.2 h1
   simp[h,e,this]
theorem OZ:∀{a b c:Ai},Cz a b=true→Cz b c=true→Cz a c=true
 | [],[],_,h,_=>by cases h
 | [],_::_,[],_,h=>by cases h
 | [],_::_,_::_,_,_=>rfl
 | _::_,[],_,h,_=>by cases h
 | _::_,_::_,[],_,h=>by cases h
 | x::a,y::b,z::c,h,h'=>by
  rw[RP] at h h' ⊢;simp only[Agv,AfF,AfM] at h h' ⊢;have t:∀{u v:UInt8},u<v↔u.toNat<v.toNat:=UInt8.lt_iff_toNat_lt;rcases h with h | ⟨rfl,h⟩
  ·rcases h' with h' | ⟨rfl,h'⟩
   ·exact .inl (t.2 (Nat.lt_trans (t.1 h) (t.1 h')))
   ·exact .inl h
  ·rcases h' with h' | ⟨rfl,h'⟩
   ·exact .inl h'
   ·exact .inr ⟨rfl,OZ h h'⟩
theorem Tj:∀(a b:Ai),Cz a b=true∨a=b∨Cz b a=true
 | [],[]=>.inr (.inl rfl)
 | [],_::_=>.inl rfl
 | _::_,[]=>.inr (.inr rfl)
 | x::a,y::b=>by
  rw[RP,RP];simp only[Agv,AfF,AfM];rcases Nat.lt_trichotomy x.toNat y.toNat with h1 | h1 | h1
  ·exact .inl (.inl (UInt8.lt_iff_toNat_lt.2 h1))
  ·have e:=UInt8.toNat_inj.1 h1;subst e;rcases Tj a b with h | rfl | h
   ·exact .inl (.inr ⟨rfl,h⟩)
   ·exact .inr (.inl rfl)
   ·exact .inr (.inr (.inr ⟨rfl,h⟩))
  ·exact .inr (.inr (.inl (UInt8.lt_iff_toNat_lt.2 h1)))
theorem Aer {a b:Ai}(h:Cz a b=true):a≠b:=λe=>by subst e;rw[Pa] at h;cases h
section
variable {T : Type}
def Ms (xs:List (Ai×T)):Prop:=xs.Pairwise λp q=>Cz p.1 q.1=true
theorem Ms.nil:Ms ([]:List (Ai×T)):=List.Pairwise.nil
theorem Ms.nodup {xs:List (Ai×T)}(h:Ms xs):(xs.map (·.1)).Nodup:=by
 rw[List.Nodup,List.pairwise_map];exact h.imp λhpq=>Aer hpq
theorem G2 {xs:List (Ai×T)}{k:Ai}:Cd xs k=none↔∀p∈xs,p.1≠k:=by
 induction xs with
 | nil=>simp[Cd]
 | cons p r ih=>
  rw[Cd]
  by_cases h:p.1=k
  ·rw[AfI h];simp[h]
  ·rw[AfG h];simp[h,ih]
theorem GY {xs:List (Ai×T)}{k:Ai}{v:T}(h:Cd xs k=some v):(k,v)∈xs:=by
 induction xs with
 | nil=>cases h
 | cons p r ih=>
  rw[Cd] at h
  by_cases e:p.1=k
  ·rw[AfI e] at h;cases h;subst e;exact List.mem_cons_self ..
  ·rw[AfG e] at h;exact List.mem_cons_of_mem _ (ih h)
theorem Kx {xs:List (Ai×T)}{k:Ai}{v:T}(hn:(xs.map (·.1)).Nodup)(h:(k,v)∈xs):Cd xs k=some v:=by
 induction xs with
 | nil=>cases h
 | cons p r ih=>
  rw[Ag3,List.nodup_cons] at hn;rw[Cd];rcases List.mem_cons.1 h with h | h
  ·subst h;rw[AfI rfl];rfl
  ·have hne : ¬ p.1=k:=λe=>hn.1 (by rw[e];exact List.mem_map.2 ⟨(k,v),h,rfl⟩);rw[AfG hne];exact ih hn.2 h
theorem XD (xs:List (Ai×T))(k k':Ai)(v:T):Cd (mput xs k v) k'=bif decide (k'=k) then(Cd xs k).map (λ_=>v) else Cd xs k':=by
 induction xs with
 | nil=>cases decide (k'=k)<;>rfl
 | cons p r ih=>
  show Cd ((bif decide (p.1=k) then(k,v) else p)::mput r k v) k'=_
  by_cases h:p.1=k
  ·rw[AfI h];simp only[AfL,Cd]
   by_cases e:k'=k
   ·subst e;rw[AfI rfl,h,AfI rfl];rfl
   ·rw[AfG (Ne.symm e),AfG e,ih,AfG e,h,AfG (Ne.symm e)];rfl
  ·rw[AfG h];simp only[AfH,Cd];rw[ih]
   by_cases e:k'=k
   ·subst e;rw[AfI rfl,AfG h];rfl
   ·rw[AfG e]
    cases decide (p.1=k')<;>rfl
theorem XE (xs:List (Ai×T))(k k':Ai)(v:T)(h:Cd xs k=none):Cd (mins k v xs) k'=bif decide (k'=k) then some v else Cd xs k':=by
 induction xs with
 | nil=>
  show(bif decide (k=k') then some v else none)=bif decide (k'=k) then some v else none
  by_cases e:k'=k
  ·rw[AfI e,AfI e.symm]
  ·rw[AfG e,AfG (Ne.symm e)]
 | cons p r ih=>
  rw[Cd] at h
  by_cases hk:p.1=k
  ·rw[AfI hk] at h;cases h
  ·rw[AfG hk] at h;rw[mins]
   cases Cz k p.1 with
   | true=>
    simp only[AfL,Cd]
    by_cases e:k'=k
    ·subst e;rw[AfI rfl]
     try rfl
    ·rw[AfG e,AfG (Ne.symm e)]
     try rfl
   | false=>
    simp only[AfH,Cd];rw[ih h]
    by_cases e:k'=k
    ·subst e;rw[AfI rfl,AfG hk];rfl
    ·rw[AfG e]
     cases decide (p.1=k')<;>rfl
theorem Nm (xs:List (Ai×T))(k k':Ai)(v:T):Cd (mset xs k v) k'=bif decide (k'=k) then some v else Cd xs k':=by
 unfold mset E6
 cases h:Cd xs k with
 | none=>exact XE xs k k' v h
 | some w=>
  simp only[Option.isSome_some,AfL];rw[XD,h]
  cases decide (k'=k)<;>rfl
theorem XF (xs:List (Ai×T))(k k':Ai):Cd (mdel xs k) k'=bif decide (k'=k) then none else Cd xs k':=by
 unfold mdel
 induction xs with
 | nil=>cases decide (k'=k)<;>rfl
 | cons p r ih=>
  by_cases h:p.1=k
  ·rw[List.filter_cons_of_neg (by simp[h]),ih,Cd]
   by_cases e:k'=k
   ·rw[AfI e];rfl
   ·rw[AfG e,h,AfG (Ne.symm e)];rfl
  ·rw[List.filter_cons_of_pos (by simp[h]),Cd,Cd,ih]
   by_cases e:k'=k
   ·rw[AfI e,e,AfG h];rfl
   ·rw[AfG e]
    cases decide (p.1=k')<;>rfl
theorem TE {k:Ai}{v:T}{q:Ai×T}:∀{xs:List (Ai×T)},q∈mins k v xs→q=(k,v)∨q∈xs
 | [],h=>by simp[mins] at h;exact .inl h
 | p::r,h=>by
  rw[mins] at h
  cases hs:Cz k p.1 with
  | true=>rw[hs] at h;simpa using h
  | false=>
   rw[hs] at h;rcases List.mem_cons.1 h with h | h
   ·exact .inr (by rw[h];exact List.mem_cons_self ..)
   ·rcases TE h with h | h
    ·exact .inl h
    ·exact .inr (List.mem_cons_of_mem _ h)
theorem Ms.mins {k:Ai}{v:T}:∀{xs:List (Ai×T)},Ms xs→Cd xs k=none→Ms (mins k v xs)
 | [],_,_=>List.pairwise_singleton ..
 | p::r,h,hk=>by
  obtain⟨h1,h2⟩:=List.pairwise_cons.1 h;rw[Cd] at hk
  by_cases e:p.1=k
  ·rw[AfI e] at hk;cases hk
  ·rw[AfG e] at hk;rw[Proofs.YtfobhhegpkinaaaGreatDoor.mins]
   cases hs:Cz k p.1 with
   | true=>exact List.pairwise_cons.2 ⟨λq hq=>by
     rcases List.mem_cons.1 hq with rfl | hq
     ·exact hs
     ·exact OZ hs (h1 q hq),h⟩
   | false=>
    have hp:Cz p.1 k=true:=by
     rcases Tj p.1 k with h | h | h
     ·exact h
     ·exact absurd h e
     ·rw[h] at hs;cases hs
    exact List.pairwise_cons.2 ⟨λq hq=>by
     rcases TE hq with rfl | hq
     ·exact hp
     ·exact h1 q hq,Ms.mins h2 hk⟩
theorem Ms.mput {xs:List (Ai×T)}(h:Ms xs)(k:Ai)(v:T):Ms (mput xs k v):=by
 unfold Proofs.YtfobhhegpkinaaaGreatDoor.mput;unfold Ms;rw[List.pairwise_map];refine h.imp fun {p q} hpq=>?_;have e:∀p:Ai×T,(bif decide (p.1=k) then(k,v) else p).1=p.1:=λp=>by
  by_cases hp:p.1=k
  ·rw[AfI hp];exact hp.symm
  ·rw[AfG hp];rfl
 rw[e,e];exact hpq
theorem Ms.mset {xs:List (Ai×T)}(h:Ms xs)(k:Ai)(v:T):Ms (mset xs k v):=by
 unfold Proofs.YtfobhhegpkinaaaGreatDoor.mset E6
 cases hk:Cd xs k with
 | none=>exact h.mins hk
 | some w=>exact h.mput k v
theorem Ms.mdel {xs:List (Ai×T)}(h:Ms xs)(k:Ai):Ms (mdel xs k):=h.sublist (List.filter_sublist ..)
theorem Ms.ext:∀{xs ys:List (Ai×T)},Ms xs→Ms ys→(∀k,Cd xs k=Cd ys k)→xs=ys
 | [],[],_,_,_=>rfl
 | [],q::s,_,_,h=>by
  have:=h q.1;rw[Cd,Cd,AfI rfl] at this;cases this
 | p::r,[],_,_,h=>by
  have:=h p.1;rw[Cd,Cd,AfI rfl] at this;cases this
 | p::r,q::s,hx,hy,h=>by
  obtain⟨x1,x2⟩:=List.pairwise_cons.1 hx;obtain⟨y1,y2⟩:=List.pairwise_cons.1 hy;have hpq:p.1=q.1:=by
   have a1:=h p.1;have a2:=h q.1;rw[Cd,AfI rfl] at a1;rw[show Cd (q::s) q.1=bif decide (q.1=q.1) then some q.2 else Cd s q.1 from rfl,AfI rfl] at a2;simp only[AfL] at a1 a2;have m1:=GY a1.symm;have m2:=GY a2;rcases List.mem_cons.1 m1 with e | m1
   ·exact congrArg Prod.fst e
   ·rcases List.mem_cons.1 m2 with e | m2
    ·exact(congrArg Prod.fst e).symm
    ·have c1:=y1 _ m1;have c2:=x1 _ m2;have:=OZ c1 c2;rw[Pa] at this;cases this
  have e:p=q:=by
   have a1:=h p.1;rw[Cd,AfI rfl,Cd,AfI hpq.symm] at a1;simp only[AfL,Option.some.injEq] at a1;exact Prod.ext hpq a1
  subst e;rw[Ms.ext x2 y2 λk=>by
   have a1:=h k;rw[Cd,Cd] at a1
   by_cases e:p.1=k
   ·have n1:Cd r k=none:=G2.2 λz hz e'=>by have:=x1 z hz;rw[e',← e,Pa] at this;cases this
    have n2:Cd s k=none:=G2.2 λz hz e'=>by have:=y1 z hz;rw[e',← e,Pa] at this;cases this
    rw[n1,n2]
   ·rw[AfG e] at a1;exact a1]
end
theorem TJ {T St R:Type}(body:T→St→Option (Stp St (Out R St)))(g:T→St→St)(I:St→Prop):∀(ord:List T) (s:St),I s→(∀p∈ord,∀s,I s→body p s=some (.next (g p s))∧I (g p s))→Rk body ord s=some (.go (ord.foldl (λs p=>g p s) s))∧I (ord.foldl (λs p=>g p s) s)
 | [],s,hi,_=>⟨rfl,hi⟩
 | p::r,s,hi,h=>by
  obtain⟨h1,h2⟩:=h p (List.mem_cons_self ..) s hi;obtain⟨h3,h4⟩:=TJ body g I r (g p s) h2 λq hq=>h q (List.mem_cons_of_mem _ hq);exact⟨by rw[Rk,h1];exact h3,h4⟩
section
variable {T : Type}
theorem XC {xs ys:List (Ai×T)}(h:ys.Perm xs)(hn:(xs.map (·.1)).Nodup)(k:Ai):Cd ys k=Cd xs k:=by
 have hn':(ys.map (·.1)).Nodup:=(h.map _).nodup_iff.2 hn
 cases e:Cd xs k with
 | none=>exact G2.2 λp hp=>(G2.1 e) p (h.subset hp)
 | some v=>exact Kx hn' (h.symm.subset (GY e))
def apF (del:T→Bool)(xs:List (Ai×T))(p:Ai×T):List (Ai×T):=bif del p.2 then mdel xs p.1 else mset xs p.1 p.2
theorem AdU {del:T→Bool}{xs:List (Ai×T)}(h:Ms xs)(p:Ai×T):Ms (apF del xs p):=by
 unfold apF
 cases del p.2 with
 | true=>exact h.mdel _
 | false=>exact h.mset _ _
theorem OB {del:T→Bool}:∀(ord:List (Ai×T)) {xs:List (Ai×T)},Ms xs→Ms (ord.foldl (apF del) xs)
 | [],_,h=>h
 | p::r,_,h=>OB r (AdU h p)
theorem Aag {del:T→Bool}(xs:List (Ai×T))(p:Ai×T)(k:Ai):Cd (apF del xs p) k=bif decide (k=p.1) then(bif del p.2 then none else some p.2) else Cd xs k:=by
 unfold apF
 cases del p.2 with
 | true=>exact XF xs p.1 k
 | false=>exact Nm xs p.1 k p.2
theorem Lb {del:T→Bool}:∀(ord:List (Ai×T)) (xs:List (Ai×T)) (k:Ai),(ord.map (·.1)).Nodup→Cd (ord.foldl (apF del) xs) k=match Cd ord k with
  | none=>Cd xs k
  | some v=>bif del v then none else some v
 | [],xs,k,_=>rfl
 | p::r,xs,k,h=>by
  rw[Ag3,List.nodup_cons] at h;rw[List.foldl_cons,Lb r _ k h.2,Cd,Aag]
  by_cases e:p.1=k
  ·have hn:Cd r k=none:=G2.2 λq hq e'=>h.1 (by rw[e,← e'];exact List.mem_map.2 ⟨q,hq,rfl⟩);rw[hn,AfI e,AfI e.symm];rfl
  ·rw[AfG e,AfG (Ne.symm e)];rfl
theorem Yr {del:T→Bool}{xs ys zs:List (Ai×T)}(hz:Ms zs)(hx:Ms xs)(h:ys.Perm xs):ys.foldl (apF del) zs=xs.foldl (apF del) zs:=
 Ms.ext (OB ys hz) (OB xs hz) λk=>by
  rw[Lb ys zs k ((h.map _).nodup_iff.2 hx.nodup),Lb xs zs k hx.nodup,XC h hx.nodup]
end
theorem LF (a:Ai) : ¬ a<a:=List.lt_irrefl a
theorem QF {a b c:Ai}(h:a<b)(h2:b<c):a<c:=List.lt_trans h h2
theorem Xe {a b:Ai}(h:a<b) : ¬ b<a:=λh2=>LF a (QF h h2)
theorem VG (a b:Ai):a<b∨a=b∨b<a:=by
 by_cases h:a<b
 ·exact .inl h
 ·by_cases h2:b<a
  ·exact .inr (.inr h2)
  ·have e1:a≤b:=h2;have e2:b≤a:=h;exact .inr (.inl (List.le_antisymm e1 e2))
theorem Xd {a b c:Ai}(h:a≤b)(h2:b<c):a<c:=by
 rcases VG a b with e | e | e
 ·exact QF e h2
 ·rw[e];exact h2
 ·exact absurd e h
theorem Xc {a b:Ai}(h:a≤b)(h2:a≠b):a<b:=by
 rcases VG a b with e | e | e
 ·exact e
 ·exact absurd e h2
 ·exact absurd e h
theorem NF:∀(a b:List Ai),a.Pairwise (· < ·)→b.Pairwise (· < ·)→(∀x,x∈a↔x∈b)→a=b
 | [],[],_,_,_=>rfl
 | [],y::b,_,_,h=>by have:=(h y).2 (by simp);simp at this
 | x::a,[],_,_,h=>by have:=(h x).1 (by simp);simp at this
 | x::a,y::b,ha,hb,h=>by
  have ha':=List.pairwise_cons.1 ha;have hb':=List.pairwise_cons.1 hb;have e:x=y:=by
   rcases List.mem_cons.1 ((h x).1 (by simp)) with e | hx
   ·exact e
   ·rcases List.mem_cons.1 ((h y).2 (by simp)) with e | hy
    ·exact e.symm
    ·exact absurd (ha'.1 y hy) (Xe (hb'.1 x hx))
  subst e;have:a=b:=NF a b ha'.2 hb'.2 λz=>by
   constructor
   ·intro hz;rcases List.mem_cons.1 ((h z).1 (by simp[hz])) with e | hz2
    ·subst e;exact absurd (ha'.1 _ hz) (LF _)
    ·exact hz2
   ·intro hz;rcases List.mem_cons.1 ((h z).2 (by simp[hz])) with e | hz2
    ·subst e;exact absurd (hb'.1 _ hz) (LF _)
    ·exact hz2
  rw[this]
theorem L4 (zs:List Ai)(hs:zs.Pairwise (·≤·)):∀k,k≤zs.length→(Lib.compactUpTo zs.toArray k).Pairwise (· < ·)∧(∀x,x∈Lib.compactUpTo zs.toArray k↔x∈zs.take k)
 | 0,_=>by simp[Lib.compactUpTo]
 | k+1,hk=>by
  obtain⟨h1,h2⟩:=L4 zs hs k (by omega);have hkl:k<zs.length:=by omega
  have hz:zs.toArray[k]! =zs[k]:=by simp[hkl]
  have ht:zs.take (k+1)=zs.take k++[zs[k]]:=by rw[List.take_add_one,AfN hkl];rfl
  have hsi:=List.pairwise_iff_getElem.1 hs;rw[Lib.compactUpTo_succ,ht]
  by_cases hkp:Lib.keeps zs.toArray k=true
  ·rw[Ag9 hkp,hz];refine⟨List.pairwise_append.2 ⟨h1,by simp,λx hx y hy=>?_⟩,λx=>by rw[List.mem_append,List.mem_append,h2]⟩;simp only[Aga] at hy;subst hy;obtain⟨i,hi,rfl⟩:=List.getElem_of_mem ((h2 x).1 hx);have hik:i<k:=by simp at hi;omega
   rw[List.getElem_take];simp only[Lib.keeps,AfF,hz] at hkp;have hz1:zs.toArray[k-1]! =zs[k-1]'(by omega):=by simp[show k-1<zs.length by omega]
   rw[hz1] at hkp;have hne:zs[k]≠zs[k-1]'(by omega):=hkp.resolve_left (by omega);have hlt:zs[k-1]'(by omega)<zs[k]:=Xc (hsi (k-1) k (by omega) hkl (by omega)) (λe=>hne e.symm)
   by_cases he:i=k-1
   ·subst he;exact hlt
   ·exact Xd (hsi i (k-1) (by omega) (by omega) (by omega)) hlt
  ·rw[Agt hkp];refine⟨by simpa using h1,λx=>?_⟩;simp only[Lib.keeps,AfF,hz,not_or,Decidable.not_not] at hkp;have hz1:zs.toArray[k-1]! =zs[k-1]'(by omega):=by simp[show k-1<zs.length by omega]
   rw[hz1] at hkp;rw[Ag4,List.mem_append,h2,Aga];constructor
   ·exact .inl
   ·rintro(h | rfl)
    ·exact h
    ·rw[hkp.2];have:(zs.take k)[k-1]'(by simp;omega)=zs[k-1]'(by omega):=List.getElem_take;rw[← this];exact List.getElem_mem _
theorem Qk (ss:List Ai):(BJ ss).Pairwise (· < ·)∧∀x,x∈BJ ss↔x∈ss:=by
 have hs:(ss.mergeSort λx y=>decide (x≤y)).Pairwise (·≤·):=by
  have:=List.pairwise_mergeSort (le:=λ(x y:Ai)=>decide (x≤y)) (λa b c h1 h2=>by
   simp only[AfF] at *;exact List.le_trans h1 h2) (λa b=>by
   simp only[Agv,AfF];exact List.le_total a b) ss
  exact this.imp (λh=>by simpa using h)
 have h:=L4 _ hs _ (AfZ _);unfold BJ Lib.compact;refine⟨h.1,λx=>?_⟩;rw[h.2,List.take_length,List.mem_mergeSort]
end Go.Proofs.YtfobhhegpkinaaaGreatDoor
