/-
  Texts of the proof, put together: LvG, LvH, LvI, LvJ, LvK, LvL, LvM, LvN, LvO, LvP, LdA, LdB, LdC, LdD, LdE, LdF, LdG, LdH, LdI, LdJ, LdK, LtA, LtB, LtD, LbB, LhA, LhB, LsA, LrA, LsC, LsD, LrB, LbC, LbD, LbE, LbF, PN, PO, PlF, LbG, LbA, LbH, LwONone.
-/
import Derived.Test.YtfobhhegpkinaaaGreatDoorON4
import Derived.Sort.Walk0
namespace Go.Proofs.YtfobhhegpkinaaaGreatDoor
open Go
set_option linter.unusedVariables false
set_option linter.unusedSimpArgs false
theorem IO {x:Int}(h : -9223372036854775808≤x)(h':x≤9223372036854775807):IntKind.wrap .i64 x=x:=by
 simp only[IntKind.wrap,IntKind.bits,IntKind.signed];simp;omega
def Fo.dep:Fo→Nat
 | .nil=>0
 | .cell _ _ r=>max 1 r.dep
 | .node _ _ kids r=>max (kids.dep+1) r.dep
theorem Gg (k:Option An)(s:AM):(Lv k s).fDepth=s.fDepth∧(Lv k s).fOutside=s.fOutside∧(Lv k s).fLong=(s.fLong||(Ck k).any λc=>decide (200<(c.fStr.length:Int))):=by
 cases k with
 | none=>simp[Lv,Ck]
 | some x=>simp[Lv,Yb,Ck]
theorem Kk:∀(f:Fo) (d:Nat) (s:AM),(d:Int)≤s.fDepth→(f.sh d s).fDepth=max s.fDepth ((d:Int)+f.dep)
 | .nil,d,s,h=>by simp only[Fo.sh,Fo.dep];omega
 | .cell k c r,d,s,h=>by
  have hk:=(Gg k s).1;have e:(Im d (Lv k s) c).fDepth=max s.fDepth ((d:Int)+1):=by rw[Im,hk]
  rw[Fo.sh,Kk r d _ (by rw[e];omega),e,Fo.dep];omega
 | .node k c kids r,d,s,h=>by
  have hk:=(Gg k s).1;have e:(Im d (Lv k s) c).fDepth=max s.fDepth ((d:Int)+1):=by rw[Im,hk]
  have e2:=Kk kids (d+1) (Im d (Lv k s) c) (by rw[e];omega);rw[e] at e2;rw[Fo.sh,Kk r d _ (by rw[e2];omega),e2,Fo.dep];omega
def SS (c:Ac):Bool:=decide (c.fKind=3)&&!(decide ((-1000000000000)≤c.fInt)&&decide (c.fInt≤1000000000000))
def Sd (c:Ac):Bool:=decide (200<(c.fStr.length:Int))
theorem Qf (k:Option An):(Ck k).any SS=false:=by cases k<;>simp[Ck,SS]
theorem O5:∀(f:Fo) (d:Nat) (s:AM),(f.sh d s).fOutside=(s.fOutside||f.flat.any SS)
 | .nil,d,s=>by simp[Fo.sh,Fo.flat]
 | .cell k c r,d,s=>by
  rw[Fo.sh,O5 r,Im,(Gg k s).2.1];simp only[Fo.flat,List.any_append,List.any_cons,Qf,Z6,Bool.or_assoc];rfl
 | .node k c kids r,d,s=>by
  rw[Fo.sh,O5 r,O5 kids,Im,(Gg k s).2.1];simp only[Fo.flat,List.any_append,List.any_cons,Qf,Z6,Bool.or_assoc];rfl
theorem LT:∀(f:Fo) (d:Nat) (s:AM),(f.sh d s).fLong=(s.fLong||f.flat.any Sd)
 | .nil,d,s=>by simp[Fo.sh,Fo.flat]
 | .cell k c r,d,s=>by
  rw[Fo.sh,LT r,Im,(Gg k s).2.2];simp only[Fo.flat,List.any_append,List.any_cons,Bool.or_assoc];rfl
 | .node k c kids r,d,s=>by
  rw[Fo.sh,LT r,LT kids,Im,(Gg k s).2.2];simp only[Fo.flat,List.any_append,List.any_cons,Bool.or_assoc];rfl
def TD (c:Ac):Int:=
 bif decide (c.fKind=1) then 4 else bif decide (c.fKind=2) then 5-c.fInt else bif decide (c.fKind=3) then((Lib.itoa c.fInt).length:Int) else
 bif decide (c.fKind=4) then KR c.fStr else 2
def OY:Option An→Int
 | none=>0
 | some s=>KR s+1
def Fo.byt:Fo→Int
 | .nil=>0
 | .cell k c r=>OY k+TD c+r.byt
 | .node k c kids r=>OY k+(c.fN+1)+kids.byt+r.byt
theorem Kr (s:An):2≤KR s:=by unfold KR;omega
theorem Mb (k:Option An):0≤OY k:=by
 cases k with
 | none=>exact ZJ 0
 | some s=>have:=Kr s;simp only[OY];omega
theorem RZ {c:Ac}(hp:pl c=true):0≤TD c:=by
 unfold TD
 cases h1:decide (c.fKind=1) with
 | true=>simp
 | false=>
  cases h2:decide (c.fKind=2) with
  | true=>
   simp[pl,h1,h2] at hp;simp only[Zx,Z1];omega
  | false=>
   cases h3:decide (c.fKind=3) with
   | true=>simp
   | false=>
    cases h4:decide (c.fKind=4) with
    | true=>have:=Kr c.fStr;simp only[Zx,Z1];omega
    | false=>simp
theorem Wl {c:Ac}(hp:pl c=true):0≤c.fN:=by
 simp only[pl,← Bool.decide_or] at hp
 cases h1:decide (c.fKind=1)<;>cases h2:decide (c.fKind=2)<;>cases h3:decide (c.fKind=3)<;>cases h4:decide (c.fKind=4)<;>cases h5:decide (c.fKind=5)<;>cases h6:decide (c.fKind=6)<;>simp[h1,h2,h3,h4,h5,h6] at hp<;>omega
theorem OB {c:Ac}(hp:pl c=true)(hn:0<c.fN):(c.fKind=5∨c.fKind=6)∧c.fInt=0∧c.fStr=[]:=by
 cases h1:decide (c.fKind=1)<;>cases h2:decide (c.fKind=2)<;>cases h3:decide (c.fKind=3)<;>cases h4:decide (c.fKind=4)<;>cases h5:decide (c.fKind=5)<;>cases h6:decide (c.fKind=6)<;>simp[pl,h1,h2,h3,h4,h5,h6] at hp<;>(simp only[Zr,Zq] at *;first | omega | exact⟨by omega,hp.1,hp.2.1⟩)
theorem Ud {c:Ac}(hp:pl c=true)(hn:decide (0<c.fN)=false):Xn c=TD c:=by
 have hN:=Wl hp;have h0:c.fN=0:=by simp only[Zq] at hn;omega
 unfold Xn TD;rw[h0]
 cases h1:decide (c.fKind=1) with
 | true=>rfl
 | false=>
  cases h2:decide (c.fKind=2) with
  | true=>
   simp[pl,h1,h2] at hp;simp only[Zx,Z1];exact IO (by omega) (by omega)
  | false=>rfl
theorem Uc {c:Ac}(hp:pl c=true)(hn:0<c.fN)(hm:c.fN≤9223372036854775000):Xn c=c.fN+1:=by
 obtain⟨hk,_,_⟩:=OB hp hn;unfold Xn;rw[Zy (by omega),Zy (by omega),Zy (by omega),Zy (by omega)];simp only[Zx];rw[IO (x:=c.fN-1) (by omega) (by omega),IO (by omega) (by omega)];omega
theorem GO:∀{f:Fo} {m:Bool} {l:Option An},f.wf m l=true→0≤f.byt
 | .nil,_,_,_=>ZJ 0
 | .cell k c r,m,l,h=>by
  simp only[Fo.wf,Zu] at h;have h1:=GO h.2;have h2:=RZ h.1.1.2;have h3:=Mb k;simp only[Fo.byt];omega
 | .node k c kids r,m,l,h=>by
  simp only[Fo.wf,Zu,Zr] at h;have h1:=GO h.2;have h2:=GO h.1.2;have h3:=Mb k;simp only[Fo.byt];omega
theorem NL (k:Option An)(s:AM)(h0:0≤s.fBytes)(h:s.fBytes+OY k≤9223372036854775807):(Lv k s).fBytes=s.fBytes+OY k:=by
 cases k with
 | none=>simp[Lv,OY]
 | some x=>
  have:=Kr x;simp only[OY] at h;simp only[Lv,Yb,OY];exact IO (by omega) (by omega)
theorem Kl:∀(f:Fo) (m:Bool) (l:Option An) (d:Nat) (s:AM),f.wf m l=true→0≤s.fBytes→s.fBytes+f.byt≤9223372036854775000→(f.sh d s).fBytes=s.fBytes+f.byt
 | .nil,_,_,d,s,_,_,_=>by simp[Fo.sh,Fo.byt]
 | .cell k c r,m,l,d,s,hw,h0,h=>by
  simp only[Fo.wf,Zu,ZL] at hw;obtain⟨⟨⟨w1,w2⟩,w3⟩,w4⟩:=hw;have h1:=GO w4;have h2:=RZ w2;have h3:=Mb k;simp only[Fo.byt] at h;have e1:=NL k s h0 (by omega);have e:(Im d (Lv k s) c).fBytes=s.fBytes+OY k+TD c:=by
   rw[Im,e1,Ud w2 w3];exact IO (by omega) (by omega)
  rw[Fo.sh,Kl r _ _ d _ w4 (by rw[e];omega) (by rw[e];omega),e,Fo.byt];omega
 | .node k c kids r,m,l,d,s,hw,h0,h=>by
  simp only[Fo.wf,Zu,Zr] at hw;obtain⟨⟨⟨⟨⟨w1,w2⟩,w3⟩,w5⟩,w6⟩,w4⟩:=hw;have h1:=GO w4;have h2:=GO w6;have h3:=Mb k;simp only[Fo.byt] at h;have e1:=NL k s h0 (by omega);have e:(Im d (Lv k s) c).fBytes=s.fBytes+OY k+(c.fN+1):=by
   rw[Im,e1,Uc w2 w3 (by omega)];exact IO (by omega) (by omega)
  have e2:=Kl kids _ _ (d+1) (Im d (Lv k s) c) w6 (by rw[e];omega) (by rw[e];omega);rw[Fo.sh,Kl r _ _ d _ w4 (by rw[e2,e];omega) (by rw[e2,e];omega),e2,e,Fo.byt];omega
def GX (s:An):An:=s.flatMap λc=>bif (decide (c=34)||decide (c=92)) then[92,c] else[c]
def JK (s:An):An:=34::(GX s++[34])
theorem Ne:∀s:An,(GX s).length=s.length+s.count 34+s.count 92
 | []=>rfl
 | c::s=>by
  have ih:=Ne s;unfold GX at ih ⊢;rw[List.flatMap_cons,Zs,ih]
  by_cases h1:c=34
  ·subst h1;simp;omega
  ·by_cases h2:c=92
   ·subst h2;simp;omega
   ·simp[h1,h2,List.count_cons];omega
theorem PJ (s:An):((JK s).length:Int)=KR s:=by
 simp only[JK,Z5,Zs,Ne,Aae,KR];omega
def GL (c:Ac):An:=
 bif decide (c.fKind=1) then[110,117,108,108] else
 bif decide (c.fKind=2) then(bif decide (c.fInt=1) then[116,114,117,101] else[102,97,108,115,101]) else
 bif decide (c.fKind=3) then Lib.itoa c.fInt else
 bif decide (c.fKind=4) then JK c.fStr else
 bif decide (c.fKind=6) then[123,125] else[91,93]
def Od:Option An→An
 | none=>[]
 | some s=>JK s++[58]
def T4 (c:Ac)(s:An):An:=bif decide (c.fKind=6) then 123::(s++[125]) else 91::(s++[93])
def HC (first:Bool):An:=bif first then[] else[44]
def Fo.txt:Bool→Fo→An
 | _,.nil=>[]
 | b,.cell k c r=>HC b++Od k++GL c++r.txt false
 | b,.node k c kids r=>HC b++Od k++T4 c (kids.txt true)++r.txt false
theorem Se (k:Option An):((Od k).length:Int)=OY k:=by
 cases k with
 | none=>rfl
 | some s=>simp only[Od,Zs,OY,ZN];have:=PJ s;omega
theorem Oc {c:Ac}(hp:pl c=true):((GL c).length:Int)=TD c:=by
  unfold GL TD
  cases h1:decide (c.fKind=1) with
  | true=>rfl
  | false=>
    cases h2:decide (c.fKind=2) with
    | true=>
      simp[pl,h1,h2] at hp;simp only[Zx,Z1]
      cases h7:decide (c.fInt=1) with
      | true=>simp only[Zr] at h7;simp[h7]
      | false=>
                 simp only[Zq] at h7;have:c.fInt=0:=by omega
                 simp[this]
    | false=>
      cases h3:decide (c.fKind=3) with
      | true=>rfl
      | false=>
        cases h4:decide (c.fKind=4) with
        | true=>simpa using PJ c.fStr
        | false=>cases h6:decide (c.fKind=6)<;>rfl
theorem KF (c:Ac)(s:An):(T4 c s).length=s.length+2:=by
 unfold T4
 cases decide (c.fKind=6)<;>simp
theorem IX:∀(f:Fo) (m:Bool) (l:Option An) (b:Bool),f.wf m l=true→((f.txt b).length:Int)=f.byt+(bif b then((f.cnt-1:Nat):Int) else(f.cnt:Int))
 | .nil,m,l,b,_=>by cases b<;>rfl
 | .cell k c r,m,l,b,hw=>by
  simp only[Fo.wf,Zu,ZL] at hw;obtain⟨⟨⟨w1,w2⟩,w3⟩,w4⟩:=hw;have ih:=IX r _ _ false w4;have a:=Se k;have d:=Oc w2;simp only[Zx] at ih
  cases b<;>simp only[Fo.txt,Fo.byt,Fo.cnt,HC,Z1,Zx,Zs,Aae,ZN]<;>omega
 | .node k c kids r,m,l,b,hw=>by
  simp only[Fo.wf,Zu,Zr] at hw;obtain⟨⟨⟨⟨⟨w1,w2⟩,w3⟩,w5⟩,w6⟩,w4⟩:=hw;have ih:=IX r _ _ false w4;have ih2:=IX kids _ _ true w6;have a:=Se k;have d:=KF c (kids.txt true);simp only[Zx,Z1] at ih ih2
  cases b<;>simp only[Fo.txt,Fo.byt,Fo.cnt,HC,Z1,Zx,Zs,Aae,ZN]<;>omega
def Fo.put (k:Option An):Fo→Fo→Fo
 | .cell _ c _,r=>.cell k c r
 | .node _ c kids _,r=>.node k c kids r
 | .nil,_=>.nil
theorem Ut (P:Nat)(m:Bool)(last:Option An)(k:Nat)(xs:List Ac):H3 (P+2) m last (k+1) xs =
  match Io m last xs with
  | none=>none
  | some (key,ys)=>match H3 (P+2) false none 1 ys with
   | none=>none
   | some (f,zs)=>match H3 (P+1) m key k zs with
    | none=>none
    | some (r,us)=>some (f.put key r,us):=by
 rw[H3]
 cases hk:Io m last xs with
 | none=>rfl
 | some p=>
  obtain⟨key,ys⟩:=p;simp only;rw[H3];simp only[Io,Zx]
  cases ys with
  | nil=>rfl
  | cons c ys=>
   simp only
   cases hp:pl c with
   | false=>rfl
   | true=>
    simp only[Z2,Zx]
    cases hn:decide (0<c.fN) with
    | true=>
     simp only[Z1]
     cases hq:H3 (P+1) (decide (c.fKind=6)) none c.fN.toNat ys with
     | none=>rfl
     | some q=>
      obtain⟨kids,zs⟩:=q;simp only[H3]
      cases hr:H3 (P+1) m key k zs with
      | none=>rfl
      | some q=>obtain⟨a,b⟩:=q;rfl
    | false=>
     simp only[Zx,H3]
     cases hr:H3 (P+1) m key k ys with
     | none=>rfl
     | some q=>obtain⟨a,b⟩:=q;rfl
def Ny (m:Bool)(last:Option An)(k:Nat)(xs:List Ac):Option (Fo×List Ac):=H3 (xs.length+1) m last k xs
theorem KS (m:Bool)(last:Option An)(xs:List Ac):Ny m last 0 xs=some (.nil,xs):=rfl
theorem IY (m:Bool)(last:Option An)(k:Nat)(xs:List Ac):Ny m last (k+1) xs =
  match Io m last xs with
  | none=>none
  | some (key,ys)=>match Ip ys with
   | none=>none
   | some (f,zs)=>match Ny m key k zs with
    | none=>none
    | some (r,us)=>some (f.put key r,us):=by
 unfold Ny Ip;rw[Hp (xs.length+1) (xs.length+2) m last (k+1) xs (by omega) (by omega),Ut]
 cases hk:Io m last xs with
 | none=>rfl
 | some p=>
  obtain⟨key,ys⟩:=p;have h1:=(LW hk).1;have hy:ys.length≤xs.length:=by rw[h1];simp
  simp only;rw[Hp (xs.length+2) (ys.length+1) false none 1 ys (by omega) (by omega)]
  cases hf:H3 (ys.length+1) false none 1 ys with
  | none=>rfl
  | some q=>
   obtain⟨f,zs⟩:=q;have h2:=(GU _ _ _ _ _ _ _ hf).1;have hz:zs.length≤ys.length:=by rw[h2];simp
   simp only;rw[Hp (xs.length+1) (zs.length+1) m key k zs (by omega) (by omega)]
   all_goals (cases H3 (zs.length+1) m key k zs<;>rfl)
theorem Sc {S O:Type}{body:S→Option (Stp S O)}{n:Nat}{s s':S}{o:O}(h:body s=some (.next s'))(h':Cz body n s'=some o):Cz body (n+1) s=some o:=by rw[Cz,h];exact h'
theorem L3 {S O:Type}{body:S→Option (Stp S O)}{n:Nat}{s:S}{o:O}(h:body s=some (.out o)):Cz body (n+1) s=some o:=by rw[Cz,h]
theorem Uu:Ip []=none:=rfl
theorem KT (c:Ac)(r:List Ac):Ip (c::r)=bif !pl c then none else bif decide (0<c.fN) then(match Ny (decide (c.fKind=6)) none c.fN.toNat r with
  | none=>none
  | some (kids,zs)=>some (.node none c kids .nil,zs)) else some (.cell none c .nil,r):=by
 unfold Ip;rw[H3];simp only[Io,Zx]
 cases hp:pl c with
 | false=>rfl
 | true=>
  simp only[Z2,Zx]
  cases hn:decide (0<c.fN) with
  | true=>
   simp only[Z1];unfold Ny;rw[Z5]
   cases hq:H3 (r.length+1) (decide (c.fKind=6)) none c.fN.toNat r with
   | none=>rfl
   | some q=>obtain⟨kids,zs⟩:=q;rfl
  | false=>rfl
theorem PK {f:Fo}(h:f.one=true)(key:Option An)(r:Fo):(f.put key r).flat=Ck key++(f.flat++r.flat):=by
 cases f with
 | nil=>cases h
 | cell k c r'=>
  cases k with
  | some s=>cases h
  | none=>cases r' with
   | nil=>simp[Fo.put,Fo.flat,Ck]
   | cell _ _ _=>cases h
   | node _ _ _ _=>cases h
 | node k c kids r'=>
  cases k with
  | some s=>cases h
  | none=>cases r' with
   | nil=>simp[Fo.put,Fo.flat,Ck]
   | cell _ _ _=>cases h
   | node _ _ _ _=>cases h
theorem PL {f:Fo}(h:f.one=true):1≤f.flat.length:=by
 cases f with
 | nil=>cases h
 | cell k c r'=>simp[Fo.flat];omega
 | node k c kids r'=>simp[Fo.flat];omega
theorem Ks {xs ys:List Ac}{f:Fo}(h:Ip xs=some (f,ys)):xs=f.flat++ys∧f.wf false none=true∧f.one=true:=
 ⟨(GU _ _ _ _ _ _ _ h).1,(GU _ _ _ _ _ _ _ h).2.1,RL h⟩
def J7 (v:List Ac)(i:Int):Int:=match Ip (v.drop i.toNat) with
 | none=>-1
 | some (f,_)=>i+f.flat.length
def K5 (m:Bool)(last:Option An)(v:List Ac)(i:Int)(k:Nat):Int:=match Ny m last k (v.drop i.toNat) with
 | none=>-1
 | some (f,_)=>i+f.flat.length
theorem NX {v:List Ac}{i:Int}(h0:0≤i)(h1:i≤v.length):J7 v i = -1∨(i<J7 v i∧J7 v i≤v.length):=by
 unfold J7
 cases h:Ip (v.drop i.toNat) with
 | none=>exact .inl rfl
 | some q=>
  obtain⟨f,ys⟩:=q;obtain⟨h2,_,h3⟩:=Ks h;have:=PL h3;have hl:(v.drop i.toNat).length=f.flat.length+ys.length:=by rw[h2];simp
  rw[ZS] at hl
  right;simp only;omega
structure YG (F M:Nat) (v:List Ac):Prop where
 hM:M≤1152921504606846976
 hv:v.length≤M
 hF:M<F
 hc:∀c∈v,c.fStr.length≤M
theorem SP (ok:Bool){i:Int}(h0:0≤i)(h1:i≤1152921504606846976):CS ok i=some (bif ok then i+1 else -1):=by
 unfold CS
 cases ok
 ·rfl
 ·rw[Bx rfl,Br (by omega) (by omega)];rfl
theorem RK {F:Nat}{c:Ac}(hF:c.fStr.length<F)(hs:c.fStr.length≤1152921504606846976):Us F c=some (decide (c.fKind=4)&&pl c):=by
 unfold Us;rw[SN hF (by omega)];simp only[Option.isSome_some,ov,ZM,imp,ZH,Bc,Z1]
 cases h4:decide (c.fKind=4) with
 | false=>rfl
 | true=>
  simp only[Zr] at h4;simp[pl,h4]
theorem Pk {v:List Ac}{i:Int}{c:Ac}{r:List Ac}(h0:0≤i)(h:v.drop i.toNat=c::r):Ap v i=c:=by
 have:=(Ez h0 h).1;simp[Ap,this]
section
variable {M : Nat} {v : List Ac}
theorem J2 {F:Nat}(hA:YG F M v){g:List Ac→Int→Option Int}{n:Int}(hn:n≤9223372036854775807):∀(L:Nat) (i x:Int),0≤i→i≤v.length→0≤x→x≤n→(∀j,i≤j→j≤v.length→g v j=some (J7 v j))→v.length-i.toNat<L→
  ∃o,Cz (λσ=>DI v n g σ.1 σ.2) L (i,x)=some o∧Ch (λν=>HD ν) o=some (K5 false none v i (n-x).toNat)
 | 0,i,x,_,_,_,_,_,h=>by omega
 | L+1,i,x,h0,h1,hx,hxn,hg,hL=>by
  cases hxl:decide (x<n) with
  | false=>
   refine⟨.go i,L3 (by show DI v n g i x=_;unfold DI;rw[Bo hxl]),?_⟩;simp only[Zq] at hxl;rw[show(n-x).toNat=0 from by omega];simp[Ch,HD,K5,KS,Fo.flat]
  | true=>
   have hb:DI v n g i x=B0 (decide (J7 v i<0)) (some (.out (.ret (-1)))) (Bc (BS .i64 (x+1))<|some (.next (J7 v i,x+1))):=by unfold DI;rw[Bx hxl,hg i (ZJ i) h1,Ca rfl]
   simp only[Zr] at hxl;obtain⟨k,hk⟩:∃k,(n-x).toNat=k+1:=⟨(n-x).toNat-1,by omega⟩
   rw[hk];have e:K5 false none v i (k+1)=bif decide (J7 v i<0) then -1 else K5 false none v (J7 v i) k:=by
    unfold K5;rw[IY];simp only[Io,Zx]
    cases hp:Ip (v.drop i.toNat) with
    | none=>simp[J7,hp]
    | some q=>
     obtain⟨f,ys⟩:=q;obtain⟨q1,q2,q3⟩:=Ks hp;have hi:J7 v i=i+f.flat.length:=by simp[J7,hp]
     have hd:v.drop (J7 v i).toNat=ys:=by rw[hi];exact D1 h0 q1
     rw[hd,Zy (by omega)];simp only[Zx]
     cases hr:Ny false none k ys with
     | none=>rfl
     | some q=>
      obtain⟨r,zs⟩:=q;simp only[PK q3,Ck,Aaj,Zs,hi];omega
   rw[e];rcases NX (v:=v) h0 h1 with hneg | ⟨hlt,hle⟩
   ·exact⟨.ret (-1),L3 (hb.trans (by rw[hneg,Bx (by decide)])),by rw[hneg];rfl⟩
   ·have hM:=hA.hM;have hvM:=hA.hv;obtain⟨o,ho1,ho2⟩:=J2 hA hn L (J7 v i) (x+1) (by omega) hle (by omega) (by omega) (λj hj=>hg j (by omega)) (by omega);exact⟨o,Sc (hb.trans (by rw[Bo (Zy (by omega)),Br (by omega) (by omega)])) ho1,by rw[ho2,show(n-(x+1)).toNat=k from by omega,Zy (by omega)];rfl⟩
theorem MD {F:Nat}(hA:YG F M v){g:List Ac→Int→Option Int}{n:Int}(hn:n≤9223372036854775807):∀(L:Nat) (i x:Int) (last:An),0≤i→i≤v.length→0≤x→x≤n→(∀j,i≤j→j≤v.length→g v j=some (J7 v j))→v.length-i.toNat<L→
  ∃o,Cz (λσ=>Eg F v n g σ.1 σ.2.1 σ.2.2) L (i,last,x)=some o∧Ch (λν=>KQ ν) o=some (K5 true (bif decide (0<x) then some last else none) v i (n-x).toNat)
 | 0,i,x,_,_,_,_,_,_,h=>by omega
 | L+1,i,x,last,h0,h1,hx,hxn,hg,hL=>by
  have hM:=hA.hM;have hvM:=hA.hv;have hMF:=hA.hF
  cases hxl:decide (x<n) with
  | false=>
   refine⟨.go i,L3 (by show Eg F v n g i last x=_;unfold Eg;rw[Bo hxl]),?_⟩;simp only[Zq] at hxl;rw[show(n-x).toNat=0 from by omega];simp[Ch,KQ,K5,KS,Fo.flat]
  | true=>
   have hxl':=hxl;simp only[Zr] at hxl;obtain⟨k,hk⟩:∃k,(n-x).toNat=k+1:=⟨(n-x).toNat-1,by omega⟩
   rw[hk]
   cases hd:v.drop i.toNat with
   | nil=>
    have hl:v.length≤i.toNat:=by simpa using hd
    refine⟨.ret (-1),L3 (by
     show Eg F v n g i last x=_;unfold Eg;rw[Bx hxl',Df (by simp[imp,show(v.length:Int)≤i from by omega]),Df (by simp[imp,show(v.length:Int)≤i from by omega]),Bx (by simp[show(v.length:Int)≤i from by omega])]),?_⟩
    simp[Ch,K5,hd,IY,Io]
   | cons c r=>
    obtain⟨g1,g2,g3⟩:=Ez h0 hd;have hcM:=hA.hc c (Z4 g1);have hat:=Pk h0 hd;have hnl:decide ((v.length:Int)≤i)=false:=by simp;omega
    have hb:Eg F v n g i last x=B0 (!(decide (c.fKind=4)&&pl c)||decide (0<x)&&(Cp c.fStr last||decide (c.fStr=last))) (some (.out (.ret (-1)))) (Bq (g v (i+1)) λha=>B0 (decide (ha<0)) (some (.out (.ret (-1)))) (Bc (BS .i64 (x+1))<|some (.next (ha,c.fStr,x+1)))):=by
     unfold Eg;rw[Bx hxl',Df (by simp only[imp];rw[Ve h0 g3];simp),hat,RK (by omega) (by omega),Df (by simp[imp])];simp only[hnl,ov,ZM,Z6];rw[Cc h0 g3,Br (by omega) (by omega)]
    have hpk:Io true (bif decide (0<x) then some last else none) (c::r)=bif (!(decide (c.fKind=4)&&pl c)||decide (0<x)&&(Cp c.fStr last||decide (c.fStr=last))) then none else some (some c.fStr,r):=by
     simp only[Io,Z1]
     cases h4:decide (c.fKind=4) with
     | false=>simp
     | true=>
      cases hp:pl c with
      | false=>simp
      | true=>
       have hok:=(OC hp (by simpa using h4)).2
       cases h0x:decide (0<x) with
       | false=>simp[CU,hok]
       | true=>cases hs:(Cp c.fStr last||decide (c.fStr=last))<;>simp[CU,hok,hs]
    cases ht:(!(decide (c.fKind=4)&&pl c)||decide (0<x)&&(Cp c.fStr last||decide (c.fStr=last))) with
    | true=>
     rw[ht] at hpk;refine⟨.ret (-1),L3 (hb.trans (Bx ht)),?_⟩;simp only[K5,hd,IY,hpk,Z1];rfl
    | false=>
     rw[ht] at hpk;rw[Bo ht,hg (i+1) (by omega) (by omega),Ca rfl] at hb;have e:K5 true (bif decide (0<x) then some last else none) v i (k+1)=bif decide (J7 v (i+1)<0) then -1 else K5 true (some c.fStr) v (J7 v (i+1)) k:=by
      unfold K5;rw[hd,IY,hpk];simp only[Zx];have hx:J7 v (i+1)=match Ip r with | none=>-1 | some (f,_)=>i+1+f.flat.length:=by unfold J7;rw[g2]
      cases hp:Ip r with
      | none=>rw[hp] at hx;simp[hx]
      | some q=>
       obtain⟨f,ys⟩:=q;obtain⟨q1,q2,q3⟩:=Ks hp;rw[hp] at hx;simp only at hx;have hd2:v.drop (J7 v (i+1)).toNat=ys:=by rw[hx];exact D1 (by omega) (g2.trans q1)
       rw[hd2,Zy (by omega)];simp only[Zx]
       cases hr:Ny true (some c.fStr) k ys with
       | none=>rfl
       | some q=>
        obtain⟨r',zs⟩:=q;simp only[PK q3,Ck,Zs,Z5,Aae,hx];omega
     rw[e];rcases NX (v:=v) (i:=i+1) (by omega) (by omega) with hneg | ⟨hlt,hle⟩
     ·exact⟨.ret (-1),L3 (hb.trans (by rw[hneg,Bx (by decide)])),by rw[hneg];rfl⟩
     ·obtain⟨o,ho1,ho2⟩:=MD hA hn L (J7 v (i+1)) (x+1) c.fStr (by omega) hle (by omega) (by omega) (λj hj=>hg j (by omega)) (by omega);exact⟨o,Sc (hb.trans (by rw[Bo (Zy (by omega)),Br (by omega) (by omega)])) ho1,by rw[ho2,show(n-(x+1)).toNat=k from by omega,Zz (show(0:Int)<x+1 from by omega),Zy (by omega)];rfl⟩
theorem PV {i:Int}{c:Ac}{r:List Ac}(h0:0≤i)(hd:v.drop i.toNat=c::r)(hp:pl c=true):J7 v i=K5 (decide (c.fKind=6)) none v (i+1) c.fN.toNat:=by
 have g2:=(Ez h0 hd).2.1;have hN:=Wl hp;unfold J7 K5;rw[hd,KT,g2,hp];simp only[Z2,Zx]
 cases hn:decide (0<c.fN) with
 | true=>
  simp only[Z1]
  cases hq:Ny (decide (c.fKind=6)) none c.fN.toNat r with
  | none=>rfl
  | some q=>
   obtain⟨kids,zs⟩:=q;simp only[Fo.flat,Ck,Aaj,Z5,Aag];omega
 | false=>
  simp only[Zq] at hn;rw[show c.fN.toNat=0 from by omega,KS];simp[Fo.flat,Ck]
theorem Ur (hA:YG (M+1) M v)(hN:∀c∈v,c.fN≤9223372036854775807):∀(d F:Nat) (i:Int),0≤i→i≤v.length→v.length-i.toNat=d→M+2*d+3<F→NN F v i=some (J7 v i):=by
 have hM:=hA.hM;have hvM:=hA.hv;intro d
 induction d using Nat.strongRecOn with
 | ind d ih=>
  intro F i h0 h1 hd hF;obtain⟨F,rfl⟩:∃G,F=G+1:=⟨F-1,by omega⟩
  obtain⟨F,rfl⟩:∃G,F=G+1:=⟨F-1,by omega⟩
  rw[NN];unfold Uq
  cases hdr:v.drop i.toNat with
  | nil=>
   have hl:v.length≤i.toNat:=by simpa using hdr
   rw[Bx (by simp;omega)];simp[J7,hdr,Uu]
  | cons c r=>
   obtain⟨g1,g2,g3⟩:=Ez h0 hdr;have hcM:=hA.hc c (Z4 g1);have hcN:=hN c (Z4 g1);rw[Bo (by simp;omega),Cc h0 g3,Pk h0 hdr];simp only[SP _ h0 (show i≤1152921504606846976 by omega),Option.isSome_some,ov,ZM,imp,ZH,Df (x:=_) (rfl:true=true)];have hg:∀j,i+1≤j→j≤v.length→NN F v j=some (J7 v j):=λj hj hj2=>ih (v.length-j.toNat) (by omega) F j (by omega) hj2 rfl (by omega);have hpl0:pl c=false→J7 v i = -1:=λhp=>by simp[J7,hdr,KT,hp]
   have hleaf:pl c=true→c.fN=0→J7 v i=i+1:=λhp h0'=>by simp[J7,hdr,KT,hp,h0',Fo.flat,Ck]
   have hscal:∀b:Bool,pl c=b→(b=true→c.fN=0)→J7 v i=bif b then i+1 else -1:=λb hb hz=>by
    cases b
    ·exact hpl0 hb
    ·exact hleaf hb (hz rfl)
   by_cases k1:c.fKind=1
   ·rw[Bx (by simp[k1])];have hp:pl c=(decide (c.fInt=0)&&(decide (c.fStr=[])&&decide (c.fN=0))):=by simp[pl,k1]
    rw[hscal _ hp (λh=>by simp at h;exact h.2.2)]
    cases decide (c.fInt=0)<;>cases decide (c.fStr=[])<;>cases decide (c.fN=0)<;>rfl
   rw[Bo (by simp[k1])]
   by_cases k2:c.fKind=2
   ·rw[Bx (by simp[k2])];have hp:pl c=((decide (c.fInt=0)||decide (c.fInt=1))&&(decide (c.fStr=[])&&decide (c.fN=0))):=by simp[pl,k2]
    rw[hscal _ hp (λh=>by simp at h;exact h.2.2)]
    cases decide (c.fInt=0)<;>cases decide (c.fInt=1)<;>cases decide (c.fStr=[])<;>cases decide (c.fN=0)<;>rfl
   rw[Bo (by simp[k2])]
   by_cases k3:c.fKind=3
   ·rw[Bx (by simp[k3])];have hp:pl c=(decide (c.fStr=[])&&decide (c.fN=0)):=by simp[pl,k3]
    rw[hscal _ hp (λh=>by simp at h;exact h.2)]
    cases decide (c.fStr=[])<;>cases decide (c.fN=0)<;>rfl
   rw[Bo (by simp[k3])]
   by_cases k4:c.fKind=4
   ·rw[Bx (by simp[k4]),RK (by omega) (by omega),Ca rfl,Ca rfl];rw[Zz k4,Z7,hscal (pl c) rfl (λhp=>by have:=(OC hp k4).1;rw[this])]
   rw[Bo (by simp[k4])]
   by_cases k5:c.fKind=5
   ·have hp:pl c=(decide (c.fInt=0)&&(decide (c.fStr=[])&&decide (0≤c.fN))):=by simp[pl,k5]
    rw[show(decide (c.fKind=5)&&(decide (c.fInt=0)&&(decide (c.fStr=[])&&decide (0≤c.fN))))=pl c from by rw[hp,Zz k5,Z7]];have k5' : ¬ c.fKind=6:=by omega
    cases hb:pl c with
    | false=>rw[Bo rfl,Bo (by simp[k5]),hpl0 hb]
    | true=>
     have hn0:=Wl hb;rw[Bx rfl,Br (by omega) (by omega),NO];unfold ME;obtain⟨o,ho1,ho2⟩:=J2 (F:=F) ⟨hM,hvM,by omega,hA.hc⟩ hcN F (i+1) 0 (by omega) (by omega) (ZJ 0) hn0 hg (by omega);rw[Ca ho1,ho2,Ca rfl,PV h0 hdr hb,Zy k5',Int.sub_zero]
   rw[Bo (by simp[k5])]
   by_cases k6:c.fKind=6
   ·have hp:pl c=(decide (c.fInt=0)&&(decide (c.fStr=[])&&decide (0≤c.fN))):=by simp[pl,k6]
    rw[show(decide (c.fKind=6)&&(decide (c.fInt=0)&&(decide (c.fStr=[])&&decide (0≤c.fN))))=pl c from by rw[hp,Zz k6,Z7]]
    cases hb:pl c with
    | false=>rw[Bo rfl,hpl0 hb]
    | true=>
     have hn0:=Wl hb;rw[Bx rfl,Br (by omega) (by omega),Uo];unfold RJ;obtain⟨o,ho1,ho2⟩:=MD (F:=F) ⟨hM,hvM,by omega,hA.hc⟩ hcN F (i+1) 0 [] (by omega) (by omega) (ZJ 0) hn0 hg (by omega);rw[Ca ho1,ho2,Ca rfl,PV h0 hdr hb,Zz k6,Int.sub_zero];rfl
   ·rw[Bo (by simp[k6]),hpl0 (by simp[pl,k1,k2,k3,k4,k5,k6])]
end
structure JY (M:Nat) (v:List Ac):Prop where
 hM:M≤1000000000
 hv:v.length≤M
 hc:∀c∈v,c.fStr.length≤M∧BS .i64 c.fInt=true∧c.fN≤9223372036854775807
theorem JY.lk {M F:Nat}{v:List Ac}(h:JY M v)(hF:M<F):Sv F M v:=⟨by have:=h.hM;omega,by have:=h.hM;omega,h.hv,hF,h.hc⟩
theorem JY.rf {M F:Nat}{v:List Ac}(h:JY M v)(hF:M<F):YG F M v:=⟨by have:=h.hM;omega,h.hv,hF,λc hc=>(h.hc c hc).1⟩
theorem JY.drop {M:Nat}{v:List Ac}(h:JY M v)(k:Nat):JY M (v.drop k):=⟨h.hM,by have:=h.hv;rw[ZS];omega,λc hc=>h.hc c (List.mem_of_mem_drop hc)⟩
theorem JY.take {M:Nat}{v:List Ac}(h:JY M v)(k:Nat):JY M (v.take k):=⟨h.hM,by have:=h.hv;rw[ZY];omega,λc hc=>h.hc c (List.mem_of_mem_take hc)⟩
def whole (v:List Ac):Option Fo:=match Ip v with
 | some (f,[])=>some f
 | _=>none
theorem QE {v:List Ac}{f:Fo}(h:whole v=some f):v=f.flat∧f.wf false none=true∧f.one=true:=by
 unfold whole at h
 cases hp:Ip v with
 | none=>rw[hp] at h;cases h
 | some q=>
  obtain⟨g,ys⟩:=q;rw[hp] at h
  cases ys with
  | cons _ _=>cases h
  | nil=>
   cases h
   obtain⟨h1,h2,h3⟩:=Ks hp;exact⟨by simpa using h1,h2,h3⟩
def Qr (f:Fo):Int:=
 bif f.flat.any SS then 2 else bif f.flat.any Sd||(decide (200<f.flat.length)||(decide (8<f.dep)||decide (4000<(f.txt true).length))) then 3 else 0
def Nf (v:List Ac):Int:=match whole v with
 | none=>1
 | some f=>Qr f
theorem RP {f:Fo}(h1:f.one=true):f.cnt=1:=by
 cases f with
 | nil=>cases h1
 | cell k c r=>cases k with
  | some _=>cases h1
  | none=>cases r with
   | nil=>rfl
   | _=>cases h1
 | node k c kids r=>cases k with
  | some _=>cases h1
  | none=>cases r with
   | nil=>rfl
   | _=>cases h1
theorem OA (s:An):KR s≤2*s.length+2+s.length:=by
 have h1:s.count 34≤s.length:=List.count_le_length;have h2:s.count 92≤s.length:=List.count_le_length;unfold KR;omega
theorem X4 {c:Ac}{M:Nat}(hp:pl c=true)(hs:c.fStr.length≤M)(hi:(Lib.itoa c.fInt).length≤21):TD c≤3*M+21:=by
 have:=OA c.fStr;unfold TD
 cases h1:decide (c.fKind=1) with
 | true=>simp only[Z1];omega
 | false=>
  cases h2:decide (c.fKind=2) with
  | true=>
   simp[pl,h1,h2] at hp;simp only[Zx,Z1];omega
  | false=>
   cases h3:decide (c.fKind=3) with
   | true=>simp only[Zx,Z1];omega
   | false=>cases h4:decide (c.fKind=4)<;>simp only[Zx,Z1]<;>omega
theorem Pi {M:Nat}:∀{f:Fo} {m:Bool} {l:Option An},f.wf m l=true→(∀c∈f.flat,c.fStr.length≤M∧BS .i64 c.fInt=true∧c.fN≤9223372036854775807)→f.byt+f.cnt≤(3*M+24)*f.flat.length
 | .nil,_,_,_,_=>by simp[Fo.byt,Fo.flat,Fo.cnt]
 | .cell k c r,m,l,hw,hc=>by
  simp only[Fo.wf,Zu,ZL] at hw;obtain⟨⟨⟨w1,w2⟩,w3⟩,w4⟩:=hw;simp only[Fo.flat] at hc;have ih:=Pi w4 (λx hx=>hc x (by simp[hx]));obtain⟨c1,c2,c3⟩:=hc c (by simp);have i64:=Jn c2;have hl:=X4 w2 c1 (Lib.itoa_length_le c.fInt i64.1 i64.2);have hk:OY k≤(3*M+24)*(Ck k).length:=by
   cases k with
   | none=>simp[OY,Ck]
   | some s=>
    have:=(hc ⟨4,0,s,0⟩ (by simp[Ck])).1;have h2:=OA s;simp only at this;simp only[OY,Ck,ZN];omega
  simp only[Fo.byt,Fo.flat,Fo.cnt,Zs,Z5];have e:((3*(M:Int)+24)*(((Ck k).length+(r.flat.length+1):Nat):Int))=(3*(M:Int)+24)*(Ck k).length+((3*(M:Int)+24)*r.flat.length+(3*(M:Int)+24)):=by
   push_cast;rw[Int.mul_add,Int.mul_add,Int.mul_one]
  rw[e]
  push_cast at *
  omega
 | .node k c kids r,m,l,hw,hc=>by
  simp only[Fo.wf,Zu,Zr] at hw;obtain⟨⟨⟨⟨⟨w1,w2⟩,w3⟩,w5⟩,w6⟩,w4⟩:=hw;simp only[Fo.flat] at hc;have ih:=Pi w4 (λx hx=>hc x (by simp[hx]));have ih2:=Pi w6 (λx hx=>hc x (by simp[hx]));have hcf:=De kids;have hk:OY k≤(3*M+24)*(Ck k).length:=by
   cases k with
   | none=>simp[OY,Ck]
   | some s=>
    have:=(hc ⟨4,0,s,0⟩ (by simp[Ck])).1;have h2:=OA s;simp only at this;simp only[OY,Ck,ZN];omega
  simp only[Fo.byt,Fo.flat,Fo.cnt,Zs,Z5];have e:((3*(M:Int)+24)*(((Ck k).length+(kids.flat.length+r.flat.length+1):Nat):Int))=(3*(M:Int)+24)*(Ck k).length+((3*(M:Int)+24)*kids.flat.length+(3*(M:Int)+24)*r.flat.length+(3*(M:Int)+24)):=by
   push_cast;rw[Int.mul_add,Int.mul_add,Int.mul_add,Int.mul_one]
  rw[e]
  push_cast at *
  omega
theorem Ou {M:Nat}(hM:M≤2000000){f:Fo}{m:Bool}{l:Option An}(hw:f.wf m l=true)(hl:f.flat.length≤M)(hc:∀c∈f.flat,c.fStr.length≤M∧BS .i64 c.fInt=true∧c.fN≤9223372036854775807):f.byt≤16000000000000:=by
 have:=Pi (M:=M) hw hc;have h2:(3*M+24)*f.flat.length≤(3*2000000+24)*2000000:=Nat.mul_le_mul (by omega) (by omega);have h3:(((3*M+24)*f.flat.length:Nat):Int)=(3*(M:Int)+24)*f.flat.length:=by push_cast;rfl
 omega
theorem KN {M F:Nat}{v:List Ac}(hA:JY M v)(hM:M≤2000000)(hF:M<F):H9 F v=some (Nf v):=by
 unfold H9 Nf whole;have hvM:=hA.hv;rcases W3 (hA.lk hF) with⟨f,ys,hp,hl⟩ | ⟨hp,sh',hl⟩
 ·rw[hl,Ca rfl,hp];obtain⟨h1,h2,h3⟩:=Ks hp;have hlen:v.length=f.flat.length+ys.length:=by rw[h1];simp
  cases ys with
  | cons c r=>
   rw[Bx];simp only[Z5] at hlen;simp;omega
  | nil=>
   simp only[Aae,Nat.add_zero] at hlen;rw[Bo (by simp[hlen])];have hc:∀c∈f.flat,c.fStr.length≤M∧BS .i64 c.fInt=true∧c.fN≤9223372036854775807:=λc hc=>hA.hc c (by rw[h1];simp[hc]);have hb:=Ou hM h2 (by omega) hc;have hb0:=GO h2;have e1:(f.sh 0 MA).fOutside=f.flat.any SS:=by rw[O5];rfl
   have e2:(f.sh 0 MA).fLong=f.flat.any Sd:=by rw[LT];rfl
   have e3:(f.sh 0 MA).fDepth=f.dep:=by rw[Kk f 0 MA (by simp[MA])];simp[MA]
   have e4:(f.sh 0 MA).fBytes=(f.txt true).length:=by
    rw[Kl f false none 0 MA h2 (by simp[MA]) (by simp[MA];omega),IX f false none true h2,RP h3];simp[MA]
   simp only;rw[e1,e2,e3,e4,hlen];unfold Qr
   cases f.flat.any SS with
   | true=>rw[Bx rfl];rfl
   | false=>
    rw[Bo rfl];have a1:decide ((200:Int)<(f.flat.length:Int))=decide (200<f.flat.length):=by rw[ZR];simp;omega
    have a2:decide ((8:Int)<(f.dep:Int))=decide (8<f.dep):=by rw[ZR];simp;omega
    have a3:decide ((4000:Int)<((f.txt true).length:Int))=decide (4000<(f.txt true).length):=by rw[ZR];simp;omega
    rw[a1,a2,a3]
    cases(f.flat.any Sd||(decide (200<f.flat.length)||(decide (8<f.dep)||decide (4000<(f.txt true).length))))<;>rfl
 ·rw[hl,Ca rfl,hp];rfl
theorem VT {c:Ac}(hp:pl c=true)(hn:decide (0<c.fN)=false):(Fo.cell none c .nil).wf false none=true:=by simp[Fo.wf,CU,hp,hn]
theorem VS {c:Ac}{kids:Fo}(hp:pl c=true)(hn:0<c.fN)(hk:c.fN=kids.cnt)(hw:kids.wf (decide (c.fKind=6)) none=true):(Fo.node none c kids .nil).wf false none=true:=by simp[Fo.wf,CU,hp,hn,hk,hw];omega
section
variable {M : Nat} {v : List Ac}
theorem JY.next (hA:JY M v){F:Nat}(hF:3*M+3<F){p:Int}(h0:0≤p)(h1:p≤v.length):NN F v p=some (J7 v p):=by
 have hM:=hA.hM;have hvM:=hA.hv;exact Ur (hA.rf (Z3 M)) (λc hc=>(hA.hc c hc).2.2) (v.length-p.toNat) F p h0 h1 rfl (by omega)
theorem W6 {m:Bool}{last key:Option An}(h:CU m last key=true):((Ck key).length:Int)=bif m then 1 else 0:=by
  cases key with
  | none=>
            have:m=false:=by simpa[CU] using h
            subst this;rfl
  | some s=>simp only[CU,Zu] at h;rw[h.1.1];rfl
end
def Qp (c:UInt8):An:=bif (decide (c=34)||decide (c=92)) then[92,c] else[c]
theorem Ol {s:An}{k:Nat}{c:UInt8}(h:s[k]? =some c):GX (s.take (k+1))=GX (s.take k)++Qp c:=by
 rw[List.take_add_one,h];simp[GX,List.flatMap_append,Qp]
theorem Y6 {s:An}{x:Int}{c:UInt8}(h:s[x.toNat]? =some c):decide (Bu s x=34)=decide (c=34):=by
 rw[Mg h,ZR,decide_eq_true_iff,decide_eq_true_iff,← UInt8.toNat_inj];show _↔c.toNat=34;omega
theorem Y5 {s:An}{x:Int}{c:UInt8}(h:s[x.toNat]? =some c):decide (Bu s x=92)=decide (c=92):=by
 rw[Mg h,ZR,decide_eq_true_iff,decide_eq_true_iff,← UInt8.toNat_inj];show _↔c.toNat=92;omega
theorem Ku {R V:Type}(K:V→Option R)(v:V):Ch K (.go v)=K v:=rfl
section
variable {M : Nat} {v : List Ac}
theorem YX (a b c d e:An):(((a++b)++c)++d)++e=a++(b++(c++d)++e):=by simp
theorem YY (a b c d:An):((a++b)++c)++d=a++([]++(b++c)++d):=by simp
theorem YZ (a b c:An):(a++b)++c=a++(b++[]++c):=by simp
theorem Za (a b:An):a++b=a++([]++[]++b):=by simp
end
section
variable {M : Nat} {v : List Ac}
theorem RO {α:Type}[Inhabited α](a:α):ov (some a)=a:=rfl
end
theorem Dk {α:Type}{n:Nat}{x:Option α}(h:n≤140737488355328):Bc (Dp 1 n) x=x:=Df (Zz (by omega))
theorem EW {α β:Type}(a:α)(k:α→Option β):JX a k=k a:=rfl
theorem G2 {α:Type}{n:Int}{x:Option α}(h:0≤n)(h':n≤255):Bc (BS .u8 n) x=x:=Df (W9 h h')
theorem V9 {s:An}{x:Int}{c:UInt8}(h:s[x.toNat]? =some c):UInt8.ofNat (Int.toNat (Bu s x))=c∧0≤Bu s x∧Bu s x≤255:=by
 have:=UInt8.toNat_lt c;rw[Mg h];refine⟨?_,by omega,by omega⟩;rw[← UInt8.toNat_inj];simp
theorem P9 {s l:An}{x:Int}{c:UInt8}(h0:0≤x)(hx:x<(s.length:Int))(hs:s.length≤1152921504606846976)(hl:l.length+2≤140737488355328)(hc:s[x.toNat]? =some c):Dn s x l=some (.next (x+1,l++Qp c)):=by
 obtain⟨b1,b2,b3⟩:=V9 hc;unfold Dn Qp;rw[Bx (Zz hx),Cc h0 hx,Y6 hc,Y5 hc];have l1:(l++[UInt8.ofNat (Int.toNat 92)]).length=l.length+1:=by simp
 cases hq:(decide (c=34)||decide (c=92)) with
 | true=>
  rw[Bx rfl,Dk (by omega),G2 (by decide) (by decide),EW,l1,Dk (by omega),G2 b2 b3,EW,b1,Br (by omega) (by omega),ZZ];rfl
 | false=>
  rw[Bo rfl,Dk (by omega),G2 b2 b3,EW,b1,Br (by omega) (by omega)];rfl
theorem TZ {l:An}(h:l.length+1≤140737488355328):Ef l=some (l++[34]):=by
 unfold Ef;rw[Dk h,EW];rfl
theorem KM {F:Nat}{l s:An}(hF:s.length<F)(hl:(l++JK s).length≤140737488355328):JH F l s=some (l++JK s):=by
 have hq:(JK s).length=(GX s).length+2:=by simp[JK]
 rw[Zs,hq] at hl;have hesc:∀k,(GX (s.take k)).length≤(GX s).length:=λk=>by
  have:GX s=GX (s.take k)++GX (s.drop k):=by rw[GX,GX,GX,← List.flatMap_append,Aah]
  rw[this,Zs];omega
 have hsl:s.length≤(GX s).length:=by rw[Ne];omega
 obtain⟨o,h1,h2⟩:=Ma (body:=λσ=>Dn s σ.1 σ.2) (λσ=>0≤σ.1∧σ.1≤(s.length:Int)∧σ.2=l++[34]++GX (s.take σ.1.toNat)) (λσ=>s.length-σ.1.toNat)
  (λo=>Ch (λν=>Ef ν) o=some (l++JK s)) (λσ ⟨h0,hlx,ha⟩=>by
   obtain⟨x,out⟩:=σ;simp only at h0 hlx ha;show(∃s',Dn s x out=_∧_)∨∃o,Dn s x out=_∧_;have hol:out.length=l.length+1+(GX (s.take x.toNat)).length:=by rw[ha];simp;omega
   have he:=hesc x.toNat
   by_cases hx:x<(s.length:Int)
   ·obtain⟨c,hc⟩:∃c,s[x.toNat]? =some c:=⟨s[x.toNat]'(by omega),Zt (by omega)⟩
    have he2:=hesc (x.toNat+1);rw[Ol hc,Zs] at he2;have hc1:1≤(Qp c).length:=by unfold Qp;cases(decide (c=34)||decide (c=92))<;>simp
    have a1:0≤x+1:=by omega
    have a2:x+1≤s.length:=by omega
    have a3:s.length-(x+1).toNat<s.length-x.toNat:=by omega
    have a4:out++Qp c=l++[34]++GX (s.take (x+1).toNat):=by rw[show(x+1).toNat=x.toNat+1 from by omega,Ol hc,ha,ZZ]
    exact .inl ⟨(x+1,out++Qp c),P9 h0 hx (by omega) (by omega) hc,⟨a1,a2,a4⟩,a3⟩
   ·have e:x.toNat=s.length:=by omega
    rw[e,List.take_length] at ha;have hf:out++[34]=l++JK s:=by rw[ha];simp[JK]
    have hgo:Dn s x out=some (.out (.go out)):=by unfold Dn;rw[Bo (Zy hx)]
    exact .inr ⟨.go out,hgo,(Ku (λν=>Ef ν) out).trans ((TZ (by omega)).trans (congrArg some hf))⟩) F (0,l++[34]) ⟨ZJ 0,by show(0:Int)≤s.length;omega,by show l++[34]=l++[34]++GX (s.take 0);simp[GX]⟩ (by show s.length-0<F;omega)
 unfold JH;rw[Dk (by omega),G2 (by decide) (by decide),EW];have hb:[UInt8.ofNat (Int.toNat 34)]=([34]:An):=rfl;rw[hb,Ca h1,h2]
theorem Mw {F:Nat}{l key:An}{x:List Ac}{first:Bool}{c:Ac}{k last:Option An}{tx:An}(hk:CU (decide (c.fKind=6)) last k=true)(hkey:∀s,k=some s→key=s∧s.length<F)
  (hlen:(l++(HC first++Od k++tx)).length≤140737488355328) (hw:∀l':An,(l'++tx).length≤140737488355328→E7 F l' x=some (l'++tx)):DV (F+1) key x first l c=some (true,false,l++(HC first++Od k++tx)):=by
 rw[DV];unfold Kb;have hb:[UInt8.ofNat (Int.toNat 44)]=([44]:An):=rfl;have ha:[UInt8.ofNat (Int.toNat 58)]=([58]:An):=rfl;have hlen':=hlen;simp only[Zs] at hlen'
 cases first with
 | true=>
  rw[Bo (p:=!true) rfl]
  cases hm:decide (c.fKind=6) with
  | true=>
   rw[hm] at hk
   cases k with
   | none=>simp[CU] at hk
   | some s=>
    obtain⟨e1,e2⟩:=hkey s rfl;subst e1;simp only[Od,Zs,ZN] at hlen';have h1:(l++JK key).length≤140737488355328:=by rw[Zs];omega
    have e:((l++JK key)++[58])++tx=l++(HC true++Od (some key)++tx):=YY _ _ _ _;rw[← e] at hlen ⊢;rw[Bx rfl,KM e2 h1,Ca rfl,Dk (by rw[Zs];omega),G2 (by decide) (by decide),EW,ha,hw _ hlen,Ca rfl]
  | false=>
   rw[hm] at hk
   cases k with
   | some s=>simp[CU] at hk
   | none=>
    have e:l++tx=l++(HC true++Od none++tx):=Za _ _;rw[← e] at hlen ⊢;rw[Bo rfl,hw _ hlen,Ca rfl]
 | false=>
  simp only[HC,Zx,ZN] at hlen';rw[Bx (p:=!false) rfl,Dk (by omega),G2 (by decide) (by decide),EW,hb]
  cases hm:decide (c.fKind=6) with
  | true=>
   rw[hm] at hk
   cases k with
   | none=>simp[CU] at hk
   | some s=>
    obtain⟨e1,e2⟩:=hkey s rfl;subst e1;simp only[Od,Zs,ZN] at hlen';have h1:((l++[44])++JK key).length≤140737488355328:=by simp only[Zs,ZN];omega
    have e:(((l++[44])++JK key)++[58])++tx=l++(HC false++Od (some key)++tx):=YX _ _ _ _ _;rw[← e] at hlen ⊢;rw[Bx rfl,KM e2 h1,Ca rfl,Dk (by simp only[Zs,ZN];omega),G2 (by decide) (by decide),EW,ha,hw _ hlen,Ca rfl]
  | false=>
   rw[hm] at hk
   cases k with
   | some s=>simp[CU] at hk
   | none=>
    have e:(l++[44])++tx=l++(HC false++Od none++tx):=YZ _ _ _;rw[← e] at hlen ⊢;rw[Bo rfl,hw _ hlen,Ca rfl]
section
variable {M : Nat}
theorem M5 {F:Nat}{v:List Ac}{c:Ac}{at_ x:Int}{first:Bool}{l l2:An}{k last:Option An}{f1:Fo}{ys:List Ac}(hA:JY M v)(hF:M<F)(hpc:Ap v 0=c)(hx:x<c.fN)(hx0:0≤x)(hcN:c.fN≤9223372036854775807)(h0:0≤at_)(hk:CU (decide (c.fKind=6)) last k=true)
  (hd:v.drop at_.toNat=Ck k++(f1.flat++ys)) (h1:f1.one=true) (hw:f1.wf false none=true) (hr:∀key,(∀s,k=some s→key=s)→DV F key f1.flat first l c=some (true,false,l2)) :
  Du F v c (DV F) at_ x first l=some (.next (at_+(Ck k).length+f1.flat.length,x+1,false,l2)):=by
 have hM:=hA.hM;have hvM:=hA.hv;have hd1:=D1 h0 hd;have hkl:=W6 hk;have hfl:=PL h1;have hll:(v.drop (at_+(Ck k).length).toNat).length=f1.flat.length+ys.length:=by rw[hd1];simp
 rw[ZS] at hll;have hlook:If F (v.drop (at_+(Ck k).length).toNat)=some ((f1.flat.length:Int),f1.sh 0 MA,true):=Qa ((hA.drop _).lk hF) h1 hw hd1;have htake:List.take (Int.toNat (at_+(Ck k).length+(f1.flat.length:Int))-Int.toNat (at_+(Ck k).length)) (v.drop (at_+(Ck k).length).toNat)=f1.flat:=by
  rw[hd1,show Int.toNat (at_+(Ck k).length+(f1.flat.length:Int))-Int.toNat (at_+(Ck k).length)=f1.flat.length from by omega,List.take_left]
 have hmono:0≤at_+(Ck k).length+f1.flat.length:=by omega
 unfold Du;rw[hpc,Bx (Zz hx)]
 cases hm:decide (c.fKind=6) with
 | true=>
  rw[hm] at hk hkl
  cases k with
  | none=>simp[CU] at hk
  | some s=>
   have e1:((Ck (some s)).length:Int)=1:=rfl;rw[e1] at hlook htake hll hmono ⊢;have hats:(Ap v at_).fStr=s:=by
    have:v.drop at_.toNat=⟨4,0,s,0⟩::(f1.flat++ys):=by simpa[Ck] using hd
    rw[Pk h0 this]
   have hin:at_<v.length:=by omega
   rw[Bx rfl,Cc h0 hin,Br (by omega) (by omega),HX (by omega) (by omega),hlook,Ca rfl,Br (by omega) (by omega),HX (by omega) (by omega),HX (by omega) (by omega),htake,hats,hr s (λs' h=>by cases h;rfl),Ca rfl];rw[Bo (p:=!true) rfl,Br (by omega) (by omega)]
 | false=>
  rw[hm] at hk hkl
  cases k with
  | some s=>simp[CU] at hk
  | none=>
   have e1:((Ck none).length:Int)=0:=rfl;rw[e1,Int.add_zero] at hlook htake hll hmono ⊢;rw[Bo rfl,HX (by omega) (by omega),hlook,Ca rfl,Br (by omega) (by omega),HX (by omega) (by omega),HX (by omega) (by omega),htake,hr [] (λs' h=>by cases h),Ca rfl];rw[Bo (p:=!true) rfl,Br (by omega) (by omega)]
end
section
variable {M : Nat}
theorem KG (l:An)(c:UInt8):(l++[c]).length=l.length+1:=by rw[Zs,ZN]
theorem JG {F:Nat}{l p:An}{v:List Ac}{c:Ac}{rf:An→(List Ac)→Bool→An→Ac→Option (Bool×Bool×An)}{rp:(List Ac)→Bool→An→Ac→Option (Bool×An)}(hc:Ap v 0=c)(hv:0<v.length)(hk:c.fKind=5∨c.fKind=6)(hlen:(l++T4 c p).length≤140737488355328)
  (hp:∀l':An,l'.length=l.length+1→∃b,rp v true l' c=some (b,l'++p)):IV F rf rp l v=some (l++T4 c p):=by
 have hbl:=KF c p;rw[Zs,hbl] at hlen;have i0:(0:Int)<(v.length:Int):=by omega
 unfold IV;rw[Cc (ZJ 0) i0,hc,Bo (Zy (by omega)),Bo (Zy (by omega)),Bo (Zy (by omega)),Bo (Zy (by omega))];have b1:[UInt8.ofNat (Int.toNat (Bu ([123,125]:An) 0))]=([123]:An):=rfl;have b2:[UInt8.ofNat (Int.toNat (Bu ([123,125]:An) 1))]=([125]:An):=rfl;have b3:[UInt8.ofNat (Int.toNat (Bu ([91,93]:An) 0))]=([91]:An):=rfl;have b4:[UInt8.ofNat (Int.toNat (Bu ([91,93]:An) 1))]=([93]:An):=rfl;have c1:Bu ([123,125]:An) 0=123:=rfl;have c2:Bu ([123,125]:An) 1=125:=rfl;have c3:Bu ([91,93]:An) 0=91:=rfl;have c4:Bu ([91,93]:An) 1=93:=rfl;have n2:(([123,125]:An).length:Int)=2:=rfl;have n3:(([91,93]:An).length:Int)=2:=rfl
 cases h6:decide (c.fKind=6) with
 | true=>
  obtain⟨b,hb⟩:=hp _ (KG l 123);rw[Bx rfl,n2,Cc (by decide) (by decide),Dk (by omega),b1,b2,c1,c2,G2 (by decide) (by decide),EW,hb,Ca rfl,Cc (by decide) (by decide)];have e:((l++[123])++p).length=l.length+1+p.length:=by rw[Zs,KG]
  rw[e,Dk (by omega),G2 (by decide) (by decide),EW];simp[T4,h6]
 | false=>
  obtain⟨b,hb⟩:=hp _ (KG l 91);rw[Bo rfl,n3,Cc (by decide) (by decide),Dk (by omega),b3,b4,c3,c4,G2 (by decide) (by decide),EW,hb,Ca rfl,Cc (by decide) (by decide)];have e:((l++[91])++p).length=l.length+1+p.length:=by rw[Zs,KG]
  rw[e,Dk (by omega),G2 (by decide) (by decide),EW];simp[T4,h6]
theorem Lr {F:Nat}{v:List Ac}{c:Ac}{at_ x:Int}{first:Bool}{l:An}{rf:An→(List Ac)→Bool→An→Ac→Option (Bool×Bool×An)}(hc:Ap v 0=c)(hx : ¬ x<c.fN):Du F v c rf at_ x first l=some (.out (.go (first,l))):=by
 unfold Du;rw[hc,Bo (Zy hx)]
theorem Lq {F:Nat}{l:An}{c:Ac}(hp:pl c=true)(hn:decide (0<c.fN)=false)(hs:c.fStr.length<F+2)(hi:BS .i64 c.fInt=true)(hlen:(l++GL c).length≤140737488355328):E7 (F+3) l [c]=some (l++GL c):=by
 rw[E7];have hat:Ap [c] 0=c:=rfl;have i0:(0:Int)<(([c]:List Ac).length:Int):=by simp
 have hN : ¬ (0:Int)<c.fN:=by simpa using hn
 by_cases ha:c.fKind=5∨c.fKind=6
 ·have el:GL c=T4 c []:=by
   have k1:decide (c.fKind=1)=false:=Zy (by omega);have k2:decide (c.fKind=2)=false:=Zy (by omega);have k3:decide (c.fKind=3)=false:=Zy (by omega);have k4:decide (c.fKind=4)=false:=Zy (by omega);unfold GL T4;rw[k1,k2,k3,k4];rfl
  rw[el] at hlen ⊢;refine JG hat (by simp) ha hlen (λl' hl'=>⟨true,?_⟩);rw[Ga];unfold Hg;rw[Cc (ZJ 0) i0,Ca (L3 (o:=.go (true,l')) (Lr hat hN)),Ku,Aag];rfl
 ·unfold IV GL;unfold GL at hlen;rw[Cc (ZJ 0) i0,hat]
  cases k1:decide (c.fKind=1) with
  | true=>
   rw[k1] at hlen;simp only[Z1] at hlen;rw[Bx rfl,Dk (by rw[Zs] at hlen;exact hlen),EW];rfl
  | false=>
  rw[k1] at hlen;simp only[Zx] at hlen;rw[Bo rfl]
  cases k2:decide (c.fKind=2) with
  | true=>
   rw[k2] at hlen;simp only[Z1] at hlen;rw[Bx rfl];simp[pl,k1,k2] at hp;simp only[Zs] at hlen;rcases hp.1 with h0 | h1
   ·rw[h0] at hlen ⊢;have a:Ap ([([102,97,108,115,101]:An),([116,114,117,101]:An)]:List An) 0=[102,97,108,115,101]:=rfl;have hlen2:l.length+([102,97,108,115,101]:An).length≤140737488355328:=hlen;rw[Cc (by decide) (by decide),a,Dk hlen2,EW];rfl
   ·rw[h1] at hlen ⊢;have a:Ap ([([102,97,108,115,101]:An),([116,114,117,101]:An)]:List An) 1=[116,114,117,101]:=rfl;have hlen2:l.length+([116,114,117,101]:An).length≤140737488355328:=hlen;rw[Cc (by decide) (by decide),a,Dk hlen2,EW];rfl
  | false=>
  rw[k2] at hlen;simp only[Zx] at hlen;rw[Bo rfl]
  cases k3:decide (c.fKind=3) with
  | true=>
   rw[k3] at hlen;simp only[Z1,Zs] at hlen;rw[Bx rfl,Df hi,Dk hlen,EW];rfl
  | false=>
  rw[k3] at hlen;simp only[Zx] at hlen;rw[Bo rfl]
  cases k4:decide (c.fKind=4) with
  | true=>
   rw[k4] at hlen;simp only[Z1] at hlen;rw[Bx rfl,KM hs hlen,Ca rfl];rfl
  | false=>
   exfalso;simp only[Zq] at k1 k2 k3 k4;simp[pl,k1,k2,k3,k4,show ¬ c.fKind=5 by omega,show ¬ c.fKind=6 by omega] at hp
theorem JY.mem {v:List Ac}(hA:JY M v){p:Int}{a b:List Ac}(h:v.drop p.toNat=a++b):JY M a:=by
 have:=(hA.drop p.toNat).take a.length
 rwa [h,List.take_left] at this
theorem Nv:∀(g:Fo) (v:List Ac) (c:Ac) (F L:Nat) (at_ x:Int) (first:Bool) (l:An) (m:Bool) (last:Option An) (ys:List Ac),JY M v→Ap v 0=c→decide (c.fKind=6)=m→c.fN≤9223372036854775807→g.wf m last=true→v.drop at_.toNat=g.flat++ys→0≤at_→c.fN=x+g.cnt→0≤x→(l++g.txt first).length≤140737488355328→g.cnt<L→M+5+3*g.flat.length<F→
  ∃o b,Cz (λσ=>Du F v c (DV F) σ.1 σ.2.1 σ.2.2.1 σ.2.2.2) L (at_,x,first,l)=some o∧Ch (λν=>Gt ν.1 ν.2) o=some (b,l++g.txt first):=by
 intro g
 induction g with
 | nil=>
  intro v c F L at_ x first l m last ys hA hpc hm hcN hw hd h0 hN hx hlen hL hF
  obtain⟨L,rfl⟩:∃K,L=K+1:=⟨L-1,by omega⟩
  simp only[Fo.cnt] at hN;have hx' : ¬ x<c.fN:=by omega
  refine⟨.go (first,l),first,L3 (Lr hpc hx'),?_⟩;rw[Ku,Fo.txt,Aag];rfl
 | cell k cc r ih=>
  intro v c F L at_ x first l m last ys hA hpc hm hcN hw hd h0 hN hx hlen hL hF
  simp only[Fo.wf,Zu,ZL] at hw;obtain⟨⟨⟨w1,w2⟩,w3⟩,w4⟩:=hw;have hd2:v.drop at_.toNat=Ck k++((Fo.cell none cc .nil).flat++(r.flat++ys)):=by rw[hd];simp[Fo.flat,Ck]
  have hd1:=D1 h0 hd2;simp only[Fo.cnt] at hN hL;simp only[Fo.flat,Zs,Z5] at hF;obtain⟨L,rfl⟩:∃K,L=K+1:=⟨L-1,by omega⟩
  obtain⟨F,rfl⟩:∃K,F=K+4:=⟨F-4,by omega⟩
  have hAe:=hA.mem hd1;have hcM:=hAe.hc cc (by simp[Fo.flat,Ck]);have e:l++(Fo.cell k cc r).txt first=(l++(HC first++Od k++GL cc))++r.txt false:=by simp[Fo.txt]
  rw[e] at hlen ⊢;have hl2:(l++(HC first++Od k++GL cc)).length≤140737488355328:=by rw[Zs] at hlen;omega
  have hb:=M5 (F:=F+4) (last:=last) hA (by omega) hpc (by omega) hx hcN h0 (by rw[hm];exact w1) hd2 rfl (VT w2 w3) (first:=first) (l:=l) (λkey hkey=>
   Mw (last:=last) (by rw[hm];exact w1) (λs hs=>⟨hkey s hs,by
    have hM:=hA.hM;subst hs;have:=(hA.hc ⟨4,0,s,0⟩ (List.mem_of_mem_drop (by rw[hd2];simp[Ck]))).1;simp only at this;omega⟩) hl2 (λl' hl'=>Lq (F:=F) w2 w3 (by omega) hcM.2.1 hl'))
  obtain⟨o,b,ho1,ho2⟩:=ih v c (F+4) L (at_+(Ck k).length+((Fo.cell none cc .nil).flat.length:Int)) (x+1) false (l++(HC first++Od k++GL cc)) m k ys hA hpc hm hcN w4 (D1 (by omega) hd1) (by omega) (by omega) (by omega) hlen (by omega) (by omega);exact⟨o,b,Sc hb ho1,ho2⟩
 | node k cc kids r ihk ih=>
  intro v c F L at_ x first l m last ys hA hpc hm hcN hw hd h0 hN hx hlen hL hF
  simp only[Fo.wf,Zu,Zr] at hw;obtain⟨⟨⟨⟨⟨w1,w2⟩,w3⟩,w5⟩,w6⟩,w4⟩:=hw;have hd2:v.drop at_.toNat=Ck k++((Fo.node none cc kids .nil).flat++(r.flat++ys)):=by rw[hd];simp[Fo.flat,Ck]
  have hd1:=D1 h0 hd2;simp only[Fo.cnt] at hN hL;simp only[Fo.flat,Zs,Z5] at hF;obtain⟨L,rfl⟩:∃K,L=K+1:=⟨L-1,by omega⟩
  obtain⟨F,rfl⟩:∃K,F=K+3:=⟨F-3,by omega⟩
  have hAe:=hA.mem hd1;have hfl:(Fo.node none cc kids .nil).flat=cc::kids.flat:=by simp[Fo.flat,Ck]
  have hcM:=hAe.hc cc (by rw[hfl];simp);have hcf:=De kids;have e:l++(Fo.node k cc kids r).txt first=(l++(HC first++Od k++T4 cc (kids.txt true)))++r.txt false:=by simp[Fo.txt]
  rw[e] at hlen ⊢;have hl2:(l++(HC first++Od k++T4 cc (kids.txt true))).length≤140737488355328:=by rw[Zs] at hlen;omega
  have hb:=M5 (F:=F+3) (last:=last) hA (by omega) hpc (by omega) hx hcN h0 (by rw[hm];exact w1) hd2 rfl (VS w2 w3 w5 w6) (first:=first) (l:=l) (λkey hkey=>
   Mw (last:=last) (by rw[hm];exact w1) (λs hs=>⟨hkey s hs,by
    have hM:=hA.hM;subst hs;have:=(hA.hc ⟨4,0,s,0⟩ (List.mem_of_mem_drop (by rw[hd2];simp[Ck]))).1;simp only at this;omega⟩) hl2 (λl' hl'=>by
     rw[E7];have hat:Ap (Fo.node none cc kids .nil).flat 0=cc:=by rw[hfl];rfl
     have hlen0:0<(Fo.node none cc kids .nil).flat.length:=by rw[hfl];simp
     have hbl:=KF cc (kids.txt true);rw[Zs,hbl] at hl';have hb:∀l2:An,l2.length=l'.length+1→∃b,Ga (F+1) (Fo.node none cc kids .nil).flat true l2 cc=some (b,l2++kids.txt true):=λl2 hl2'=>by
       rw[Ga];unfold Hg;have i0:(0:Int)<((Fo.node none cc kids .nil).flat.length:Int):=by omega
       obtain⟨o,b,ho1,ho2⟩:=ihk (Fo.node none cc kids .nil).flat cc F F 1 0 true l2 _ none [] hAe hat rfl hcM.2.2 w6 (by rw[hfl];simp) (by decide) (by omega) (ZJ 0) (by rw[Zs];omega) (by omega) (by omega);exact⟨b,by rw[Cc (ZJ 0) i0,Ca ho1,ho2]⟩
     exact JG hat hlen0 (OB w2 w3).1 (by rw[Zs,hbl];exact hl') hb))
  obtain⟨o,b,ho1,ho2⟩:=ih v c (F+3) L (at_+(Ck k).length+((Fo.node none cc kids .nil).flat.length:Int)) (x+1) false (l++(HC first++Od k++T4 cc (kids.txt true))) m k ys hA hpc hm hcN w4 (D1 (by omega) hd1) (by omega) (by omega) (by omega) hlen (by omega) (by omega);exact⟨o,b,Sc hb ho1,ho2⟩
theorem SB {f:Fo}{F:Nat}{l:An}(hA:JY M f.flat)(h1:f.one=true)(hw:f.wf false none=true)(hF:M+8+3*f.flat.length<F)(hlen:(l++f.txt true).length≤140737488355328):E7 F l f.flat=some (l++f.txt true):=by
 have hM:=hA.hM;have hvM:=hA.hv
 cases f with
 | nil=>cases h1
 | cell k c r=>
  cases k with
  | some s=>cases h1
  | none=>
   cases r with
   | nil=>
    simp only[Fo.wf,Zu,ZL] at hw;have hfl:(Fo.cell none c .nil).flat=[c]:=by simp[Fo.flat,Ck]
    have hcM:=hA.hc c (by rw[hfl];simp);have et:(Fo.cell none c .nil).txt true=GL c:=by simp[Fo.txt,HC,Od]
    rw[et] at hlen ⊢;obtain⟨F,rfl⟩:∃K,F=K+3:=⟨F-3,by omega⟩
    rw[hfl];exact Lq hw.1.1.2 hw.1.2 (by omega) hcM.2.1 hlen
   | cell _ _ _=>cases h1
   | node _ _ _ _=>cases h1
 | node k c kids r=>
  cases k with
  | some s=>cases h1
  | none=>
   cases r with
   | nil=>
    simp only[Fo.wf,Zu,Zr] at hw;obtain⟨⟨⟨⟨⟨w1,w2⟩,w3⟩,w5⟩,w6⟩,w4⟩:=hw;have hfl:(Fo.node none c kids .nil).flat=c::kids.flat:=by simp[Fo.flat,Ck]
    have hcM:=hA.hc c (by rw[hfl];simp);have et:(Fo.node none c kids .nil).txt true=T4 c (kids.txt true):=by simp[Fo.txt,HC,Od]
    rw[et] at hlen ⊢;have hcf:=De kids;have hat:Ap (Fo.node none c kids .nil).flat 0=c:=by rw[hfl];rfl
    have hlen0:0<(Fo.node none c kids .nil).flat.length:=by rw[hfl];simp
    have hl1:(Fo.node none c kids .nil).flat.length=kids.flat.length+1:=by rw[hfl];simp
    have hbl:=KF c (kids.txt true);obtain⟨F,rfl⟩:∃K,F=K+2:=⟨F-2,by omega⟩
    rw[E7];refine JG hat hlen0 (OB w2 w3).1 hlen (λl2 hl2=>?_);rw[Zs,hbl] at hlen;rw[Ga];unfold Hg;have i0:(0:Int)<((Fo.node none c kids .nil).flat.length:Int):=by omega
    obtain⟨o,b,ho1,ho2⟩:=Nv kids (Fo.node none c kids .nil).flat c F F 1 0 true l2 _ none [] hA hat rfl hcM.2.2 w6 (by rw[hfl];simp) (by decide) (by omega) (ZJ 0) (by rw[Zs];omega) (by omega) (by omega);exact⟨b,by rw[Cc (ZJ 0) i0,Ca ho1,ho2]⟩
   | cell _ _ _=>cases h1
   | node _ _ _ _=>cases h1
def Vt (v:List Ac):An×Int:=match whole v with
 | none=>([],1)
 | some f=>bif decide (Qr f=0) then(f.txt true,0) else([],Qr f)
theorem W7 (n:Int):Lib.itoa n≠[]:=by
 unfold Lib.itoa
 split
 ·simp
 ·intro h;have:=congrArg List.length h;rw[Lib.decDigits_length] at this;have:=Lib.nDigits_pos n.toNat;simp at *;omega
theorem Wa {f:Fo}(hw:f.wf false none=true)(h1:f.one=true):0<(f.txt true).length:=by
 have e:=IX f false none true hw
 cases f with
 | nil=>cases h1
 | cell k c r=>
  have h2:=GO hw;simp only[Fo.txt,Zs];simp only[Fo.wf,Zu] at hw;have hp:=hw.1.1.2;have:0<(GL c).length:=by
   have hl:=Oc hp;have:0<TD c:=by
    unfold TD
    cases h1:decide (c.fKind=1) with
    | true=>simp
    | false=>
     cases h2:decide (c.fKind=2) with
     | true=>
      simp[pl,h1,h2] at hp;simp only[Zx,Z1];omega
     | false=>
      cases h3:decide (c.fKind=3) with
      | true=>
       simp only[Zx,Z1];have:Lib.itoa c.fInt≠[]:=W7 _;have:=List.length_pos_iff.2 this;omega
      | false=>
       cases h4:decide (c.fKind=4) with
       | true=>have:=Kr c.fStr;simp only[Zx,Z1];omega
       | false=>simp
   omega
  omega
 | node k c kids r=>
  have:=KF c (kids.txt true);simp only[Fo.txt,Zs];omega
theorem QJ {v:List Ac}(hA:JY M v)(hM:M≤2000000){F:Nat}(hF:4*M+8<F):Ki F v=some (Vt v):=by
 have hvM:=hA.hv;unfold Ki Vt;rw[KN hA hM (by omega),Ca rfl];unfold Nf
 cases hwh:whole v with
 | none=>rfl
 | some f=>
  change B0 (!decide (Qr f=0)) _ _=some (bif decide (Qr f=0) then(f.txt true,0) else([],Qr f))
  cases he:decide (Qr f=0) with
  | false=>rw[Bx (p:=!false) rfl];rfl
  | true=>
   obtain⟨h1,h2,h3⟩:=QE hwh;have hl:v.length=f.flat.length:=by rw[h1]
   have hc:∀c∈f.flat,c.fStr.length≤M∧BS .i64 c.fInt=true∧c.fN≤9223372036854775807:=λc hc=>hA.hc c (by rw[h1];exact hc);have hb:=Ou hM h2 (by omega) hc;have htl:((f.txt true).length:Int)=f.byt:=by rw[IX f false none true h2,RP h3];simp
   have hA':JY M f.flat:=by rw[← h1];exact hA
   have hw:=SB (F:=F) (l:=[]) hA' h3 h2 (by omega) (by rw[Aaj];omega);rw[Bo (p:=!true) rfl,h1,hw,Ca rfl,Aaj,Df (Zz (Wa h2 h3))];rfl
end
def Ui (v:List Ac):Bool:=!decide (300<v.length)&&v.all λc=>!decide (300<c.fStr.length)
def U2 (c:Ac):Bool:=BS .i64 c.fKind&&BS .i64 c.fInt&&Ze c.fStr&&BS .i64 c.fN
theorem JY.of {v:List Ac}(hs:Ui v=true)(hc:v.all U2=true):JY 300 v:=by
 unfold Ui at hs;simp only[Zu,ZL,Zq,ZQ] at hs hc;refine⟨by decide,by omega,λc h=>?_⟩;obtain h1:=hs.2 c h;obtain h2:=hc c h;unfold U2 at h2;simp only[Zu] at h2;exact⟨by omega,h2.1.1.2,(Jn h2.2).2⟩
theorem XC (a:Bool):imp a true=true:=by cases a<;>rfl
section
variable {M : Nat}
end
def pre:An→An→Option An
 | [],s=>some s
 | c::w,d::s=>bif decide (c=d) then pre w s else none
 | _::_,[]=>none
def lf (k i:Int)(t:An):Fo:=.cell none ⟨k,i,t,0⟩ .nil
def XO (u S:An):Prop:=∃p,S=p++u
theorem XO.len {u S:An}(h:XO u S):u.length≤S.length:=by obtain⟨p,rfl⟩:=h;simp
theorem XO.tail {c:UInt8}{r S:An}(h:XO (c::r) S):XO r S:=by obtain⟨p,rfl⟩:=h;exact⟨p++[c],by simp⟩
theorem XO.drop {u S:An}(h:XO u S):S.drop (Int.toNat ((S.length:Int)-u.length))=u:=by
 obtain⟨p,rfl⟩:=h;rw[show Int.toNat (((p++u).length:Int)-u.length)=p.length from by rw[Zs];omega,List.drop_left]
def hd (m:Bool)(N:Int):Ac:=⟨bif m then 6 else 5,0,[],N⟩
def Zd (c:Ac):Bool:=bif decide (c.fKind=4) then decide (c.fInt=0)&&decide (c.fN=0) else pl c
def Fo.rw:Bool→Fo→Bool
 | _,.nil=>true
 | m,.cell k c r=>(k.isSome ==m)&&Zd c&&!decide (0<c.fN)&&r.rw m
 | m,.node k c kids r=>(k.isSome ==m)&&Zd c&&decide (0<c.fN)&&decide (c.fN=kids.cnt)&&kids.rw (decide (c.fKind=6))&&r.rw m
def V2 (K:Nat)(c:Ac):Prop:=c.fStr.length≤K∧BS .i64 c.fInt=true∧c.fN≤(K:Int)
theorem V2.mono {K K':Nat}{c:Ac}(h:V2 K c)(hk:K≤K'):V2 K' c:=⟨by have:=h.1;omega,h.2.1,by have:=h.2.2;omega⟩
open Go Go.RowKit
section
variable {M : Nat} {v : List Ac}
end
theorem Mh {α:Type}[Inhabited α]{l:List α}{i:Nat}(h:i<l.length):Ap l (i:Int)=l[i]:=by simp[Ap,h]
theorem Lh {α:Type}(p:Bool)(a b:α):B0 p (some a) (some b)=some (bif p then a else b):=by cases p<;>rfl
theorem Vz {α:Type}(a b:Option α):B0 true a b=a:=rfl
theorem Tx {α:Type}(a b:Option α):B0 false a b=b:=rfl
theorem Rr {α:Type}(x:Option α):Bc true x=x:=rfl
theorem Rj (a:Bool):imp a true=true:=by cases a<;>rfl
theorem Dw {α β:Type}(a:α)(k:α→Option β):Bq (some a) k=k a:=rfl
def IH (g:Nat→Int):Nat→Nat→Int
 | _,0=>0
 | i,k+1=>bif decide (g i=0) then IH g (i+1) k else g i
theorem Rb {U:Type}{N:Nat}{g:Nat→Int}{body:Int→Option (Stp Int (Out Int U))}{u:U}(hb:∀i:Nat,i<N→body (i:Int)=B0 (!decide (g i=0)) (some (.out (.ret (g i)))) (some (.next ((i:Int)+1))))(he:body (N:Int)=some (.out (.go u))) :
  ∀(k n i:Nat),i+k=N→k<n→Bq (Cz body n (i:Int)) (Ch λ_=>some 0)=some (IH g i k):=by
 intro k
 induction k with
 | zero=>
  intro n i h hn;obtain⟨n,rfl⟩:∃m,n=m+1:=⟨n-1,by omega⟩
  obtain rfl:i=N:=by omega
  rw[Cz,he];rfl
 | succ k ih=>
  intro n i h hn;obtain⟨n,rfl⟩:∃m,n=m+1:=⟨n-1,by omega⟩
  rw[Cz,hb i (by omega),IH]
  cases hg:decide (g i=0) with
  | true=>
   have:=ih n (i+1) (by omega) (by omega);exact this
  | false=>rfl
theorem Oi {g:Nat→Int}:∀{k i:Nat},IH g i k=0→∀j,i≤j→j<i+k→g j=0
 | 0,i,_,j,h1,h2=>by omega
 | k+1,i,h,j,h1,h2=>by
  rw[IH] at h
  cases hg:decide (g i=0) with
  | false=>
   rw[hg] at h;exact absurd h (of_decide_eq_false hg)
  | true=>
   rw[hg] at h;rcases Nat.eq_or_lt_of_le h1 with rfl | h3
   ·exact ZO hg
   ·exact Oi (k:=k) (i:=i+1) h j h3 (by omega)
structure YB (M:Nat) (x:Am):Prop where
 v:JY M x.fValue
 k:x.fKey.length≤1000000000
structure XT (M:Nat) (c:AP):Prop where
 r:JY M c.fResult
 es:∀x∈c.fEffects,YB M x
 ev:c.fEvent.length≤1000000000
 tn:c.fTenant.length≤1000000000
def KB (n:Int):Bool:=decide (0≤n)&&decide (n≤1073741824)
def Wp (k:Int):Bool:=decide (k=3)||(decide (k=4)||decide (k=5))
def X1 (x:Am):Bool:=bif decide (x.fKind=3)||decide (x.fKind=4) then EM x.fKey else LK x.fKey
def YQ (v:List Ac):Bool:=decide (1<(v.length:Int))&&(decide ((Ap v 0).fKind=5)&&decide ((Ap v 1).fKind=4))
def PB (event:An)(i:Int)(x:Am):Int:=
 bif decide (x.fKind=5)&&!YQ x.fValue then 7 else
 bif (bif !decide (x.fKind=4) then !decide (x.fDelay=0)||!KB x.fDelay else !KB x.fDelay) then 2 else
 bif Wp x.fKind then Da event i else 0
def Qq (event:An)(i:Int)(x:Am):Int:=
 bif decide (x.fKind<1)||decide (5<x.fKind) then 7 else
 bif !X1 x then 4 else
 bif decide (x.fKind=2) then(bif decide (0<(x.fValue.length:Int)) then 7 else PB event i x) else
 bif !decide (Nf x.fValue=0) then Nf x.fValue else PB event i x
theorem L0 (n:Int):BC n=some (KB n):=rfl
theorem ON (n:Int):Ej n=some (Wp n):=rfl
theorem SX (x:Am):OO x=some (X1 x):=Lh _ _ _
theorem N3 (v:List Ac):C1 v=some (YQ v):=by
 unfold C1
 by_cases h:1<(v.length:Int)
 ·rw[Ve (by omega) (by omega),Ve (by omega) (by omega)];simp only[Rj,Rr];rfl
 ·unfold YQ;rw[Zy h];rfl
theorem UE {event:An}{i:Int}(x:Am)(h1:Dp 1 event.length=true)(h2:BS .i64 i=true) :
  (Bc (imp (decide (x.fKind=5)) ((C1 x.fValue).isSome))<|B0 (((decide (x.fKind=5))&&(!(ov (C1 x.fValue))))) (some 7) (Bc (imp (!decide (x.fKind=4)) (imp (!(!decide (x.fDelay=0))) ((BC x.fDelay).isSome)))<|Bc (imp (!(!decide (x.fKind=4))) ((BC x.fDelay).isSome))<|B0 ((bif !decide (x.fKind=4) then((!decide (x.fDelay=0))||(!(ov (BC x.fDelay)))) else !(ov (BC x.fDelay)))) (some 2) (Bq (Ej x.fKind) λha=>B0 (ha) (Bc (Dp 1 event.length)<|Bc (BS .i64 i)<|some (Da event i)) (some 0))))=some (PB event i x):=by
 simp only[N3,L0,ON,Option.isSome_some,Rj,Rr,RO,Dw,h1,h2,Lh];rfl
theorem QW {M F:Nat}{event:An}{i:Int}{x:Am}(hA:YB M x)(hM:M≤2000000)(hF:M<F)(h1:event.length≤1000000000)(h2:BS .i64 i=true):Je F event x i=some (Qq event i x):=by
 unfold Je;simp only[UE x (Zz (by omega):Dp 1 event.length=true) h2,SX,Dw,KN hA.v hM hF,Lh];rfl
def Rn (c:AP):Int:=
 bif !(LK c.fEvent)||!(EM c.fTenant) then 4 else
 bif decide (c.fAttempt<1)||(decide (1073741824<c.fAttempt)||!KB c.fAt) then 2 else
 bif !decide (Nf c.fResult=0) then Nf c.fResult else
 bif decide (32<(c.fEffects.length:Int)) then 3 else
 IH (λi=>Qq c.fEvent (i:Int) (Ap c.fEffects (i:Int))) 0 c.fEffects.length
theorem Tb {M F:Nat}{c:AP}(hA:XT M c)(hM:M≤2000000)(hF:M<F)(hF0:32<F):KZ F c=some (Rn c):=by
 unfold KZ Rn;simp only[L0,Option.isSome_some,Rj,Rr,RO,KN hA.r hM hF,Dw]
 by_cases hl:32<(c.fEffects.length:Int)
 ·rw[Zz hl];simp only[Vz,Lh];rfl
 ·have:=Rb (N:=c.fEffects.length) (g:=λi=>Qq c.fEvent (i:Int) (Ap c.fEffects (i:Int))) (body:=λσ=>El F c σ) (u:=()) (λi hi=>by
   unfold El;rw[Bx (Zz (by omega)),Cc (by omega) (by omega),QW (hA.es _ (by rw[Mh hi];exact List.getElem_mem hi)) hM hF hA.ev (KC (by omega) (by omega)),Dw,Br (by omega) (by omega)]) (by unfold El;rw[Bo (Zy (by omega))]) c.fEffects.length F 0 (by omega) (by omega)
  rw[Zy hl];rw[show Bq (Cz (λσ=>El F c σ) F 0) (Ch λν=>Hu)=some (IH (λi=>Qq c.fEvent (i:Int) (Ap c.fEffects (i:Int))) 0 c.fEffects.length) from this];simp only[Tx,Lh]
def sB (b:BitVec 32):BitVec 32:=if b.getLsbD 0=true then(b>>>1)^^^3988292384#32 else b>>>1
def Q7:Nat→BitVec 32→BitVec 32
 | 0,b=>b
 | n+1,b=>Q7 n (sB b)
theorem Xp (a b:BitVec 32):sB (a^^^b)=sB a^^^sB b:=by
 unfold sB;rw[BitVec.getLsbD_xor,BitVec.ushiftRight_xor_distrib]
 cases a.getLsbD 0<;>cases b.getLsbD 0
 ·simp
 ·simp[BitVec.xor_assoc]
 ·simp only[Bool.xor_false,Aac,Z8,ZU];rw[BitVec.xor_assoc,BitVec.xor_assoc,BitVec.xor_comm (b>>>1)]
 ·simp only[Bool.xor_self,Z8,ZU,Aac];rw[BitVec.xor_assoc,BitVec.xor_comm 3988292384#32,BitVec.xor_assoc,BitVec.xor_self,BitVec.xor_zero]
theorem RG:∀(n:Nat) (a b:BitVec 32),Q7 n (a^^^b)=Q7 n a^^^Q7 n b
 | 0,_,_=>rfl
 | n+1,a,b=>by rw[Q7,Xp,RG n];rfl
theorem NM:∀(n:Nat) (b:BitVec 32),(∀i,i<n→b.getLsbD i=false)→Q7 n b=b>>>n
 | 0,b,_=>by simp[Q7]
 | n+1,b,h=>by
  have h0:sB b=b>>>1:=by unfold sB;rw[h 0 (by omega)];simp
  rw[Q7,h0,NM n (b>>>1) (λi hi=>by rw[BitVec.getLsbD_ushiftRight];exact h _ (by omega))];rw[← BitVec.shiftRight_add,Nat.add_comm]
theorem SK (x:BitVec 32):Q7 8 x=Q7 8 (x&&& 255#32)^^^(x>>>8):=by
 have e:x=(x&&& 255#32)^^^(x&&& 4294967040#32):=by
  apply BitVec.eq_of_getLsbD_eq;intro i hi;rw[BitVec.getLsbD_xor,BitVec.getLsbD_and,BitVec.getLsbD_and];have hh:∀j:_root_.Fin 32,(4294967040#32).getLsbD j = !(255#32).getLsbD j:=by decide
  rw[hh ⟨i,hi⟩]
  cases x.getLsbD i<;>cases(255#32).getLsbD i<;>rfl
 have hz:∀i,i<8→(x&&& 4294967040#32).getLsbD i=false:=λi hi=>by
  rw[BitVec.getLsbD_and];have:(4294967040#32).getLsbD i=false:=by
   have hh:∀i:_root_.Fin 8,(4294967040#32).getLsbD i=false:=by decide
   exact hh ⟨i,hi⟩
  rw[this,ZB]
 have hs:(x&&& 4294967040#32)>>>8=x>>>8:=by
  apply BitVec.eq_of_getLsbD_eq;intro i hi;rw[BitVec.getLsbD_ushiftRight,BitVec.getLsbD_ushiftRight,BitVec.getLsbD_and]
  by_cases h:8+i<32
  ·have hh:∀j:_root_.Fin 24,(4294967040#32).getLsbD (8+j)=true:=by decide
   rw[hh ⟨i,by omega⟩,ZF]
  ·rw[BitVec.getLsbD_of_ge x _ (by omega)];rfl
 conv=>lhs;rw[e]
 rw[RG,NM 8 _ hz,hs]
def bv (x:Int):BitVec 32:=BitVec.ofInt 32 x
def nv (b:BitVec 32):Int:=(b.toNat:Int)
def YF (x:Int):Prop:=0≤x∧x<4294967296
theorem YF.nv (b:BitVec 32):YF (nv b):=⟨by unfold Proofs.YtfobhhegpkinaaaGreatDoor.nv;omega,by have:=b.isLt;unfold Proofs.YtfobhhegpkinaaaGreatDoor.nv;omega⟩
theorem Yq {x:Int}(h:YF x):nv (bv x)=x:=by
 unfold nv bv;have h1:=h.1;have h2:=h.2;rw[BitVec.toNat_ofInt];have:x % ((2 ^ 32:Nat):Int)=x:=Int.emod_eq_of_lt h1 (by simpa using h2);rw[this];omega
theorem Q0 (b:BitVec 32):bv (nv b)=b:=by
 apply BitVec.eq_of_toNat_eq;have h:=Yq (YF.nv b);unfold nv at h;exact Int.ofNat_inj.1 h
theorem R7 (b:BitVec 32):IntKind.wrap .u32 (b.toNat:Int)=nv b:=by
 have:=b.isLt;unfold nv;simp[IntKind.wrap,IntKind.signed,IntKind.bits];omega
theorem OZ (x y:Int):EQ .u32 x y=nv (bv x^^^bv y):=R7 (bv x^^^bv y)
theorem WD (x y:Int):N9 .u32 x y=nv (bv x&&& bv y):=R7 (bv x&&& bv y)
theorem Sh {n:Nat}(hn:n≤32)(b:BitVec 32):Cw .u32 (nv b) (n:Int)=nv (b>>>n):=by
 unfold Cw nv;have e:min (n:Int).toNat (IntKind.bits .u32)=n:=by
  have:IntKind.bits .u32=32:=rfl;rw[this];omega
 rw[e,BitVec.toNat_ushiftRight,Nat.shiftRight_eq_div_pow];rw[Int.fdiv_eq_ediv_of_nonneg _ (by exact Int.pow_nonneg (by omega))];simp
theorem X5 (b:BitVec 32):decide (N9 .u32 (nv b) 1=1)=b.getLsbD 0:=by
 rw[WD,Q0];have e:bv 1=1#32:=by decide
 rw[e];have h:(b&&& 1#32).toNat=b.toNat % 2:=by
  rw[BitVec.toNat_and];exact Nat.and_one_is_mod _
 unfold nv;rw[h,BitVec.getLsbD,Nat.testBit_zero];rw[ZR];simp only[Zr];omega
theorem Ul (b:BitVec 32):(bif decide (N9 .u32 (nv b) 1=1) then EQ .u32 (Cw .u32 (nv b) 1) 3988292384 else Cw .u32 (nv b) 1)=nv (sB b):=by
 have hs:Cw .u32 (nv b) 1=nv (b>>>1):=Sh (n:=1) (by omega) b;have e:bv 3988292384=3988292384#32:=by decide
 rw[X5,hs,OZ,Q0,e];unfold sB
 cases b.getLsbD 0<;>rfl
def XY (n:Nat):An:=[UInt8.ofNat (n/16777216),UInt8.ofNat (n/65536),UInt8.ofNat (n/256),UInt8.ofNat n]
def Ij (c:UInt8):BitVec 32:=BitVec.ofNat 32 c.toNat
def WN (b:BitVec 32):An→BitVec 32
 | []=>b
 | c::s=>WN (Q7 8 (b^^^Ij c)) s
def Y1 (s:An):Nat:=(~~~ (WN 4294967295#32 s)).toNat
def EH (b:An):An:=XY b.length++XY (Y1 b)++b
theorem SJ (b:An):(EH b).length=8+b.length:=by simp[EH,XY];omega
def Oe (l:List An):An×Int:=bif decide ((l.flatMap EH).length≤262144) then(l.flatMap EH,0) else([],3)
theorem OF (s:An):OG (Do s)=s:=by
 unfold OG Do;rw[Aak];have:((λx:Int=>UInt8.ofNat x.toNat) ∘ λc:UInt8=>(c.toNat:Int))=id:=by funext c;simp
 rw[this,List.map_id]
theorem RD (a b:An):Do a++Do b=Do (a++b):=by simp[Do]
theorem QL (a:An):(Do a).length=a.length:=by simp[Do]
theorem Mp (n:Nat):IntKind.wrap .u8 (n:Int)=((UInt8.ofNat n).toNat:Int):=by
 simp[IntKind.wrap,IntKind.signed,IntKind.bits]
theorem YO (n:Nat):Cw .i64 (n:Int) 8=((n/256:Nat):Int):=by
 unfold Cw;have e:min (8:Int).toNat (IntKind.bits .i64)=8:=by decide
 rw[e,Int.fdiv_eq_ediv_of_nonneg _ (by decide)];simp
def Ro (f:An):An:=UInt8.ofNat (f.length/256)::UInt8.ofNat (f.length % 256)::f
def MF (l:List An):An:=UInt8.ofNat l.length::l.flatMap Ro
def Wq (l:List An):Bool:=decide (l.length≤64)&&l.all λf=>decide (f.length≤4000)
def Lw (l:List An):An×Int:=bif Wq l then(MF l,0) else([],3)
theorem SR (l:List An)(b:List Int×Int→Option (Stp (List Int×Int) (Out (An×Int) (List Int))))(hl:l.length≤64)
  (hb:∀(acc:List Int) (x:Int) (f:An),acc.length≤300000→0≤x→x<(l.length:Int)→Ap l x=f→b (acc,x)=bif decide (4000<f.length) then some (.out (.ret ([],3))) else some (.next (acc++Do (Ro f),x+1)))
  (he:∀acc,b (acc,(l.length:Int))=some (.out (.go acc))) {F:Nat} (hF:64<F) :
  Bq (Cz b F (Do [UInt8.ofNat l.length],0)) (Ch λq=>some (OG q,0))=some (Lw l):=by
 have key:∀(k:Nat) (F:Nat) (acc:An),k<F→k≤l.length→acc.length≤1+(l.length-k)*4002→
   Bq (Cz b F (Do acc,((l.length-k:Nat):Int))) (Ch λq=>some (OG q,0))=some (bif (l.drop (l.length-k)).all (λf=>decide (f.length≤4000)) then(acc++(l.drop (l.length-k)).flatMap Ro,0) else([],3)):=by
  intro k
  induction k with
  | zero=>
   intro F acc hF _ _
   cases F with
   | zero=>omega
   | succ F=>rw[Cz,Nat.sub_zero,he];simp[Bq,Ch,OF]
  | succ k ih=>
   intro F acc hF hk hacc
   cases F with
   | zero=>omega
   | succ F=>
    have hlt:l.length-(k+1)<l.length:=by omega
    have hat:Ap l ((l.length-(k+1):Nat):Int)=l[l.length-(k+1)]:=by simp[Ap,hlt]
    have hd:l.drop (l.length-(k+1))=l[l.length-(k+1)]::l.drop (l.length-k):=by
     rw[List.drop_eq_getElem_cons hlt];congr 2;omega
    have ha:(l.length-(k+1))*4002≤64*4002:=Nat.mul_le_mul_right _ (by omega);rw[Cz,hb _ _ _ (by rw[QL];omega) (by omega) (by omega) hat,hd];generalize l[l.length-(k+1)]=f at *
    cases h4:decide (4000<f.length) with
    | true=>
     simp only[Zr] at h4;rw[List.all_cons,Zy (by omega),ZA];rfl
    | false=>
     simp only[Zq] at h4;have e2:(l.length-(k+1))*4002+4002=(l.length-k)*4002:=by
      rw[show l.length-k=l.length-(k+1)+1 from by omega,Nat.succ_mul]
     have:=ih F (acc++Ro f) (by omega) (by omega) (by simp[Ro];omega);rw[show((l.length-(k+1):Nat):Int)+1=((l.length-k:Nat):Int) from by omega];simp only[Zx,RD];rw[this,List.all_cons,Zz (by omega),Z7,List.flatMap_cons,ZZ]
 have:=key l.length F [UInt8.ofNat l.length] (by omega) (ZC _) (by simp);simp only[Nat.sub_self,List.drop_zero] at this;refine Eq.trans this ?_;unfold Lw Wq MF;rw[Zz hl,Z7];rfl
theorem Nk {α:Type}{n:Nat}{x:Option α}(h:n≤1000000000):Bc (Dp 1 n) x=x:=Df (Zz (by omega))
theorem Qv (f:An):decide ((4000:Int)<(f.length:Int))=decide (4000<f.length):=by rw[ZR];simp;omega
theorem Vo {F:Nat}{l:List An}(hF:64<F):Qm F l=some (Lw l):=by
 unfold Qm
 by_cases ha:l.length≤64
 ·rw[Bo (Zy (by omega)),Mp];refine SR l _ ha (λacc x f hacc h0 hx hat=>?_) (λacc=>?_) hF
  ·show EO l acc x=_;unfold EO;rw[Bx (Zz hx),Cc h0 hx,hat,Qv]
   cases h4:decide (4000<f.length) with
   | true=>rfl
   | false=>
    simp only[Zq] at h4;have e1:([IntKind.wrap .u8 (Cw .i64 (f.length:Int) 8),IntKind.wrap .u8 (f.length:Int)]:List Int)++Do f=Do (Ro f):=by
     rw[YO,Mp,Mp];simp[Do,Ro]
    rw[Bo rfl,Nk (by simp;omega),Nk (by simp;omega),Br (by omega) (by omega),ZZ,e1];rfl
  ·show EO l acc _=_;unfold EO;rw[Bo (Zy (by omega))]
 ·rw[Bx (Zz (by omega))];unfold Lw Wq;rw[Zy ha];rfl
theorem V8 {s:An}{k:Nat}{a:UInt8}{r:An}(h:s.drop k=a::r):Bu s (k:Int)=(a.toNat:Int):=by
 have:s[k]? =some a:=by rw[← List.head?_drop,h];rfl
 simp[Bu,this]
def tb (i:Nat):Int:=nv (Q7 8 (BitVec.ofNat 32 i))
def Il (x:Nat):List Int:=(List.range 256).map λi=>if i<x then tb i else 0
theorem I3 (x:Nat):(Il x).length=256:=by simp[Il]
theorem Ub {x:Nat}(h:x<256):(Il x).set x (tb x)=Il (x+1):=by
 apply List.ext_getElem (by simp[Il]);intro i h1 h2;simp only[Il,List.getElem_set,List.getElem_map,List.getElem_range]
 by_cases e:x=i
 ·subst e;simp
 ·rw[Aaa e]
  by_cases g:i<x
  ·rw[Aai g,Aai (by omega)]
  ·rw[Aaa g,Aaa (by omega)]
theorem Xm:Il 0=List.replicate 256 (0:Int):=by
 apply List.ext_getElem
 ·rw[I3,List.length_replicate]
 ·intro i h1 h2;rw[List.getElem_replicate];simp only[Il,List.getElem_map,List.getElem_range,Nat.not_lt_zero,ZU]
theorem XM {i:Nat}(h:i<256):Ap (Il 256) (i:Int)=tb i:=by simp[Ap,Il,h]
theorem Vg (k:Nat):∀(n:Nat) (b:BitVec 32) (x:Int),0≤x→x+k=8→k<n→Cz (λσ:Int×Int=>ED σ.1 σ.2) n (nv b,x)=some (.go (nv (Q7 k b),8,false)):=by
 induction k with
 | zero=>
  intro n b x h0 h hn;obtain⟨n,rfl⟩:∃m,n=m+1:=⟨n-1,by omega⟩
  have:x=8:=by omega
  subst this;rfl
 | succ k ih=>
  intro n b x h0 h hn;obtain⟨n,rfl⟩:∃m,n=m+1:=⟨n-1,by omega⟩
  have hb:ED (nv b) x=some (.next (nv (sB b),x+1)):=by
   unfold ED;rw[Bx (Zz (by omega)),Br (by omega) (by omega),Ul]
  rw[Cz,hb];exact ih n (sB b) (x+1) (by omega) (by omega) (by omega)
theorem TT (n:Nat):IntKind.wrap .u32 (n:Int)=nv (BitVec.ofNat 32 n):=by
 unfold nv;rw[BitVec.toNat_ofNat];simp[IntKind.wrap,IntKind.signed,IntKind.bits]
theorem Qi {F:Nat}(hF:8<F)(k:Nat):∀(n:Nat) (x:Nat),x+k=256→k<n→Cz (λσ:Int×List Int=>EE F σ.1 σ.2) n ((x:Int),Il x)=some (.go (Il 256)):=by
 induction k with
 | zero=>
  intro n x h hn;obtain⟨n,rfl⟩:∃m,n=m+1:=⟨n-1,by omega⟩
  have:x=256:=by omega
  subst this;rfl
 | succ k ih=>
  intro n x h hn;obtain⟨n,rfl⟩:∃m,n=m+1:=⟨n-1,by omega⟩
  have hb:EE F (x:Int) (Il x)=some (.next (((x+1:Nat):Int),Il (x+1))):=by
   unfold EE;rw[Bx (Zz (by omega)),TT,Ca (Vg 8 F _ 0 (by omega) (by omega) hF),Ku];unfold Hx;rw[show nv (Q7 8 (BitVec.ofNat 32 x))=tb x from rfl];rw[Cc (by omega) (by omega),Cc (by omega) (by rw[I3];omega),Br (by omega) (by omega),Int.toNat_natCast,Ub (by omega)];rfl
  rw[Cz,hb];exact ih n (x+1) (by omega) (by omega)
theorem To {F:Nat}(hF:300<F):MZ F=some (Il 256):=by
 unfold MZ;have:=Qi (F:=F) (by omega) 256 F 0 (by omega) (by omega);rw[Xm] at this;rw[show((0:Int),List.replicate 256 (0:Int))=(((0:Nat):Int),List.replicate 256 (0:Int)) from rfl,Ca this,Ku];unfold Hy;rw[Df (Zz (I3 256)),Df (Zz List.length_replicate)]
theorem Q4 {α:Type}[Inhabited α]{l:List α}{i:Nat}{b:α}{r:List α}(h:l.drop i=b::r):Ap l (i:Int)=b∧i<l.length∧l.drop (i+1)=r:=by
 have hl:i<l.length:=by
  have:=congrArg List.length h;simp only[ZS,Z5] at this;omega
 have hg:l[i]? =some b:=by
  have:=congrArg (λt=>t[0]?) h;simpa using this
 refine⟨by simp[Ap,hg],hl,?_⟩;rw[← List.drop_drop,h];rfl
theorem V3 (b:BitVec 32)(c:UInt8):EQ .u8 (IntKind.wrap .u8 (nv b)) (c.toNat:Int)=(((b^^^Ij c).toNat % 256:Nat):Int):=by
 have hc:=c.toNat_lt;have e1:IntKind.wrap .u8 (nv b)=((b.toNat % 256:Nat):Int):=by
  unfold nv;simp[IntKind.wrap,IntKind.signed,IntKind.bits]
 have h1:(BitVec.ofInt (IntKind.bits .u8) ((b.toNat % 256:Nat):Int)^^^BitVec.ofInt (IntKind.bits .u8) (c.toNat:Int)).toNat=(b^^^Ij c).toNat % 256:=by
  rw[BitVec.toNat_xor,BitVec.toNat_ofInt,BitVec.toNat_ofInt,BitVec.toNat_xor];have hbits:IntKind.bits .u8=8:=rfl;have e1:(((b.toNat % 256:Nat):Int) % ((2 ^ 8:Nat):Int)).toNat=b.toNat % 256:=by omega
  have e2:(((c.toNat:Nat):Int) % ((2 ^ 8:Nat):Int)).toNat=c.toNat % 256:=by omega
  have e3:(Ij c).toNat=c.toNat:=by unfold Ij;rw[BitVec.toNat_ofNat];omega
  rw[hbits,e1,e2,e3];exact(Nat.xor_mod_two_pow (n:=8)).symm
 unfold EQ;rw[e1,h1];simp[IntKind.wrap,IntKind.signed,IntKind.bits]
theorem Mo (b:BitVec 32)(c:UInt8):(b^^^Ij c)>>>8=b>>>8:=by
 rw[BitVec.ushiftRight_xor_distrib];have:Ij c>>>8=0#32:=by
  apply BitVec.eq_of_toNat_eq;have hc:=c.toNat_lt;rw[BitVec.toNat_ushiftRight,Nat.shiftRight_eq_div_pow];unfold Ij;rw[BitVec.toNat_ofNat];show c.toNat % 4294967296/256=0;omega
 rw[this];simp
theorem UT (z:BitVec 32):BitVec.ofNat 32 (z.toNat % 256)=z&&& 255#32:=by
 apply BitVec.eq_of_toNat_eq;have hz:=z.isLt;rw[BitVec.toNat_ofNat,BitVec.toNat_and];have:z.toNat&&& 255=z.toNat % 256:=Nat.and_two_pow_sub_one_eq_mod z.toNat 8;show z.toNat % 256 % 4294967296=z.toNat&&& 255;rw[this];omega
theorem Vy (b:BitVec 32)(c:UInt8):EQ .u32 (tb ((b^^^Ij c).toNat % 256)) (Cw .u32 (nv b) 8)=nv (Q7 8 (b^^^Ij c)):=by
 unfold tb;have hs:Cw .u32 (nv b) 8=nv (b>>>8):=Sh (n:=8) (by omega) b;rw[hs,OZ,Q0,Q0,UT,← Mo b c,← SK]
theorem X0 (b:BitVec 32):Tn .u32 (nv b)=((~~~b).toNat:Int):=by
 show EQ .u32 4294967295 (nv b)=_;rw[OZ,Q0];have:bv 4294967295=BitVec.allOnes 32:=by decide
 rw[this,BitVec.allOnes_xor];rfl
theorem Og (s:An):∀(r:An) (n i:Nat) (b:BitVec 32),s.drop i=r→s.length≤1000000000→r.length<n→i≤s.length→Cz (λσ:Int×Int=>Gd s (Il 256) σ.1 σ.2) n (nv b,(i:Int))=some (.go (nv (WN b r)))
 | [],n,i,b,h,hs,hn,hi=>by
  obtain⟨n,rfl⟩:∃m,n=m+1:=⟨n-1,by simp at hn;omega⟩
  have:s.length≤i:=by simpa using h
  have hb:Gd s (Il 256) (nv b) (i:Int)=some (.out (.go (nv b))):=by
   unfold Gd;rw[Bo (Zy (by omega))]
  rw[Cz,hb];rfl
 | c::r,n,i,b,h,hs,hn,hi=>by
  obtain⟨n,rfl⟩:∃m,n=m+1:=⟨n-1,by simp at hn;omega⟩
  obtain⟨_,hl,hd⟩:=Q4 h;have hbt:=V8 h;have hz:(b^^^Ij c).toNat % 256<256:=by omega
  have hb:Gd s (Il 256) (nv b) (i:Int)=some (.next (nv (Q7 8 (b^^^Ij c)),((i+1:Nat):Int))):=by
   unfold Gd;rw[Bx (Zz (by omega)),Cc (by omega) (by omega),hbt,V3,Cc (by omega) (by omega),Cc (by omega) (by rw[I3];omega),Br (by omega) (by omega),XM hz,Vy];rfl
  rw[Cz,hb];exact Og s r n (i+1) _ hd hs (by simp at hn;omega) (by omega)
theorem WE {F:Nat}{s:An}(hF:300<F)(hs:s.length<F)(hl:s.length≤1000000000):Tp F s=some (Y1 s:Int):=by
 unfold Tp;rw[Ca (To hF),Df (Zz List.length_replicate),Df (Zz (I3 256))];rw[show((4294967295:Int),(0:Int))=(nv 4294967295#32,((0:Nat):Int)) from rfl,Ca (Og s s F 0 _ rfl hl hs (by omega))];show some (Tn .u32 (nv (WN 4294967295#32 s)))=_;rw[X0];rfl
theorem Uj (n k:Nat)(h:k≤32):Cw .u32 (n:Int) (k:Int)=((n/2 ^ k:Nat):Int):=by
 unfold Cw;have e:min (k:Int).toNat (IntKind.bits .u32)=k:=by
  have:IntKind.bits .u32=32:=rfl;rw[this];omega
 rw[e,Int.fdiv_eq_ediv_of_nonneg _ (Int.pow_nonneg (by omega))];simp
theorem Vm (n:Nat):([IntKind.wrap .u8 (Cw .u32 (n:Int) 24),IntKind.wrap .u8 (Cw .u32 (n:Int) 16),IntKind.wrap .u8 (Cw .u32 (n:Int) 8),IntKind.wrap .u8 (n:Int)]:List Int)=Do (XY n):=by
 have ha:Cw .u32 (n:Int) 24=((n/16777216:Nat):Int):=Uj n 24 (by omega);have hb:Cw .u32 (n:Int) 16=((n/65536:Nat):Int):=Uj n 16 (by omega);have h8:Cw .u32 (n:Int) 8=((n/256:Nat):Int):=Uj n 8 (by omega);rw[ha,hb,h8,Mp,Mp,Mp,Mp];rfl
theorem Nd (n:Nat):Jt (n:Int)=some (XY n):=by
 unfold Jt;rw[Vm,OF]
theorem VQ {n:Nat}(h:n<4294967296):IntKind.wrap .u32 (n:Int)=(n:Int):=by
 rw[TT];unfold nv;rw[BitVec.toNat_ofNat];omega
theorem GP (n:Nat):(XY n).length=4:=rfl
theorem CH (s:An):(Do s).length=s.length:=by simp[Do]
theorem Ql {F:Nat}(hF:262200<F)(b:An):Nb F b=some (bif decide (262136<b.length) then([],3) else(EH b,0)):=by
 unfold Nb
 cases h:decide (262136<b.length) with
 | true=>rw[Bx (Zz (by have:=ZO h;omega))];rfl
 | false=>
  have h':=of_decide_eq_false h;rw[Bo (Zy (by omega)),VQ (by omega),Ca (Nd _),Ca (WE (by omega) (by omega) (by omega)),Ca (Nd _)];rw[Br (by rw[GP,GP];omega) (by rw[GP,GP];omega),Br (by rw[Zs,GP,GP];omega) (by rw[Zs,GP,GP];omega)];rfl
theorem Nc {F:Nat}(hF:262200<F)(l:List An)(hl:l.length≤1000000000):∀(r:List An) (n i:Nat) (acc:An),l.drop i=r→i≤l.length→r.length<n→acc.length≤262144→
  Bq (Cz (λσ:List Int×Int=>Ey F l σ.1 σ.2) n (Do acc,(i:Int))) (Ch λν=>II ν)=some (bif decide ((acc++r.flatMap EH).length≤262144) then(acc++r.flatMap EH,0) else([],3))
 | [],n,i,acc,h,hi,hn,ha=>by
  obtain⟨n,rfl⟩:∃m,n=m+1:=⟨n-1,by simp at hn;omega⟩
  have:l.length≤i:=by simpa using h
  have hb:Ey F l (Do acc) (i:Int)=some (.out (.go (Do acc))):=by
   unfold Ey;rw[Bo (Zy (by omega))]
  rw[Cz,hb,List.flatMap_nil,Aag,Zz ha];show some (OG (Do acc),0)=_;rw[OF];rfl
 | c::r,n,i,acc,h,hi,hn,ha=>by
  obtain⟨n,rfl⟩:∃m,n=m+1:=⟨n-1,by simp at hn;omega⟩
  obtain⟨hat,hlt,hd⟩:=Q4 h;have hs:=SJ c;have hlen:(acc++(c::r).flatMap EH).length=acc.length+(8+c.length)+(r.flatMap EH).length:=by
   rw[List.flatMap_cons,Zs,Zs,hs];omega
  have hb:Ey F l (Do acc) (i:Int)=bif decide (acc.length+(8+c.length)≤262144) then some (.next (Do (acc++EH c),((i+1:Nat):Int))) else some (.out (.ret ([],3))):=by
   unfold Ey;rw[Bx (Zz (by omega)),Cc (by omega) (by omega),hat]
   cases h1:decide (262136<c.length) with
   | true=>
    have hsl:Nb F c=some ([],3):=by rw[Ql hF c,h1];rfl
    rw[Ca hsl,Zy (p:=acc.length+(8+c.length)≤262144) (by have:=ZO h1;omega)];rfl
   | false=>
    have h1':=of_decide_eq_false h1;have hsl:Nb F c=some (EH c,0):=by rw[Ql hF c,h1];rfl
    have hk:BS .i64 (((Do acc).length:Int)+((EH c).length:Int))=true:=KC (by rw[CH,hs];omega) (by rw[CH,hs];omega);rw[Ca hsl,Df (by rw[hk];exact XC _)]
    cases h2:decide (acc.length+(8+c.length)≤262144) with
    | false=>
     have h2':=of_decide_eq_false h2;have hx:decide ((262144:Int)<((Do acc).length:Int)+((EH c).length:Int))=true:=Zz (by rw[CH,hs];omega);rw[Bx (by rw[hx,ZH])];rfl
    | true=>
     have h2':=ZO h2;have hx:decide ((262144:Int)<((Do acc).length:Int)+((EH c).length:Int))=false:=Zy (by rw[CH,hs];omega);rw[Bo (by rw[hx];rfl),Nk (by rw[CH,hs];omega),Br (by omega) (by omega),RD];rfl
  rw[Cz,hb]
  cases h2:decide (acc.length+(8+c.length)≤262144) with
  | false=>
   have h2':=of_decide_eq_false h2;rw[Zy (p:=(acc++(c::r).flatMap EH).length≤262144) (by rw[hlen];omega)];rfl
  | true=>
   have h2':=ZO h2;have:=Nc hF l hl r n (i+1) (acc++EH c) hd (by omega) (by simp at hn;omega) (by rw[Zs,hs];omega);simp only[Z1];rw[this,List.flatMap_cons,ZZ]
theorem Vq {F:Nat}(hF:262200<F){l:List An}(hl:l.length<F)(hb:l.length≤1000000000):Qn F l=some (Oe l):=by
 unfold Qn;have:=Nc hF l hb l F 0 [] rfl (by omega) hl (by simp);rw[Aaj] at this;exact this
def LF {α β R:Type}(g:Nat→β→α→Out R β):Nat→β→List α→Out R β
 | _,acc,[]=>.go acc
 | i,acc,x::r=>match g i acc x with
  | .ret q=>.ret q
  | .go b=>LF g (i+1) b r
def Yi {R β U:Type}(f:β→U):Out R β→Out R U
 | .ret q=>.ret q
 | .go b=>.go (f b)
def Yp {S R U β:Type}(mk:β→S):Out R β→Stp S (Out R U)
 | .ret q=>.out (.ret q)
 | .go b=>.next (mk b)
theorem UU {α β R S U:Type}{l:List α}{mk:Nat→β→S}{body:S→Option (Stp S (Out R U))}{fin:β→U}(g:Nat→β→α→Out R β)(P:Nat→β→Prop)
  (hb:∀(i:Nat) (h:i<l.length) (acc:β),P i acc→body (mk i acc)=some (Yp (mk (i+1)) (g i acc l[i]))∧∀b,g i acc l[i] = .go b→P (i+1) b)
  (he:∀acc,P l.length acc→body (mk l.length acc)=some (.out (.go (fin acc)))) :
  ∀(d i n:Nat) (acc:β),i+d=l.length→d<n→P i acc→Cz body n (mk i acc)=some (Yi fin (LF g i acc (l.drop i)))∧∀b,LF g i acc (l.drop i) = .go b→P l.length b:=by
 intro d
 induction d with
 | zero=>
  intro i n acc h hn hP;obtain⟨n,rfl⟩:∃m,n=m+1:=⟨n-1,by omega⟩
  obtain rfl:i=l.length:=by omega
  rw[Cz,he _ hP,List.drop_length];exact⟨rfl,λb hb=>by cases hb;exact hP⟩
 | succ d ih=>
  intro i n acc h hn hP;obtain⟨n,rfl⟩:∃m,n=m+1:=⟨n-1,by omega⟩
  have hi:i<l.length:=by omega
  obtain⟨h1,h2⟩:=hb i hi acc hP;rw[Cz,h1,List.drop_eq_getElem_cons hi,LF]
  cases hg:g i acc l[i] with
  | ret q=>exact⟨rfl,λb hb=>by cases hb⟩
  | go b=>exact ih (i+1) n b (by omega) (by omega) (h2 b hg)
theorem Sb {α β R S U:Type}{l:List α}{mk:Nat→β→S}{body:S→Option (Stp S (Out R U))}{fin:β→U}(g:Nat→β→α→Out R β)(P:Nat→β→Prop)
  (hb:∀(i:Nat) (h:i<l.length) (acc:β),P i acc→body (mk i acc)=some (Yp (mk (i+1)) (g i acc l[i]))∧∀b,g i acc l[i] = .go b→P (i+1) b)
  (he:∀acc,P l.length acc→body (mk l.length acc)=some (.out (.go (fin acc)))) {F:Nat} (hF:l.length<F) {a:β} (hP:P 0 a) :
  Cz body F (mk 0 a)=some (Yi fin (LF g 0 a l))∧∀b,LF g 0 a l = .go b→P l.length b:=by
 have h:=UU (fin:=fin) g P hb he l.length 0 F a (by omega) hF hP;rw[List.drop_zero] at h;exact h
theorem PG {α β R:Type}(f:α→β):∀(l:List α) (i:Nat) (a:List β),LF (R:=R) (λ_ acc x=>.go (acc++[f x])) i a l = .go (a++l.map f)
 | [],i,a=>by simp[LF]
 | x::l,i,a=>by
  show LF (R:=R) (λ_ acc x=>.go (acc++[f x])) (i+1) (a++[f x]) l=_;rw[PG f l];simp
theorem RH {α β R:Type}(ok:α→Bool)(f:α→β)(q:R):∀(l:List α) (i:Nat) (a:List β),LF (λ_ acc x=>bif ok x then .go (acc++[f x]) else .ret q) i a l=bif l.all ok then .go (a++l.map f) else .ret q
 | [],i,a=>by simp[LF]
 | x::l,i,a=>by
  rw[LF,List.all_cons]
  cases ok x with
  | false=>rfl
  | true=>simp only[Z1,Z7];rw[RH ok f q l];simp
theorem IK {p:Bool}{a b:Int}(h:(bif p then a else b)=0)(ha:a≠0):p=false∧b=0:=by
 cases p with
 | true=>exact absurd h ha
 | false=>exact⟨rfl,h⟩
theorem Of {n:Int}(h:KB n=true):0≤n∧n≤1073741824:=by
 unfold KB at h;simpa using h
theorem NI {ev:An}{i:Int}{x:Am}(h:PB ev i x=0):KB x.fDelay=true∧(Wp x.fKind=true→Da ev i=0):=by
 unfold PB at h;obtain⟨_,h⟩:=IK h (by decide);obtain⟨h1,h⟩:=IK h (by decide);refine⟨?_,λho=>by rw[ho] at h;exact h⟩
 cases hk:decide (x.fKind=4) with
 | true=>rw[hk] at h1;simpa using h1
 | false=>rw[hk] at h1;simp at h1;exact h1.2
theorem Vr {ev:An}{i:Int}{x:Am}(h:Qq ev i x=0):1≤x.fKind∧x.fKind≤5∧X1 x=true∧(x.fKind=2→x.fValue=[])∧(x.fKind≠2→Nf x.fValue=0)∧KB x.fDelay=true∧(Wp x.fKind=true→Da ev i=0):=by
 unfold Qq at h;obtain⟨h1,h⟩:=IK h (by decide);obtain⟨h2,h⟩:=IK h (by decide);simp only[Aab,Zq,Bool.not_eq_false'] at h1 h2
 by_cases hk:x.fKind=2
 ·rw[Zz hk,Z1] at h;obtain⟨h3,h⟩:=IK h (by decide);have ht:=NI h;simp only[Zq] at h3;exact⟨by omega,by omega,h2,λ_=>Z9 (by omega),λh=>absurd hk h,ht⟩
 ·rw[Zy hk,Zx] at h
  by_cases hv:Nf x.fValue=0
  ·rw[Zz hv,Z2,Zx] at h;exact⟨by omega,by omega,h2,λh=>absurd h hk,λ_=>hv,NI h⟩
  ·rw[Zy hv] at h;exact absurd h hv
structure Zk (c:AP):Prop where
 id:LK c.fEvent=true
 nm:EM c.fTenant=true
 at1:1≤c.fAttempt
 at2:c.fAttempt≤1073741824
 now:KB c.fAt=true
 res:Nf c.fResult=0
 len:c.fEffects.length≤32
 ef:∀i:Nat,i<c.fEffects.length→Qq c.fEvent (i:Int) (Ap c.fEffects (i:Int))=0
theorem Vs {c:AP}(h:Rn c=0):Zk c:=by
 unfold Rn at h;obtain⟨h1,h⟩:=IK h (by decide);obtain⟨h2,h⟩:=IK h (by decide);simp only[Aab,Zq,Bool.not_eq_false'] at h1 h2
 by_cases hv:Nf c.fResult=0
 ·rw[Zz hv] at h;obtain⟨h3,h⟩:=IK (show(bif decide (32<(c.fEffects.length:Int)) then 3 else IH (λi=>Qq c.fEvent (i:Int) (Ap c.fEffects (i:Int))) 0 c.fEffects.length)=0 from h) (by decide);simp only[Zq] at h3;exact⟨h1.1,h1.2,by omega,by omega,h2.2.2,hv,by omega,λi hi=>Oi h i (by omega) (by omega)⟩
 ·rw[Zy hv] at h;exact absurd h hv
abbrev We:An:=[99,111,109,109,105,116]
abbrev YP:An:=[97,99,107]
def Y0 (x:Am):List An:=[Lib.itoa x.fKind,x.fKey,Lib.itoa x.fDelay,(Vt x.fValue).1]
def YU (c:AP):List An:=[We,c.fEvent,c.fTenant,Lib.itoa c.fAttempt,Lib.itoa c.fAt,(Vt c.fResult).1]
def Xq (c:AP):List (List An):=YU c::c.fEffects.map Y0
def Sf (rs:List (List An)):An×Int:=bif rs.all Wq then Oe (rs.map MF) else([],3)
def XJ (c:AP):An×Int:=bif decide (Rn c=0) then Sf (Xq c) else([],Rn c)
def Y7 (id:An):An×Int:=bif LK id then Sf [[YP,id]] else([],4)
theorem Tl {l:List An}(h : ¬ (Oe l).2=0):Oe l=([],3):=by
 unfold Oe at h ⊢
 cases hd:decide ((l.flatMap EH).length≤262144) with
 | true=>rw[hd] at h;exact absurd rfl h
 | false=>rfl
theorem Wn {l:List An}(h:Wq l=true):Lw l=(MF l,0):=by unfold Lw;rw[h];rfl
theorem Wo {l:List An}(h:Wq l=false):Lw l=([],3):=by unfold Lw;rw[h];rfl
theorem Rt {α:Type}{n:Nat}{x:Option α}(h:n≤1000000000):Bc (Dp 16 n) x=x:=Df (Zz (by omega))
theorem Rs {α:Type}{n:Nat}{x:Option α}(h:n≤1000000000):Bc (Dp 24 n) x=x:=Df (Zz (by omega))
theorem PS {F:Nat}(hF:270000<F){rs:List (List An)}(hl:rs.length≤1000):MM F rs=some (Sf rs):=by
 unfold MM Sf;have h:=(Sb (l:=rs) (mk:=λi (acc:List An)=>(acc,(i:Int))) (fin:=id) (body:=λσ=>EK F rs σ.1 σ.2) (λ_ acc x=>bif Wq x then .go (acc++[MF x]) else .ret (([]:An),(3:Int))) (λi acc=>acc.length=i) (λi hi acc hP=>by
   unfold EK;simp only;rw[Bx (Zz (by omega)),Cc (by omega) (by omega),Mh hi,Vo (by omega),Dw]
   cases ho:Wq rs[i] with
   | false=>rw[Wo ho];exact⟨rfl,λb hb=>by cases hb⟩
   | true=>
    rw[Wn ho,Bo (by rfl),Rt (by simp;omega),Br (by omega) (by omega)];exact⟨rfl,λb hb=>by cases hb;simp[hP]⟩) (λacc hP=>by unfold EK;simp only;rw[Bo (Zy (by omega))];rfl) (F:=F) (by omega) (a:=[]) rfl).1
 show Bq (Cz (λσ=>EK F rs σ.1 σ.2) F ([],((0:Nat):Int))) (Ch λν=>Gw F ν)=_;rw[h,RH,Dw]
 cases ho:rs.all Wq with
 | false=>rfl
 | true=>
  show Gw F ([]++rs.map MF)=_;rw[Aaj];unfold Gw;rw[Vq (by omega) (by rw[Zw];omega) (by rw[Zw];omega),Dw]
  by_cases hj:(Oe (rs.map MF)).2=0
  ·rw[Bo (by simp[hj])];exact congrArg some (Prod.ext rfl hj.symm)
  ·rw[Bx (by simp[hj])];exact congrArg some (Tl hj).symm
theorem PR {M F:Nat}{v:List Ac}(hA:JY M v)(hM:M≤2000000)(hF:4*M+8<F):Lz F v=some (Vt v).1:=by
 unfold Lz;rw[QJ hA hM hF,Dw]
theorem QU {M F:Nat}{c:AP}(hA:XT M c)(hM:M≤2000000)(hF:4*M+8<F)(hF0:270000<F):GG F c=some (XJ c):=by
 unfold GG XJ;rw[Tb hA hM (by omega) (by omega),Dw]
 by_cases he:Rn c=0
 ·rw[Bo (by simp[he]),Zz he];have ho:=Vs he;have b:=Of ho.now;have hl:=ho.len;rw[Br (by have:=ho.at1;omega) (by have:=ho.at2;omega),Br (by omega) (by omega),PR hA.r hM hF,Dw];have h:=(Sb (l:=c.fEffects) (mk:=λi (acc:List (List An))=>(acc,(i:Int))) (fin:=id) (body:=λσ=>DD F c σ.1 σ.2) (λ_ acc x=>.go (acc++[Y0 x])) (λi acc=>acc.length=i+1) (λi hi acc hP=>by
    unfold DD;simp only;obtain⟨h1,h2,h3,h4,h5,h6,_⟩:=Vr (ho.ef i hi);have b:=Of h6;rw[Mh hi] at h1 h2 b;rw[Bx (Zz (by omega)),Cc (by omega) (by omega),Mh hi,Br (by omega) (by omega),Br (by omega) (by omega),PR (hA.es _ (List.getElem_mem hi)).v hM hF,Dw,Rs (by simp;omega),Br (by omega) (by omega)];exact⟨rfl,λb hb=>by cases hb;simp[hP]⟩) (λacc hP=>by unfold DD;simp only;rw[Bo (Zy (by omega))];rfl) (F:=F) (by omega) (a:=[YU c]) rfl).1
  show Bq (Cz (λσ=>DD F c σ.1 σ.2) F ([YU c],((0:Nat):Int))) (Ch λν=>Ea F ν)=_;rw[h,PG,Dw];show Ea F (Xq c)=_;unfold Ea;rw[PS hF0 (by simp[Xq];omega),Dw];rfl
 ·rw[Bx (by simp[he]),Zy he];rfl
theorem N5 {F:Nat}(hF:270000<F)(id:An):DE F id=some (Y7 id):=by
 unfold DE Y7
 cases LK id with
 | false=>rfl
 | true=>
  rw[Bo (by rfl),PS hF (by simp),Dw];rfl
theorem O2:∀a:An,Cp a a=false
 | []=>rfl
 | x::a=>by
  show Op.bytesLess (x::a) (x::a)=false;have h : ¬ x<x:=λh=>absurd h (by simp);have ih:Op.bytesLess a a=false:=O2 a;simp[Op.bytesLess,h,ih]
theorem O3 (x y:UInt8)(a b:An):Cp (x::a) (y::b)=(decide (x<y)||(decide (x=y)&&Cp a b)):=by
 show Op.bytesLess (x::a) (y::b)=_;simp only[Op.bytesLess]
 by_cases h:x<y
 ·simp[h]
 ·by_cases e:x=y
  ·subst e;simp[h]
  ·have:y<x:=by
    rcases Nat.lt_trichotomy x.toNat y.toNat with h1 | h1 | h1
    ·exact absurd (UInt8.lt_iff_toNat_lt.2 h1) h
    ·exact absurd (UInt8.toNat_inj.1 h1) e
    ·exact UInt8.lt_iff_toNat_lt.2 h1
   simp[h,e,this]
theorem M9:∀{a b c:An},Cp a b=true→Cp b c=true→Cp a c=true
 | [],[],_,h,_=>by cases h
 | [],_::_,[],_,h=>by cases h
 | [],_::_,_::_,_,_=>rfl
 | _::_,[],_,h,_=>by cases h
 | _::_,_::_,[],_,h=>by cases h
 | x::a,y::b,z::c,h,h'=>by
  rw[O3] at h h' ⊢;simp only[ZX,Zr,Zu] at h h' ⊢;have t:∀{u v:UInt8},u<v↔u.toNat<v.toNat:=UInt8.lt_iff_toNat_lt;rcases h with h | ⟨rfl,h⟩
  ·rcases h' with h' | ⟨rfl,h'⟩
   ·exact .inl (t.2 (Nat.lt_trans (t.1 h) (t.1 h')))
   ·exact .inl h
  ·rcases h' with h' | ⟨rfl,h'⟩
   ·exact .inl h'
   ·exact .inr ⟨rfl,M9 h h'⟩
theorem PD:∀(a b:An),Cp a b=true∨a=b∨Cp b a=true
 | [],[]=>.inr (.inl rfl)
 | [],_::_=>.inl rfl
 | _::_,[]=>.inr (.inr rfl)
 | x::a,y::b=>by
  rw[O3,O3];simp only[ZX,Zr,Zu];rcases Nat.lt_trichotomy x.toNat y.toNat with h1 | h1 | h1
  ·exact .inl (.inl (UInt8.lt_iff_toNat_lt.2 h1))
  ·have e:=UInt8.toNat_inj.1 h1;subst e;rcases PD a b with h | rfl | h
   ·exact .inl (.inr ⟨rfl,h⟩)
   ·exact .inr (.inl rfl)
   ·exact .inr (.inr (.inr ⟨rfl,h⟩))
  ·exact .inr (.inr (.inl (UInt8.lt_iff_toNat_lt.2 h1)))
section
variable {T : Type}
def Ms (xs:List (An×T)):Prop:=xs.Pairwise λp q=>Cp p.1 q.1=true
theorem Ms.nil:Ms ([]:List (An×T)):=List.Pairwise.nil
theorem K6 {xs:List (An×T)}{k:An}:CT xs k=none↔∀p∈xs,p.1≠k:=by
 induction xs with
 | nil=>simp[CT]
 | cons p r ih=>
  rw[CT]
  by_cases h:p.1=k
  ·rw[Zz h];simp[h]
  ·rw[Zy h];simp[h,ih]
theorem JA {xs:List (An×T)}{k:An}{v:T}(h:CT xs k=some v):(k,v)∈xs:=by
 induction xs with
 | nil=>cases h
 | cons p r ih=>
  rw[CT] at h
  by_cases e:p.1=k
  ·rw[Zz e] at h;cases h;subst e;exact List.mem_cons_self ..
  ·rw[Zy e] at h;exact List.mem_cons_of_mem _ (ih h)
theorem PY {k:An}{v:T}{q:An×T}:∀{xs:List (An×T)},q∈mins k v xs→q=(k,v)∨q∈xs
 | [],h=>by simp[mins] at h;exact .inl h
 | p::r,h=>by
  rw[mins] at h
  cases hs:Cp k p.1 with
  | true=>rw[hs] at h;simpa using h
  | false=>
   rw[hs] at h;rcases List.mem_cons.1 h with h | h
   ·exact .inr (by rw[h];exact List.mem_cons_self ..)
   ·rcases PY h with h | h
    ·exact .inl h
    ·exact .inr (List.mem_cons_of_mem _ h)
theorem Ms.mins {k:An}{v:T}:∀{xs:List (An×T)},Ms xs→CT xs k=none→Ms (mins k v xs)
 | [],_,_=>List.pairwise_singleton ..
 | p::r,h,hk=>by
  obtain⟨h1,h2⟩:=List.pairwise_cons.1 h;rw[CT] at hk
  by_cases e:p.1=k
  ·rw[Zz e] at hk;cases hk
  ·rw[Zy e] at hk;rw[Proofs.YtfobhhegpkinaaaGreatDoor.mins]
   cases hs:Cp k p.1 with
   | true=>exact List.pairwise_cons.2 ⟨λq hq=>by
     rcases List.mem_cons.1 hq with rfl | hq
     ·exact hs
     ·exact M9 hs (h1 q hq),h⟩
   | false=>
    have hp:Cp p.1 k=true:=by
     rcases PD p.1 k with h | h | h
     ·exact h
     ·exact absurd h e
     ·rw[h] at hs;cases hs
    exact List.pairwise_cons.2 ⟨λq hq=>by
     rcases PY hq with rfl | hq
     ·exact hp
     ·exact h1 q hq,Ms.mins h2 hk⟩
theorem Ms.mput {xs:List (An×T)}(h:Ms xs)(k:An)(v:T):Ms (mput xs k v):=by
 unfold Proofs.YtfobhhegpkinaaaGreatDoor.mput;unfold Ms;rw[List.pairwise_map];refine h.imp fun {p q} hpq=>?_;have e:∀p:An×T,(bif decide (p.1=k) then(k,v) else p).1=p.1:=λp=>by
  by_cases hp:p.1=k
  ·rw[Zz hp];exact hp.symm
  ·rw[Zy hp];rfl
 rw[e,e];exact hpq
theorem Ms.mset {xs:List (An×T)}(h:Ms xs)(k:An)(v:T):Ms (mset xs k v):=by
 unfold Proofs.YtfobhhegpkinaaaGreatDoor.mset E3
 cases hk:CT xs k with
 | none=>exact h.mins hk
 | some w=>exact h.mput k v
theorem Ms.mdel {xs:List (An×T)}(h:Ms xs)(k:An):Ms (mdel xs k):=h.sublist (List.filter_sublist ..)
theorem Ms.ext:∀{xs ys:List (An×T)},Ms xs→Ms ys→(∀k,CT xs k=CT ys k)→xs=ys
 | [],[],_,_,_=>rfl
 | [],q::s,_,_,h=>by
  have:=h q.1;rw[CT,CT,Zz rfl] at this;cases this
 | p::r,[],_,_,h=>by
  have:=h p.1;rw[CT,CT,Zz rfl] at this;cases this
 | p::r,q::s,hx,hy,h=>by
  obtain⟨x1,x2⟩:=List.pairwise_cons.1 hx;obtain⟨y1,y2⟩:=List.pairwise_cons.1 hy;have hpq:p.1=q.1:=by
   have a1:=h p.1;have a2:=h q.1;rw[CT,Zz rfl] at a1;rw[show CT (q::s) q.1=bif decide (q.1=q.1) then some q.2 else CT s q.1 from rfl,Zz rfl] at a2;simp only[Z1] at a1 a2;have m1:=JA a1.symm;have m2:=JA a2;rcases List.mem_cons.1 m1 with e | m1
   ·exact congrArg Prod.fst e
   ·rcases List.mem_cons.1 m2 with e | m2
    ·exact(congrArg Prod.fst e).symm
    ·have c1:=y1 _ m1;have c2:=x1 _ m2;have:=M9 c1 c2;rw[O2] at this;cases this
  have e:p=q:=by
   have a1:=h p.1;rw[CT,Zz rfl,CT,Zz hpq.symm] at a1;simp only[Z1,Option.some.injEq] at a1;exact Prod.ext hpq a1
  subst e;rw[Ms.ext x2 y2 λk=>by
   have a1:=h k;rw[CT,CT] at a1
   by_cases e:p.1=k
   ·have n1:CT r k=none:=K6.2 λz hz e'=>by have:=x1 z hz;rw[e',← e,O2] at this;cases this
    have n2:CT s k=none:=K6.2 λz hz e'=>by have:=y1 z hz;rw[e',← e,O2] at this;cases this
    rw[n1,n2]
   ·rw[Zy e] at a1;exact a1]
end
section
variable {T : Type}
end
abbrev XS:=List (An×Ah)
def Zi (o:AG)(t:An):XS:=B3 o.fKeys t []
structure WY (B:Nat) (m:XS):Prop where
 ms:Ms m
 len:m.length≤256
 val:∀p∈m,0≤p.2.fVersion∧p.2.fVersion≤B∧p.2.fValue.length≤200
structure Zn (n:Nat) (o:AG):Prop where
 made:o.fMade=true
 ev:∀k,E3 o.fResults k=decide (k∈o.fEvents)
 ln:o.fEvents.length≤n
 rs:∀p∈o.fResults,p.2.length≤200
 ks:∀t,WY (32*n) (Zi o t)
 pn:o.fPending.length≤32*n
 pv:∀x∈o.fPending,x.fEffect.fValue.length≤200
 pc:∀x∈o.fPending,x.fCause∈o.fEvents∧∃i:Int,Da x.fCause i=0∧x.fID=BZ x.fCause i
 pu:(o.fPending.map (·.fID)).Nodup
theorem WY.mono {B B':Nat}{m:XS}(h:WY B m)(hb:B≤B'):WY B' m:=⟨h.ms,h.len,λp hp=>by have:=h.val p hp;exact⟨this.1,by omega,this.2.2⟩⟩
theorem Qe:KA 5000000=some true:=by decide +kernel
def Wr (y:Ac):Bool:=(BS .i64) y.fKind&&(BS .i64) y.fInt&&Kv y.fStr&&(BS .i64) y.fN
def Xu (y:Am):Bool:=(BS .i64) y.fKind&&Kv y.fKey&&(λys:(List Ac)=>ys.all Wr&&decide (ys.length≤1048576)) y.fValue&&(BS .i64) y.fDelay
def Xt (y:AP):Bool:=Kv y.fEvent&&Kv y.fTenant&&(BS .i64) y.fAttempt&&(λys:(List Ac)=>ys.all Wr&&decide (ys.length≤1048576)) y.fResult&&(λys:(List Am)=>ys.all Xu&&decide (ys.length≤1048576)) y.fEffects&&(BS .i64) y.fAt
def Yk (y:Cd):Bool:=(BS .i64) y.fKind&&Xt y.fC&&Kv y.fS&&(BS .i64) y.fN
theorem I5 {s:An}(h:Kv s=true):s.length≤1048576:=ZO h
theorem JY.ofB {v:List Ac}(h:(v.all Wr&&decide (v.length≤1048576))=true):JY 1048576 v:=by
 simp only[Zu,Zr,ZQ] at h;refine⟨by decide,h.2,λc hc=>?_⟩;have:=h.1 c hc;unfold Wr at this;simp only[Zu] at this;exact⟨I5 this.1.2,this.1.1.2,(Jn this.2).2⟩
theorem YB.ofB {x:Am}(h:Xu x=true):YB 1048576 x:=by
 unfold Xu at h;simp only[Zu] at h;exact⟨JY.ofB (by simp only[Zu];exact h.1.2),by have:=I5 h.1.1.2;omega⟩
theorem XT.ofB {c:AP}(h:Xt c=true):XT 1048576 c:=by
 unfold Xt at h;simp only[Zu] at h;obtain⟨⟨⟨⟨⟨h1,h2⟩,_⟩,h3⟩,h4⟩,_⟩:=h;exact⟨JY.ofB (by simp only[Zu];exact h3),λx hx=>YB.ofB (List.all_eq_true.1 h4.1 x hx),by have:=I5 h1;omega,by have:=I5 h2;omega⟩
structure YI (x:Cd):Prop where
 c:XT 1048576 x.fC
 s:x.fS.length≤1048576
theorem YI.ofB {x:Cd}(h:Yk x=true):YI x:=by
 unfold Yk at h;simp only[Zu] at h;exact⟨XT.ofB h.1.1.2,I5 h.1.2⟩
abbrev FF:Nat:=5000000
theorem YW {c:AP}(h:XT 1048576 c):GG FF c=some (XJ c):=QU h (by decide) (by decide) (by decide)
theorem Rd {x:Cd}{t:An}(h:YI x):MV FF x t=some true:=by
 have h1:IF FF x=some (false,10):=by
  unfold IF HO K4 Ei Ht;rw[YW h.c,N5 (by decide)];simp only[Dw];have hn:∀n,Lc [] n=some ([]:An):=λn=>by
   unfold Lc;rw[Bx ?_]
   by_cases hx:n<0
   ·rw[Zz hx];rfl
   ·rw[Zz (show(([]:List Ar).length:Int)≤n by simp;omega)];simp
  rw[hn];simp only[Dw,Lh]
  cases decide (x.fKind=0)<;>cases decide (x.fKind=1)<;>cases decide (x.fKind=2)<;>cases decide (x.fKind=3)<;>cases decide (x.fKind=4)<;>rfl
 have h2:Jj FF x=some (false,10):=h1;unfold MV;rw[h1,h2];simp only[Dw];unfold HG G8 Ei Eu HI GC Jd HH;simp only[Dw];rw[Bo (by decide),Br (by decide) (by decide),Br (by decide) (by decide),Br (by decide) (by decide),Br (by decide) (by decide),Br (by decide) (by decide),Bx (by decide),Qe,Dw];rfl
end Go.Proofs.YtfobhhegpkinaaaGreatDoor
namespace Go.Proofs.YtfobhhegpkinaaaGreatDoor.lawOutboxNone
open Go
set_option linter.unusedVariables false
theorem Zf:Zl:=λx t h0 _=>⟨FF,Rd (YI.ofB h0)⟩
end Go.Proofs.YtfobhhegpkinaaaGreatDoor.lawOutboxNone
