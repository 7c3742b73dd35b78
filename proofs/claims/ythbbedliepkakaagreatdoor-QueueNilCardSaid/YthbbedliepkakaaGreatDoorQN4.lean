/-
  Texts of the proof, put together: LvD, LvE, LvF, LvG, LvH, LvI, LvJ, LvK, LvL, LvM, LvN, LvO, LvP, LuA, LwQNil.
-/
import Derived.Test.YthbbedliepkakaaGreatDoorQN3
namespace Go.Proofs.YthbbedliepkakaaGreatDoor
open Go
set_option linter.unusedVariables false
set_option linter.unusedSimpArgs false
structure R2 (F M:Nat) (v:List Ap):Prop where
 hM:M≤1152921504606846976
 hM2:(M+2)*48≤140737488355328
 hv:v.length≤M
 hF:M<F
 hc:∀c∈v,c.fStr.length≤M∧Ce .i64 c.fInt=true∧c.fN≤9223372036854775807
abbrev R0 (F:Nat)(v:List Ap):MW→Option (Stp MW Q1):=λσ=>D4 F v σ.1 σ.2.1 σ.2.2
def QF (S:List A2):Prop:=∀e∈S,1≤e.fLeft∧e.fLeft≤9223372036854775807
section
variable {F M : Nat} {v : List Ap} {S : List A2} {i : Int} {sh : A8} {c : Ap} {r : List Ap} {e : A2}
theorem E7 (h0:0≤i)(h:v.drop i.toNat=c::r):v[i.toNat]? =some c∧v.drop (i+1).toNat=r∧i<v.length:=by
 have h1:(v.drop i.toNat)[0]? =some c:=by rw[h];rfl
 have h2:v[i.toNat]? =some c:=by simpa using h1
 have h3:=(List.getElem?_eq_some_iff.1 h2).1;refine⟨h2,?_,by omega⟩;rw[show(i+1).toNat=i.toNat+1 from by omega,← List.drop_drop,h];rfl
theorem round (hA:R2 F M v)(h0:0≤i)(h:v.drop i.toNat=c::r)(hS:(S.length:Int)≤i)(hb:QF S):R0 F v (S.reverse,i,sh)=some (Ri v.length S i sh c):=by
 obtain⟨h1,_,h3⟩:=E7 h0 h;obtain⟨a,b,_⟩:=hA.hc c (RB h1);have:=hA.hv;exact Kl h0 h1 hA.hM hA.hM2 hA.hv (by omega) hA.hF a b hb
theorem KR {α:Type}{v xs r:List α}{i:Int}(h0:0≤i)(h:v.drop i.toNat=xs++r):v.drop (i+xs.length).toNat=r:=by
 rw[show(i+(xs.length:Int)).toNat=i.toNat+xs.length from by omega,← List.drop_drop,h,List.drop_left]
end
def Fo.one:Fo→Bool
 | .cell none _ .nil=>true
 | .node none _ _ .nil=>true
 | _=>false
def Gc (m:Bool)(last:Option AI)(xs:List Ap):Option (Option AI×List Ap):=
 bif m then match xs with
  | []=>none
  | c::r=>bif pl c&&decide (c.fKind=4)&&GC true last (some c.fStr) then some (some c.fStr,r) else none
 else some (none,xs)
def Gi:Nat→Bool→Option AI→Nat→List Ap→Option (Fo×List Ap)
 | 0,_,_,_,_=>none
 | _+1,_,_,0,xs=>some (.nil,xs)
 | F+1,m,last,k+1,xs=>
  match Gc m last xs with
  | none=>none
  | some (_,[])=>none
  | some (key,c::xs')=>
   bif !pl c then none else
   bif decide (0<c.fN) then
    match Gi F (decide (c.fKind=6)) none c.fN.toNat xs' with
    | none=>none
    | some (kids,ys)=>match Gi F m key k ys with
     | none=>none
     | some (r,zs)=>some (.node key c kids r,zs)
   else match Gi F m key k xs' with
    | none=>none
    | some (r,zs)=>some (.cell key c r,zs)
theorem Lr {c:Ap}(hp:pl c=true)(hk:c.fKind=4):c=⟨4,0,c.fStr,0⟩∧c.fStr.all Ou=true:=by
 cases c
 simp only at hk;subst hk;simp[pl] at hp;obtain⟨h1,h2,h3⟩:=hp;subst h1;subst h2;exact⟨rfl,by simpa using h3⟩
theorem JJ {m:Bool}{last key:Option AI}{xs r:List Ap}(h:Gc m last xs=some (key,r)):xs=I5 key++r∧GC m last key=true:=by
 unfold Gc at h
 cases m with
 | false=>cases h;exact⟨rfl,rfl⟩
 | true=>
  simp only[RQ] at h
  cases xs with
  | nil=>cases h
  | cons c r'=>
   simp only at h
   cases hb:(pl c&&decide (c.fKind=4)&&GC true last (some c.fStr)) with
   | false=>rw[hb] at h;cases h
   | true=>
    rw[hb] at h;simp only[RC,R8] at hb
    cases h
    exact⟨by rw[(Lr hb.1.1 hb.1.2).1];rfl,hb.2⟩
theorem E1:∀(F:Nat) (m:Bool) (last:Option AI) (k:Nat) (xs:List Ap) (f:Fo) (ys:List Ap),Gi F m last k xs=some (f,ys)→xs=f.flat++ys∧f.wf m last=true∧f.cnt=k
 | 0,_,_,_,_,_,_,h=>by cases h
 | F+1,m,last,0,xs,f,ys,h=>by cases h;exact⟨rfl,rfl,rfl⟩
 | F+1,m,last,k+1,xs,f,ys,h=>by
  rw[Gi] at h
  cases hk:Gc m last xs with
  | none=>rw[hk] at h;cases h
  | some p=>
   obtain⟨key,r⟩:=p;obtain⟨h1,h2⟩:=JJ hk;rw[hk] at h
   cases r with
   | nil=>cases h
   | cons c xs'=>
    simp only at h
    cases hp:pl c with
    | false=>rw[hp] at h;cases h
    | true=>
     rw[hp] at h;simp only[RF,RH] at h
     cases hn:decide (0<c.fN) with
     | true=>
      rw[hn] at h;simp only[RQ] at h
      cases hq:Gi F (decide (c.fKind=6)) none c.fN.toNat xs' with
      | none=>rw[hq] at h;cases h
      | some q=>
       obtain⟨kids,zs⟩:=q;rw[hq] at h;simp only at h
       cases hr:Gi F m key k zs with
       | none=>rw[hr] at h;cases h
       | some q2=>
        obtain⟨r2,us⟩:=q2;rw[hr] at h;cases h;obtain⟨a1,a2,a3⟩:=E1 F _ _ _ _ _ _ hq;obtain⟨b1,b2,b3⟩:=E1 F _ _ _ _ _ _ hr;refine⟨by rw[h1,a1,b1];simp[Fo.flat],?_,by simp[Fo.cnt,b3]⟩;simp only[R8] at hn;simp only[Fo.wf,h2,hp,a2,b2,RP,RK,RC,R8];omega
     | false=>
      rw[hn] at h;simp only[RH] at h
      cases hr:Gi F m key k xs' with
      | none=>rw[hr] at h;cases h
      | some q2=>
       obtain⟨r2,us⟩:=q2;rw[hr] at h;cases h;obtain⟨b1,b2,b3⟩:=E1 F _ _ _ _ _ _ hr;exact⟨by rw[h1,b1];simp[Fo.flat],by simp[Fo.wf,h2,hp,b2,hn],by simp[Fo.cnt,b3]⟩
theorem Ea:∀(F F':Nat) (m:Bool) (last:Option AI) (k:Nat) (xs:List Ap),xs.length<F→xs.length<F'→Gi F m last k xs=Gi F' m last k xs
 | 0,_,_,_,_,_,h,_=>by omega
 | _+1,0,_,_,_,_,_,h=>by omega
 | F+1,F'+1,m,last,0,xs,_,_=>rfl
 | F+1,F'+1,m,last,k+1,xs,h,h'=>by
  rw[Gi,Gi]
  cases hk:Gc m last xs with
  | none=>rfl
  | some p=>
   obtain⟨key,r⟩:=p;obtain⟨h1,h2⟩:=JJ hk
   cases r with
   | nil=>rfl
   | cons c xs'=>
    have hl:xs'.length<xs.length:=by rw[h1];simp;omega
    simp only
    cases hp:pl c with
    | false=>rfl
    | true=>
     simp only[RF,RH]
     cases hn:decide (0<c.fN) with
     | true=>
      simp only[RQ];rw[Ea F F' _ _ _ xs' (by omega) (by omega)]
      cases hq:Gi F' (decide (c.fKind=6)) none c.fN.toNat xs' with
      | none=>rfl
      | some q=>
       obtain⟨kids,zs⟩:=q;have:=(E1 _ _ _ _ _ _ _ hq).1;have hz:zs.length≤xs'.length:=by rw[this];simp
       simp only;rw[Ea F F' m key k zs (by omega) (by omega)]
     | false=>
      simp only[RH];rw[Ea F F' m key k xs' (by omega) (by omega)]
def Rv {S:Type}(body:S→Option (Stp S Q1))(s:S):Prop:=∃sh',Fin body s (.ret (0,sh',false))∨Fin body s (.go sh')
theorem DA.bad {S:Type}{body:S→Option (Stp S Q1)}{s t:S}(h:DA body s t)(h':Rv body t):Rv body s:=by
 obtain⟨sh',h' | h'⟩:=h'
 ·exact⟨sh',.inl (h.fin h')⟩
 ·exact⟨sh',.inr (h.fin h')⟩
section
variable {F M : Nat} {v : List Ap}
def HC (xs:List Ap):Option (Fo×List Ap):=Gi (xs.length+1) false none 1 xs
theorem OO {P:Nat}{xs ys:List Ap}{f:Fo}(h:Gi P false none 1 xs=some (f,ys)):f.one=true:=by
 obtain⟨h1,h2,h3⟩:=E1 _ _ _ _ _ _ _ h
 cases f with
 | nil=>cases h3
 | cell k c r=>
  cases r with
  | nil=>
   cases k with
   | none=>rfl
   | some s=>simp[Fo.wf,GC] at h2
  | cell _ _ _=>simp[Fo.cnt] at h3
  | node _ _ _ _=>simp[Fo.cnt] at h3
 | node k c kids r=>
  cases r with
  | nil=>
   cases k with
   | none=>rfl
   | some s=>simp[Fo.wf,GC] at h2
  | cell _ _ _=>simp[Fo.cnt] at h3
  | node _ _ _ _=>simp[Fo.cnt] at h3
end
theorem PX {c:Ap}(hp:pl c=true):0≤c.fN:=by
 simp only[pl,← Bool.decide_or] at hp
 cases h1:decide (c.fKind=1)<;>cases h2:decide (c.fKind=2)<;>cases h3:decide (c.fKind=3)<;>cases h4:decide (c.fKind=4)<;>cases h5:decide (c.fKind=5)<;>cases h6:decide (c.fKind=6)<;>simp[h1,h2,h3,h4,h5,h6] at hp<;>omega
def Fo.put (k:Option AI):Fo→Fo→Fo
 | .cell _ c _,r=>.cell k c r
 | .node _ c kids _,r=>.node k c kids r
 | .nil,_=>.nil
theorem N7 (P:Nat)(m:Bool)(last:Option AI)(k:Nat)(xs:List Ap):Gi (P+2) m last (k+1) xs =
  match Gc m last xs with
  | none=>none
  | some (key,ys)=>match Gi (P+2) false none 1 ys with
   | none=>none
   | some (f,zs)=>match Gi (P+1) m key k zs with
    | none=>none
    | some (r,us)=>some (f.put key r,us):=by
 rw[Gi]
 cases hk:Gc m last xs with
 | none=>rfl
 | some p=>
  obtain⟨key,ys⟩:=p;simp only;rw[Gi];simp only[Gc,RH]
  cases ys with
  | nil=>rfl
  | cons c ys=>
   simp only
   cases hp:pl c with
   | false=>rfl
   | true=>
    simp only[RF,RH]
    cases hn:decide (0<c.fN) with
    | true=>
     simp only[RQ]
     cases hq:Gi (P+1) (decide (c.fKind=6)) none c.fN.toNat ys with
     | none=>rfl
     | some q=>
      obtain⟨kids,zs⟩:=q;simp only[Gi]
      cases hr:Gi (P+1) m key k zs with
      | none=>rfl
      | some q=>obtain⟨a,b⟩:=q;rfl
    | false=>
     simp only[RH,Gi]
     cases hr:Gi (P+1) m key k ys with
     | none=>rfl
     | some q=>obtain⟨a,b⟩:=q;rfl
def IR (m:Bool)(last:Option AI)(k:Nat)(xs:List Ap):Option (Fo×List Ap):=Gi (xs.length+1) m last k xs
theorem Hb (m:Bool)(last:Option AI)(xs:List Ap):IR m last 0 xs=some (.nil,xs):=rfl
theorem EA (m:Bool)(last:Option AI)(k:Nat)(xs:List Ap):IR m last (k+1) xs =
  match Gc m last xs with
  | none=>none
  | some (key,ys)=>match HC ys with
   | none=>none
   | some (f,zs)=>match IR m key k zs with
    | none=>none
    | some (r,us)=>some (f.put key r,us):=by
 unfold IR HC;rw[Ea (xs.length+1) (xs.length+2) m last (k+1) xs (by omega) (by omega),N7]
 cases hk:Gc m last xs with
 | none=>rfl
 | some p=>
  obtain⟨key,ys⟩:=p;have h1:=(JJ hk).1;have hy:ys.length≤xs.length:=by rw[h1];simp
  simp only;rw[Ea (xs.length+2) (ys.length+1) false none 1 ys (by omega) (by omega)]
  cases hf:Gi (ys.length+1) false none 1 ys with
  | none=>rfl
  | some q=>
   obtain⟨f,zs⟩:=q;have h2:=(E1 _ _ _ _ _ _ _ hf).1;have hz:zs.length≤ys.length:=by rw[h2];simp
   simp only;rw[Ea (xs.length+1) (zs.length+1) m key k zs (by omega) (by omega)]
   all_goals (cases Gi (zs.length+1) m key k zs<;>rfl)
theorem P4 {S O:Type}{body:S→Option (Stp S O)}{n:Nat}{s s':S}{o:O}(h:body s=some (.next s'))(h':Dv body n s'=some o):Dv body (n+1) s=some o:=by rw[Dv,h];exact h'
theorem Jn {S O:Type}{body:S→Option (Stp S O)}{n:Nat}{s:S}{o:O}(h:body s=some (.out o)):Dv body (n+1) s=some o:=by rw[Dv,h]
theorem N8:HC []=none:=rfl
theorem Hc (c:Ap)(r:List Ap):HC (c::r)=bif !pl c then none else bif decide (0<c.fN) then(match IR (decide (c.fKind=6)) none c.fN.toNat r with
  | none=>none
  | some (kids,zs)=>some (.node none c kids .nil,zs)) else some (.cell none c .nil,r):=by
 unfold HC;rw[Gi];simp only[Gc,RH]
 cases hp:pl c with
 | false=>rfl
 | true=>
  simp only[RF,RH]
  cases hn:decide (0<c.fN) with
  | true=>
   simp only[RQ];unfold IR;rw[RZ]
   cases hq:Gi (r.length+1) (decide (c.fKind=6)) none c.fN.toNat r with
   | none=>rfl
   | some q=>obtain⟨kids,zs⟩:=q;rfl
  | false=>rfl
theorem K1 {f:Fo}(h:f.one=true)(key:Option AI)(r:Fo):(f.put key r).flat=I5 key++(f.flat++r.flat):=by
 cases f with
 | nil=>cases h
 | cell k c r'=>
  cases k with
  | some s=>cases h
  | none=>cases r' with
   | nil=>simp[Fo.put,Fo.flat,I5]
   | cell _ _ _=>cases h
   | node _ _ _ _=>cases h
 | node k c kids r'=>
  cases k with
  | some s=>cases h
  | none=>cases r' with
   | nil=>simp[Fo.put,Fo.flat,I5]
   | cell _ _ _=>cases h
   | node _ _ _ _=>cases h
theorem NB {f:Fo}(h:f.one=true):1≤f.flat.length:=by
 cases f with
 | nil=>cases h
 | cell k c r'=>simp[Fo.flat];omega
 | node k c kids r'=>simp[Fo.flat];omega
theorem JK {xs ys:List Ap}{f:Fo}(h:HC xs=some (f,ys)):xs=f.flat++ys∧f.wf false none=true∧f.one=true:=
 ⟨(E1 _ _ _ _ _ _ _ h).1,(E1 _ _ _ _ _ _ _ h).2.1,OO h⟩
def EQ (v:List Ap)(i:Int):Int:=match HC (v.drop i.toNat) with
 | none=>-1
 | some (f,_)=>i+f.flat.length
def G6 (m:Bool)(last:Option AI)(v:List Ap)(i:Int)(k:Nat):Int:=match IR m last k (v.drop i.toNat) with
 | none=>-1
 | some (f,_)=>i+f.flat.length
theorem Jj {v:List Ap}{i:Int}(h0:0≤i)(h1:i≤v.length):EQ v i = -1∨(i<EQ v i∧EQ v i≤v.length):=by
 unfold EQ
 cases h:HC (v.drop i.toNat) with
 | none=>exact .inl rfl
 | some q=>
  obtain⟨f,ys⟩:=q;obtain⟨h2,_,h3⟩:=JK h;have:=NB h3;have hl:(v.drop i.toNat).length=f.flat.length+ys.length:=by rw[h2];simp
  rw[List.length_drop] at hl
  right;simp only;omega
structure QS (F M:Nat) (v:List Ap):Prop where
 hM:M≤1152921504606846976
 hv:v.length≤M
 hF:M<F
 hc:∀c∈v,c.fStr.length≤M
theorem M0 (ok:Bool){i:Int}(h0:0≤i)(h1:i≤1152921504606846976):BI ok i=some (bif ok then i+1 else -1):=by
 unfold BI
 cases ok
 ·rfl
 ·rw[Bw rfl,Bu (by omega) (by omega)];rfl
theorem LI {F:Nat}{c:Ap}(hF:c.fStr.length<F)(hs:c.fStr.length≤1152921504606846976):N5 F c=some (decide (c.fKind=4)&&pl c):=by
 unfold N5;rw[My hF (by omega)];simp only[Option.isSome_some,ov,RL,imp,RT,Bo,RQ]
 cases h4:decide (c.fKind=4) with
 | false=>rfl
 | true=>
  simp only[R8] at h4;simp[pl,h4]
theorem Ma {v:List Ap}{i:Int}{c:Ap}{r:List Ap}(h0:0≤i)(h:v.drop i.toNat=c::r):Ab v i=c:=by
 have:=(E7 h0 h).1;simp[Ab,this]
section
variable {M : Nat} {v : List Ap}
theorem EN {F:Nat}(hA:QS F M v){g:List Ap→Int→Option Int}{n:Int}(hn:n≤9223372036854775807):∀(L:Nat) (i x:Int),0≤i→i≤v.length→0≤x→x≤n→(∀j,i≤j→j≤v.length→g v j=some (EQ v j))→v.length-i.toNat<L→
  ∃o,Dv (λσ=>Cq v n g σ.1 σ.2) L (i,x)=some o∧BW (λν=>Em ν) o=some (G6 false none v i (n-x).toNat)
 | 0,i,x,_,_,_,_,_,h=>by omega
 | L+1,i,x,h0,h1,hx,hxn,hg,hL=>by
  cases hxl:decide (x<n) with
  | false=>
   refine⟨.go i,Jn (by show Cq v n g i x=_;unfold Cq;rw[Br hxl]),?_⟩;simp only[R6] at hxl;rw[show(n-x).toNat=0 from by omega];simp[BW,Em,G6,Hb,Fo.flat]
  | true=>
   have hb:Cq v n g i x=BF (decide (EQ v i<0)) (some (.out (.ret (-1)))) (Bo (Ce .i64 (x+1))<|some (.next (EQ v i,x+1))):=by unfold Cq;rw[Bw hxl,hg i (Int.le_refl i) h1,CX rfl]
   simp only[R8] at hxl;obtain⟨k,hk⟩:∃k,(n-x).toNat=k+1:=⟨(n-x).toNat-1,by omega⟩
   rw[hk];have e:G6 false none v i (k+1)=bif decide (EQ v i<0) then -1 else G6 false none v (EQ v i) k:=by
    unfold G6;rw[EA];simp only[Gc,RH]
    cases hp:HC (v.drop i.toNat) with
    | none=>simp[EQ,hp]
    | some q=>
     obtain⟨f,ys⟩:=q;obtain⟨q1,q2,q3⟩:=JK hp;have hi:EQ v i=i+f.flat.length:=by simp[EQ,hp]
     have hd:v.drop (EQ v i).toNat=ys:=by rw[hi];exact KR h0 q1
     rw[hd,RY (by omega)];simp only[RH]
     cases hr:IR false none k ys with
     | none=>rfl
     | some q=>
      obtain⟨r,zs⟩:=q;simp only[K1 q3,I5,List.nil_append,List.length_append,hi];omega
   rw[e];rcases Jj (v:=v) h0 h1 with hneg | ⟨hlt,hle⟩
   ·exact⟨.ret (-1),Jn (hb.trans (by rw[hneg,Bw (by decide)])),by rw[hneg];rfl⟩
   ·have hM:=hA.hM;have hvM:=hA.hv;obtain⟨o,ho1,ho2⟩:=EN hA hn L (EQ v i) (x+1) (by omega) hle (by omega) (by omega) (λj hj=>hg j (by omega)) (by omega);exact⟨o,P4 (hb.trans (by rw[Br (RY (by omega)),Bu (by omega) (by omega)])) ho1,by rw[ho2,show(n-(x+1)).toNat=k from by omega,RY (by omega)];rfl⟩
theorem Iy {F:Nat}(hA:QS F M v){g:List Ap→Int→Option Int}{n:Int}(hn:n≤9223372036854775807):∀(L:Nat) (i x:Int) (last:AI),0≤i→i≤v.length→0≤x→x≤n→(∀j,i≤j→j≤v.length→g v j=some (EQ v j))→v.length-i.toNat<L→
  ∃o,Dv (λσ=>C9 F v n g σ.1 σ.2.1 σ.2.2) L (i,last,x)=some o∧BW (λν=>Ha ν) o=some (G6 true (bif decide (0<x) then some last else none) v i (n-x).toNat)
 | 0,i,x,_,_,_,_,_,_,h=>by omega
 | L+1,i,x,last,h0,h1,hx,hxn,hg,hL=>by
  have hM:=hA.hM;have hvM:=hA.hv;have hMF:=hA.hF
  cases hxl:decide (x<n) with
  | false=>
   refine⟨.go i,Jn (by show C9 F v n g i last x=_;unfold C9;rw[Br hxl]),?_⟩;simp only[R6] at hxl;rw[show(n-x).toNat=0 from by omega];simp[BW,Ha,G6,Hb,Fo.flat]
  | true=>
   have hxl':=hxl;simp only[R8] at hxl;obtain⟨k,hk⟩:∃k,(n-x).toNat=k+1:=⟨(n-x).toNat-1,by omega⟩
   rw[hk]
   cases hd:v.drop i.toNat with
   | nil=>
    have hl:v.length≤i.toNat:=by simpa using hd
    refine⟨.ret (-1),Jn (by
     show C9 F v n g i last x=_;unfold C9;rw[Bw hxl',CV (by simp[imp,show(v.length:Int)≤i from by omega]),CV (by simp[imp,show(v.length:Int)≤i from by omega]),Bw (by simp[show(v.length:Int)≤i from by omega])]),?_⟩
    simp[BW,G6,hd,EA,Gc]
   | cons c r=>
    obtain⟨g1,g2,g3⟩:=E7 h0 hd;have hcM:=hA.hc c (RB g1);have hat:=Ma h0 hd;have hnl:decide ((v.length:Int)≤i)=false:=by simp;omega
    have hb:C9 F v n g i last x=BF (!(decide (c.fKind=4)&&pl c)||decide (0<x)&&(CM c.fStr last||decide (c.fStr=last))) (some (.out (.ret (-1)))) (BN (g v (i+1)) λha=>BF (decide (ha<0)) (some (.out (.ret (-1)))) (Bo (Ce .i64 (x+1))<|some (.next (ha,c.fStr,x+1)))):=by
     unfold C9;rw[Bw hxl',CV (by simp only[imp];rw[Qm h0 g3];simp),hat,LI (by omega) (by omega),CV (by simp[imp])];simp only[hnl,ov,RL,RG];rw[Dj h0 g3,Bu (by omega) (by omega)]
    have hpk:Gc true (bif decide (0<x) then some last else none) (c::r)=bif (!(decide (c.fKind=4)&&pl c)||decide (0<x)&&(CM c.fStr last||decide (c.fStr=last))) then none else some (some c.fStr,r):=by
     simp only[Gc,RQ]
     cases h4:decide (c.fKind=4) with
     | false=>simp
     | true=>
      cases hp:pl c with
      | false=>simp
      | true=>
       have hok:=(Lr hp (by simpa using h4)).2
       cases h0x:decide (0<x) with
       | false=>simp[GC,hok]
       | true=>cases hs:(CM c.fStr last||decide (c.fStr=last))<;>simp[GC,hok,hs]
    cases ht:(!(decide (c.fKind=4)&&pl c)||decide (0<x)&&(CM c.fStr last||decide (c.fStr=last))) with
    | true=>
     rw[ht] at hpk;refine⟨.ret (-1),Jn (hb.trans (Bw ht)),?_⟩;simp only[G6,hd,EA,hpk,RQ];rfl
    | false=>
     rw[ht] at hpk;rw[Br ht,hg (i+1) (by omega) (by omega),CX rfl] at hb;have e:G6 true (bif decide (0<x) then some last else none) v i (k+1)=bif decide (EQ v (i+1)<0) then -1 else G6 true (some c.fStr) v (EQ v (i+1)) k:=by
      unfold G6;rw[hd,EA,hpk];simp only[RH];have hx:EQ v (i+1)=match HC r with | none=>-1 | some (f,_)=>i+1+f.flat.length:=by unfold EQ;rw[g2]
      cases hp:HC r with
      | none=>rw[hp] at hx;simp[hx]
      | some q=>
       obtain⟨f,ys⟩:=q;obtain⟨q1,q2,q3⟩:=JK hp;rw[hp] at hx;simp only at hx;have hd2:v.drop (EQ v (i+1)).toNat=ys:=by rw[hx];exact KR (by omega) (g2.trans q1)
       rw[hd2,RY (by omega)];simp only[RH]
       cases hr:IR true (some c.fStr) k ys with
       | none=>rfl
       | some q=>
        obtain⟨r',zs⟩:=q;simp only[K1 q3,I5,List.length_append,RZ,So,hx];omega
     rw[e];rcases Jj (v:=v) (i:=i+1) (by omega) (by omega) with hneg | ⟨hlt,hle⟩
     ·exact⟨.ret (-1),Jn (hb.trans (by rw[hneg,Bw (by decide)])),by rw[hneg];rfl⟩
     ·obtain⟨o,ho1,ho2⟩:=Iy hA hn L (EQ v (i+1)) (x+1) c.fStr (by omega) hle (by omega) (by omega) (λj hj=>hg j (by omega)) (by omega);exact⟨o,P4 (hb.trans (by rw[Br (RY (by omega)),Bu (by omega) (by omega)])) ho1,by rw[ho2,show(n-(x+1)).toNat=k from by omega,Sh (show(0:Int)<x+1 from by omega),RY (by omega)];rfl⟩
theorem KB {i:Int}{c:Ap}{r:List Ap}(h0:0≤i)(hd:v.drop i.toNat=c::r)(hp:pl c=true):EQ v i=G6 (decide (c.fKind=6)) none v (i+1) c.fN.toNat:=by
 have g2:=(E7 h0 hd).2.1;have hN:=PX hp;unfold EQ G6;rw[hd,Hc,g2,hp];simp only[RF,RH]
 cases hn:decide (0<c.fN) with
 | true=>
  simp only[RQ]
  cases hq:IR (decide (c.fKind=6)) none c.fN.toNat r with
  | none=>rfl
  | some q=>
   obtain⟨kids,zs⟩:=q;simp only[Fo.flat,I5,List.nil_append,RZ,List.append_nil];omega
 | false=>
  simp only[R6] at hn;rw[show c.fN.toNat=0 from by omega,Hb];simp[Fo.flat,I5]
theorem N4 (hA:QS (M+1) M v)(hN:∀c∈v,c.fN≤9223372036854775807):∀(d F:Nat) (i:Int),0≤i→i≤v.length→v.length-i.toNat=d→M+2*d+3<F→Jc F v i=some (EQ v i):=by
 have hM:=hA.hM;have hvM:=hA.hv;intro d
 induction d using Nat.strongRecOn with
 | ind d ih=>
  intro F i h0 h1 hd hF;obtain⟨F,rfl⟩:∃G,F=G+1:=⟨F-1,by omega⟩
  obtain⟨F,rfl⟩:∃G,F=G+1:=⟨F-1,by omega⟩
  rw[Jc];unfold N3
  cases hdr:v.drop i.toNat with
  | nil=>
   have hl:v.length≤i.toNat:=by simpa using hdr
   rw[Bw (by simp;omega)];simp[EQ,hdr,N8]
  | cons c r=>
   obtain⟨g1,g2,g3⟩:=E7 h0 hdr;have hcM:=hA.hc c (RB g1);have hcN:=hN c (RB g1);rw[Br (by simp;omega),Dj h0 g3,Ma h0 hdr];simp only[M0 _ h0 (show i≤1152921504606846976 by omega),Option.isSome_some,ov,RL,imp,RT,CV (x:=_) (rfl:true=true)];have hg:∀j,i+1≤j→j≤v.length→Jc F v j=some (EQ v j):=λj hj hj2=>ih (v.length-j.toNat) (by omega) F j (by omega) hj2 rfl (by omega);have hpl0:pl c=false→EQ v i = -1:=λhp=>by simp[EQ,hdr,Hc,hp]
   have hleaf:pl c=true→c.fN=0→EQ v i=i+1:=λhp h0'=>by simp[EQ,hdr,Hc,hp,h0',Fo.flat,I5]
   have hscal:∀b:Bool,pl c=b→(b=true→c.fN=0)→EQ v i=bif b then i+1 else -1:=λb hb hz=>by
    cases b
    ·exact hpl0 hb
    ·exact hleaf hb (hz rfl)
   by_cases k1:c.fKind=1
   ·rw[Bw (by simp[k1])];have hp:pl c=(decide (c.fInt=0)&&(decide (c.fStr=[])&&decide (c.fN=0))):=by simp[pl,k1]
    rw[hscal _ hp (λh=>by simp at h;exact h.2.2)]
    cases decide (c.fInt=0)<;>cases decide (c.fStr=[])<;>cases decide (c.fN=0)<;>rfl
   rw[Br (by simp[k1])]
   by_cases k2:c.fKind=2
   ·rw[Bw (by simp[k2])];have hp:pl c=((decide (c.fInt=0)||decide (c.fInt=1))&&(decide (c.fStr=[])&&decide (c.fN=0))):=by simp[pl,k2]
    rw[hscal _ hp (λh=>by simp at h;exact h.2.2)]
    cases decide (c.fInt=0)<;>cases decide (c.fInt=1)<;>cases decide (c.fStr=[])<;>cases decide (c.fN=0)<;>rfl
   rw[Br (by simp[k2])]
   by_cases k3:c.fKind=3
   ·rw[Bw (by simp[k3])];have hp:pl c=(decide (c.fStr=[])&&decide (c.fN=0)):=by simp[pl,k3]
    rw[hscal _ hp (λh=>by simp at h;exact h.2)]
    cases decide (c.fStr=[])<;>cases decide (c.fN=0)<;>rfl
   rw[Br (by simp[k3])]
   by_cases k4:c.fKind=4
   ·rw[Bw (by simp[k4]),LI (by omega) (by omega),CX rfl,CX rfl];rw[Sh k4,RK,hscal (pl c) rfl (λhp=>by have:=(Lr hp k4).1;rw[this])]
   rw[Br (by simp[k4])]
   by_cases k5:c.fKind=5
   ·have hp:pl c=(decide (c.fInt=0)&&(decide (c.fStr=[])&&decide (0≤c.fN))):=by simp[pl,k5]
    rw[show(decide (c.fKind=5)&&(decide (c.fInt=0)&&(decide (c.fStr=[])&&decide (0≤c.fN))))=pl c from by rw[hp,Sh k5,RK]];have k5' : ¬ c.fKind=6:=by omega
    cases hb:pl c with
    | false=>rw[Br rfl,Br (by simp[k5]),hpl0 hb]
    | true=>
     have hn0:=PX hb;rw[Bw rfl,Bu (by omega) (by omega),Jd];unfold Iz;obtain⟨o,ho1,ho2⟩:=EN (F:=F) ⟨hM,hvM,by omega,hA.hc⟩ hcN F (i+1) 0 (by omega) (by omega) (Int.le_refl 0) hn0 hg (by omega);rw[CX ho1,ho2,CX rfl,KB h0 hdr hb,RY k5',Int.sub_zero]
   rw[Br (by simp[k5])]
   by_cases k6:c.fKind=6
   ·have hp:pl c=(decide (c.fInt=0)&&(decide (c.fStr=[])&&decide (0≤c.fN))):=by simp[pl,k6]
    rw[show(decide (c.fKind=6)&&(decide (c.fInt=0)&&(decide (c.fStr=[])&&decide (0≤c.fN))))=pl c from by rw[hp,Sh k6,RK]]
    cases hb:pl c with
    | false=>rw[Br rfl,hpl0 hb]
    | true=>
     have hn0:=PX hb;rw[Bw rfl,Bu (by omega) (by omega),N2];unfold LH;obtain⟨o,ho1,ho2⟩:=Iy (F:=F) ⟨hM,hvM,by omega,hA.hc⟩ hcN F (i+1) 0 [] (by omega) (by omega) (Int.le_refl 0) hn0 hg (by omega);rw[CX ho1,ho2,CX rfl,KB h0 hdr hb,Sh k6,Int.sub_zero];rfl
   ·rw[Br (by simp[k6]),hpl0 (by simp[pl,k1,k2,k3,k4,k5,k6])]
end
structure MX (M:Nat) (v:List Ap):Prop where
 hM:M≤1000000000
 hv:v.length≤M
 hc:∀c∈v,c.fStr.length≤M∧Ce .i64 c.fInt=true∧c.fN≤9223372036854775807
theorem MX.rf {M F:Nat}{v:List Ap}(h:MX M v)(hF:M<F):QS F M v:=⟨by have:=h.hM;omega,h.hv,hF,λc hc=>(h.hc c hc).1⟩
theorem MX.drop {M:Nat}{v:List Ap}(h:MX M v)(k:Nat):MX M (v.drop k):=⟨h.hM,by have:=h.hv;rw[List.length_drop];omega,λc hc=>h.hc c (List.mem_of_mem_drop hc)⟩
theorem MX.take {M:Nat}{v:List Ap}(h:MX M v)(k:Nat):MX M (v.take k):=⟨h.hM,by have:=h.hv;rw[List.length_take];omega,λc hc=>h.hc c (List.mem_of_mem_take hc)⟩
def whole (v:List Ap):Option Fo:=match HC v with
 | some (f,[])=>some f
 | _=>none
section
variable {M : Nat} {v : List Ap}
theorem MX.next (hA:MX M v){F:Nat}(hF:3*M+3<F){p:Int}(h0:0≤p)(h1:p≤v.length):Jc F v p=some (EQ v p):=by
 have hM:=hA.hM;have hvM:=hA.hv;exact N4 (hA.rf (Sg M)) (λc hc=>(hA.hc c hc).2.2) (v.length-p.toNat) F p h0 h1 rfl (by omega)
end
section
variable {M : Nat} {v : List Ap}
end
section
variable {M : Nat} {v : List Ap}
theorem OR {α:Type}[Inhabited α](a:α):ov (some a)=a:=rfl
end
section
variable {M : Nat}
end
section
variable {M : Nat}
end
def Ny (v:List Ap):Bool:=!decide (300<v.length)&&v.all λc=>!decide (300<c.fStr.length)
def NG (c:Ap):Bool:=Ce .i64 c.fKind&&Ce .i64 c.fInt&&Ov c.fStr&&Ce .i64 c.fN
theorem MX.of {v:List Ap}(hs:Ny v=true)(hc:v.all NG=true):MX 300 v:=by
 unfold Ny at hs;simp only[RC,Se,R6,RS] at hs hc;refine⟨by decide,by omega,λc h=>?_⟩;obtain h1:=hs.2 c h;obtain h2:=hc c h;unfold NG at h2;simp only[RC] at h2;exact⟨by omega,h2.1.1.2,(HT h2.2).2⟩
theorem Qn (a:Bool):imp a true=true:=by cases a<;>rfl
section
variable {M : Nat}
end
theorem OX {α:Type}{l:List α}{body:Int→Option (Stp Int (Out Bool Unit))}{bad:α→Bool}(hb:∀(i:Nat) (h:i<l.length),body (i:Int)=some (bif bad l[i] then .out (.ret false) else .next ((i:Int)+1)))(he:body (l.length:Int)=some (.out (.go ()))) :
  ∀(d n i:Nat),i+d=l.length→d<n→∃o,Dv body n (i:Int)=some o∧∀k:Option Bool,BW (λ_=>k) o=bif (l.drop i).any bad then some false else k:=by
 intro d
 induction d with
 | zero=>
  intro n i h hn;obtain⟨n,rfl⟩:∃m,n=m+1:=⟨n-1,by omega⟩
  obtain rfl:i=l.length:=by omega
  refine⟨.go (),by rw[Dv,he],λk=>?_⟩;rw[List.drop_length];rfl
 | succ d ih=>
  intro n i h hn;obtain⟨n,rfl⟩:∃m,n=m+1:=⟨n-1,by omega⟩
  have hi:i<l.length:=by omega
  have hd:=List.drop_eq_getElem_cons hi;have h1:=hb i hi
  cases hq:bad l[i] with
  | true=>
   rw[hq] at h1;refine⟨.ret false,by rw[Dv,h1];rfl,λk=>?_⟩;rw[hd,List.any_cons,hq];rfl
  | false=>
   rw[hq] at h1;obtain⟨o,h2,h3⟩:=ih n (i+1) (by omega) (by omega);refine⟨o,by rw[Dv,h1];exact h2,λk=>?_⟩;rw[h3 k,hd,List.any_cons,hq,RG]
theorem I1 {α:Type}{l:List α}{body:Int→Option (Stp Int (Out Bool Unit))}{bad:α→Bool}{F:Nat}(hF:l.length<F)(hb:∀(i:Nat) (h:i<l.length),body (i:Int)=some (bif bad l[i] then .out (.ret false) else .next ((i:Int)+1)))(he:body (l.length:Int)=some (.out (.go ())))(k:Option Bool) :
  BN (Dv body F 0) (BW λ_=>k)=bif l.any bad then some false else k:=by
 obtain⟨o,h1,h2⟩:=OX hb he l.length F 0 (by omega) hF;have h1':Dv body F 0=some o:=h1;rw[CX h1',h2 k,List.drop_zero]
theorem D0 {α:Type}(n:Nat)(f:List α):decide (((n:Nat):Int)<(f.length:Int))=decide (n<f.length):=by rw[Sj];simp
theorem Om {α:Type}[Inhabited α]{l:List α}{i:Nat}(h:i<l.length):Ab l (i:Int)=l[i]:=by simp[Ab,h]
def MN (e:A4):Bool:=decide (300<e.fID.length)||(decide (300<e.fTenant.length)||(decide (300<e.fSource.length)||(decide (300<e.fKey.length)||(decide (300<e.fCause.length)||decide (300<e.fBody.length)))))
def Gy (e:A4):Bool:=!MN e&&!e.fBody.any λc=>decide (5000<c.fStr.length)
theorem Ix {F:Nat}(hF:300<F)(e:A4):B6 F e=some (Gy e):=by
 unfold B6 Gy;have hbig:((decide (300<(e.fID.length:Int)))||((decide (300<(e.fTenant.length:Int)))||((decide (300<(e.fSource.length:Int)))||((decide (300<(e.fKey.length:Int)))||((decide (300<(e.fCause.length:Int)))||(decide (300<(e.fBody.length:Int))))))))=MN e:=by
  unfold MN;rw[← D0 300 e.fID,← D0 300 e.fTenant,← D0 300 e.fSource,← D0 300 e.fKey,← D0 300 e.fCause,← D0 300 e.fBody];rfl
 rw[hbig]
 cases hb:MN e with
 | true=>rfl
 | false=>
  have hl:e.fBody.length≤300:=by
   unfold MN at hb;simp only[Si,R6] at hb;omega
  have h:=I1 (l:=e.fBody) (F:=F) (body:=λσ=>BH e σ) (bad:=λc=>decide (5000<c.fStr.length)) (by omega) (λi h=>by
   unfold BH;rw[Bw (Sh (by omega)),Dj (by omega) (by omega),Om h,Bu (by omega) (by omega)];have:=D0 5000 (e.fBody[i]).fStr;rw[show decide ((5000:Int)<((e.fBody[i]).fStr.length:Int))=decide (5000<(e.fBody[i]).fStr.length) from this]
   cases decide (5000<(e.fBody[i]).fStr.length)<;>rfl) (by unfold BH;rw[Br (RY (by omega))]) (some true)
  rw[Br rfl];exact h.trans (by cases e.fBody.any _<;>rfl)
def GL (o:AO):Bool:=!Gy o.fEvent||decide (300<o.fReceipt.length)
def DZ (l:List AO):Bool:=!decide (300<l.length)&&!l.any GL
theorem KG {F:Nat}(hF:300<F)(l:List AO):E3 F l=some (DZ l):=by
 unfold E3 DZ;rw[show decide ((300:Int)<(l.length:Int))=decide (300<l.length) from D0 300 l]
 cases hb:decide (300<l.length) with
 | true=>rfl
 | false=>
  simp only[R6] at hb;have h:=I1 (l:=l) (F:=F) (body:=λσ=>Cm F l σ) (bad:=GL) (by omega) (λi h=>by
   unfold Cm;rw[Bw (Sh (by omega)),Dj (by omega) (by omega),Om h,Ix hF,Option.isSome_some,CV rfl,Bu (by omega) (by omega),show decide ((300:Int)<((l[i]).fReceipt.length:Int))=decide (300<(l[i]).fReceipt.length) from D0 300 _];have:((!(ov (some (Gy (l[i]).fEvent))))||(decide (300<((l[i]).fReceipt).length)))=GL l[i]:=rfl;rw[this]
   cases GL l[i]<;>rfl) (by unfold Cm;rw[Br (RY (by omega))]) (some true)
  rw[Br rfl];exact h.trans (by cases l.any _<;>rfl)
theorem Kw {o:AO}(h:GL o=false):o.fEvent.fBody.length≤300:=by
 unfold GL Gy MN at h;simp only[Si,Bool.not_eq_false',RC,Se,R6] at h;omega
theorem Lq {F:Nat}{a:List Ap}(hF:a.length<F)(ha:a.length≤1000000000):H5 F a a=some true:=by
 unfold H5;rw[Br (by simp)];have h:=I1 (l:=a) (F:=F) (body:=λσ=>D5 a a σ) (bad:=λ_=>false) hF (λi h=>by
  unfold D5;rw[Bw (Sh (by omega)),Dj (by omega) (by omega),Dj (by omega) (by omega),Bu (by omega) (by omega)];simp[BF]) (by unfold D5;rw[Br (RY (by omega))]) (some true)
 rw[show a.any (λ_=>false)=false from by simp] at h;exact h
theorem G1 {F:Nat}{e:A4}(hF:e.fBody.length<F)(he:e.fBody.length≤1000000000):Dh F e e=some true:=by
 unfold Dh;rw[Lq hF he];simp only[decide_true,Option.isSome_some,Qn,CV,OR,Bool.and_self]
theorem KI:E4 4000=some true:=by decide +kernel
theorem NK {o:AO}(ho:GL o=false):D8 4000 o=some true:=by
 have hl:=Kw ho;unfold D8;rw[G1 (by omega) (by omega)];rfl
theorem M7 {o:AO}(ho:GL o=false):Dr 4000 o=some true:=by
 have hl:=Kw ho;unfold Dr;rw[G1 (by omega) (by omega)];rfl
theorem MF (o:AO):KH 4000 o=some true:=by
 unfold KH;rw[KG (by omega),CX rfl,KI]
 cases hb:GL o with
 | true=>
  have:DZ [o]=false:=by unfold DZ;simp[hb]
  rw[this];rfl
 | false=>
  have:DZ [o]=true:=by unfold DZ;simp[hb]
  rw[this,NK hb,M7 hb];rfl
end Go.Proofs.YthbbedliepkakaaGreatDoor
namespace Go.Proofs.YthbbedliepkakaaGreatDoor.lawQueueNil
open Go
set_option linter.unusedVariables false
theorem Rt:R3:=λo _=>⟨4000,MF o⟩
end Go.Proofs.YthbbedliepkakaaGreatDoor.lawQueueNil
