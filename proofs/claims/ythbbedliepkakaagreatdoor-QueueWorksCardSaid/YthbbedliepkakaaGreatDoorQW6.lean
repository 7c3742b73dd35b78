/-
  Texts of the proof, put together: LvF, LvG, LvH, LvI, LvJ, LvK, LvL, LvM, LvN, LvO, LvP, LuA, PN, PO, LuB, LuC, LuD, LuE, LuF, LuG, LuH, LuI, LuJ, LuL, LuM, LuN, LuO, LuP, LuQ, LqA, LqB, LqC, LqD, LqE, LqF, LuR, LuK, LuS, LqG, LwQWorks.
-/
import Derived.Test.YthbbedliepkakaaGreatDoorQW5
namespace Go.Proofs.YthbbedliepkakaaGreatDoor
open Go
set_option linter.unusedVariables false
set_option linter.unusedSimpArgs false
def It (m:Bool)(last:Option AE)(xs:List Au):Option (Option AE×List Au):=
 bif m then match xs with
  | []=>none
  | c::r=>bif pl c&&decide (c.fKind=4)&&CV true last (some c.fStr) then some (some c.fStr,r) else none
 else some (none,xs)
def Ie:Nat→Bool→Option AE→Nat→List Au→Option (Fo×List Au)
 | 0,_,_,_,_=>none
 | _+1,_,_,0,xs=>some (.nil,xs)
 | F+1,m,last,k+1,xs=>
  match It m last xs with
  | none=>none
  | some (_,[])=>none
  | some (key,c::xs')=>
   bif !pl c then none else
   bif decide (0<c.fN) then
    match Ie F (decide (c.fKind=6)) none c.fN.toNat xs' with
    | none=>none
    | some (kids,ys)=>match Ie F m key k ys with
     | none=>none
     | some (r,zs)=>some (.node key c kids r,zs)
   else match Ie F m key k xs' with
    | none=>none
    | some (r,zs)=>some (.cell key c r,zs)
theorem O7 {c:Au}(hp:pl c=true)(hk:c.fKind=4):c=⟨4,0,c.fStr,0⟩∧c.fStr.all V5=true:=by
 cases c
 simp only at hk;subst hk;simp[pl] at hp;obtain⟨h1,h2,h3⟩:=hp;subst h1;subst h2;exact⟨rfl,by simpa using h3⟩
theorem Mk {m:Bool}{last key:Option AE}{xs r:List Au}(h:It m last xs=some (key,r)):xs=BV key++r∧CV m last key=true:=by
 unfold It at h
 cases m with
 | false=>cases h;exact⟨rfl,rfl⟩
 | true=>
  simp only[Zl] at h
  cases xs with
  | nil=>cases h
  | cons c r'=>
   simp only at h
   cases hb:(pl c&&decide (c.fKind=4)&&CV true last (some c.fStr)) with
   | false=>rw[hb] at h;cases h
   | true=>
    rw[hb] at h;simp only[Zd,Za] at hb
    cases h
    exact⟨by rw[(O7 hb.1.1 hb.1.2).1];rfl,hb.2⟩
theorem HC:∀(F:Nat) (m:Bool) (last:Option AE) (k:Nat) (xs:List Au) (f:Fo) (ys:List Au),Ie F m last k xs=some (f,ys)→xs=f.flat++ys∧f.wf m last=true∧f.cnt=k
 | 0,_,_,_,_,_,_,h=>by cases h
 | F+1,m,last,0,xs,f,ys,h=>by cases h;exact⟨rfl,rfl,rfl⟩
 | F+1,m,last,k+1,xs,f,ys,h=>by
  rw[Ie] at h
  cases hk:It m last xs with
  | none=>rw[hk] at h;cases h
  | some p=>
   obtain⟨key,r⟩:=p;obtain⟨h1,h2⟩:=Mk hk;rw[hk] at h
   cases r with
   | nil=>cases h
   | cons c xs'=>
    simp only at h
    cases hp:pl c with
    | false=>rw[hp] at h;cases h
    | true=>
     rw[hp] at h;simp only[Zi,Zh] at h
     cases hn:decide (0<c.fN) with
     | true=>
      rw[hn] at h;simp only[Zl] at h
      cases hq:Ie F (decide (c.fKind=6)) none c.fN.toNat xs' with
      | none=>rw[hq] at h;cases h
      | some q=>
       obtain⟨kids,zs⟩:=q;rw[hq] at h;simp only at h
       cases hr:Ie F m key k zs with
       | none=>rw[hr] at h;cases h
       | some q2=>
        obtain⟨r2,us⟩:=q2;rw[hr] at h;cases h;obtain⟨a1,a2,a3⟩:=HC F _ _ _ _ _ _ hq;obtain⟨b1,b2,b3⟩:=HC F _ _ _ _ _ _ hr;refine⟨by rw[h1,a1,b1];simp[Fo.flat],?_,by simp[Fo.cnt,b3]⟩;simp only[Za] at hn;simp only[Fo.wf,h2,hp,a2,b2,Zx,Zr,Zd,Za];omega
     | false=>
      rw[hn] at h;simp only[Zh] at h
      cases hr:Ie F m key k xs' with
      | none=>rw[hr] at h;cases h
      | some q2=>
       obtain⟨r2,us⟩:=q2;rw[hr] at h;cases h;obtain⟨b1,b2,b3⟩:=HC F _ _ _ _ _ _ hr;exact⟨by rw[h1,b1];simp[Fo.flat],by simp[Fo.wf,h2,hp,b2,hn],by simp[Fo.cnt,b3]⟩
theorem HT:∀(F F':Nat) (m:Bool) (last:Option AE) (k:Nat) (xs:List Au),xs.length<F→xs.length<F'→Ie F m last k xs=Ie F' m last k xs
 | 0,_,_,_,_,_,h,_=>by omega
 | _+1,0,_,_,_,_,_,h=>by omega
 | F+1,F'+1,m,last,0,xs,_,_=>rfl
 | F+1,F'+1,m,last,k+1,xs,h,h'=>by
  rw[Ie,Ie]
  cases hk:It m last xs with
  | none=>rfl
  | some p=>
   obtain⟨key,r⟩:=p;obtain⟨h1,h2⟩:=Mk hk
   cases r with
   | nil=>rfl
   | cons c xs'=>
    have hl:xs'.length<xs.length:=by rw[h1];simp;omega
    simp only
    cases hp:pl c with
    | false=>rfl
    | true=>
     simp only[Zi,Zh]
     cases hn:decide (0<c.fN) with
     | true=>
      simp only[Zl];rw[HT F F' _ _ _ xs' (by omega) (by omega)]
      cases hq:Ie F' (decide (c.fKind=6)) none c.fN.toNat xs' with
      | none=>rfl
      | some q=>
       obtain⟨kids,zs⟩:=q;have:=(HC _ _ _ _ _ _ _ hq).1;have hz:zs.length≤xs'.length:=by rw[this];simp
       simp only;rw[HT F F' m key k zs (by omega) (by omega)]
     | false=>
      simp only[Zh];rw[HT F F' m key k xs' (by omega) (by omega)]
def Ru {S:Type}(body:S→Option (Stp S Xa))(s:S):Prop:=∃sh',Fin body s (.ret (0,sh',false))∨Fin body s (.go sh')
theorem E8.bad {S:Type}{body:S→Option (Stp S Xa)}{s t:S}(h:E8 body s t)(h':Ru body t):Ru body s:=by
 obtain⟨sh',h' | h'⟩:=h'
 ·exact⟨sh',.inl (h.fin h')⟩
 ·exact⟨sh',.inr (h.fin h')⟩
section
variable {F M : Nat} {v : List Au}
theorem Ru.end_ {S:List AF}{i:Int}{sh:AS}(h0:0≤i)(h:v.drop i.toNat=[]):Ru (Qa F v) (S.reverse,i,sh):=by
 refine⟨sh,.inr (Fin.step ?_)⟩;show Eb F v S.reverse i sh=_;unfold Eb;rw[AH];have:v.length≤i.toNat:=by simpa using h
 simp;omega
theorem Ru.pl_ (hA:Sn F M v){S:List AF}{i:Int}{sh:AS}{c:Au}{r:List Au}(h0:0≤i)(h:v.drop i.toNat=c::r)(hS:(S.length:Int)≤i)(hb:Ei S)(hp:pl c=false):Ru (Qa F v) (S.reverse,i,sh):=by
 refine⟨sh,.inl (Fin.step ?_)⟩;rw[round hA h0 h hS hb];simp[Q0,hp]
theorem Rr (hA:Sn F M v):∀(P:Nat) (k:Nat) (e:AF) (S:List AF) (i:Int) (sh:AS) (last:Option AE) (xs:List Au),xs.length<P→Ie P e.fPairs last (k+1) xs=none→e.fKey=e.fPairs→e.fLeft=(k:Int)+1→(k:Int)+1≤9223372036854775807→Ja e last→(e.fPairs=false→last=none)→v.drop i.toNat=xs→0≤i→(S.length:Int)+1≤i→Ei S→
  Ru (Qa F v) ((e::S).reverse,i,sh):=by
 intro P
 induction P with
 | zero=>intro k e S i sh last xs h;omega
 | succ P ih=>
  intro k e S i sh last xs hP hn hk hl hkm hlo hm hv h0 hS hb;have hb':Ei (e::S):=λx hx=>by
   rcases List.mem_cons.1 hx with rfl | hx
   ·constructor<;>omega
   ·exact hb x hx
  rw[Ie] at hn
  cases hq:It e.fPairs last xs with
  | none=>
   unfold It at hq
   cases hpr:e.fPairs with
   | false=>rw[hpr] at hq;cases hq
   | true=>
    rw[hpr] at hq hk;simp only[Zl] at hq
    cases xs with
    | nil=>exact Ru.end_ h0 hv
    | cons c r=>
     simp only at hq
     cases hp:pl c with
     | false=>exact Ru.pl_ hA h0 hv (by simpa using hS) hb' hp
     | true=>
      refine⟨sh,.inl (Fin.step ?_)⟩;rw[round hA h0 hv (by simpa using hS) hb'];have ht:(!decide (c.fKind=4)||(e.fStarted&&(Cz c.fStr e.fLast||decide (c.fStr=e.fLast))))=true:=by
       rw[hp] at hq
       cases h4:decide (c.fKind=4) with
       | false=>rfl
       | true=>
        rw[h4] at hq;simp only[Bool.and_self,Zr] at hq;have hok:=(O7 hp (by simpa using h4)).2
        cases last with
        | none=>simp[CV,hok] at hq
        | some p=>
         obtain⟨q1,q2⟩:=hlo;rw[q1,q2]
         cases hc:(Cz c.fStr p||decide (c.fStr=p)) with
         | true=>rfl
         | false=>simp[CV,hok,hc] at hq
      simp only[Q0,hp,hk,ht,Zi,Zh,Zl]
  | some q=>
   obtain⟨key,r⟩:=q;obtain⟨h1,h2⟩:=Mk hq;rw[hq] at hn;have hkr:=Nc (sh:=sh) hA h0 (by rw[hv];exact h1) hS hb' (by rw[hk];exact h2) hlo;have hv1:=D4 h0 (hv.trans h1);obtain⟨kl,kp⟩:=Ka (e:=e) key;obtain⟨q1,q2⟩:=Kb hlo hm h2;have hbk:Ei (GL e key::S):=λx hx=>by
    rcases List.mem_cons.1 hx with rfl | hx
    ·rw[kl];exact hb' e (by simp)
    ·exact hb x hx
   refine hkr.bad ?_
   cases r with
   | nil=>exact Ru.end_ (by omega) hv1
   | cons c xs'=>
    have hlen:xs'.length+1≤xs.length:=by rw[h1];simp
    have hvl:xs.length≤v.length:=by rw[← hv,ZX];omega
    have hvM:=hA.hv;have hMM:=hA.hM;have hkk:=L0 (e:=e) (last:=last) (k:=key) (by rw[hk];exact h2);simp only at hn;have hSk:(((GL e key::S).length:Nat):Int)≤i+(BV key).length:=by simp only[Zj];omega
    cases hp:pl c with
    | false=>exact Ru.pl_ hA (by omega) hv1 hSk hbk hp
    | true=>
     rw[hp] at hn;simp only[Zi,Zh] at hn;obtain⟨g1,g2,g3⟩:=Co (by omega) hv1;have hcN:=(hA.hc c (Zk g1)).2.2;have more:∀(s:Pc) (j:Int) (sh':AS) (zs:List Au),HH (Qa F v) s (GL e key::S) j sh'→v.drop j.toNat=zs→zs.length<P→0≤j→(S.length:Int)+1≤j→Ie P e.fPairs key k zs=none→Ru (Qa F v) s:=λs j sh' zs hd hz hzl hj hSj hnone=>by
      cases k with
      | zero=>
       cases P with
       | zero=>omega
       | succ P=>cases hnone
      | succ k=>
       have:=hd.more (by rw[kl];omega);refine this.bad (ih k _ S j sh' key zs hzl (by rw[kp];exact hnone) rfl (by simp only[kl];omega) (by omega) ?_ (by simpa using q2) hz hj hSj hb)
       cases key with
       | none=>exact q1
       | some p=>exact q1
     cases hN:decide (0<c.fN) with
     | true=>
      rw[hN] at hn;simp only[Zl] at hn;simp only[Za] at hN
      by_cases hbig:c.fN≤v.length
      ·have hnd:=Jy (sh:=LG key sh) hA (by omega) hv1 hSk hbk (by simpa[L2] using hkk) hp (by simpa using hN) hbig;refine hnd.bad ?_
       cases hks:Ie P (decide (c.fKind=6)) none c.fN.toNat xs' with
       | none=>
        obtain⟨n',hn'⟩:∃n',c.fN.toNat=n'+1:=⟨c.fN.toNat-1,by omega⟩
        rw[hn'] at hks;exact ih n' _ _ _ _ none xs' (by omega) hks rfl (by simp only;omega) (by omega) rfl (λ_=>rfl) g2 (by omega) (by simp only[Zj];omega) hbk
       | some q=>
        obtain⟨kids,zs⟩:=q;rw[hks] at hn;simp only at hn;have hn2:Ie P e.fPairs key k zs=none:=by
         cases hz:Ie P e.fPairs key k zs with
         | none=>rfl
         | some q=>rw[hz] at hn;cases hn
        obtain⟨a1,a2,a3⟩:=HC _ _ _ _ _ _ _ hks;have hd:=LN hA kids ⟨decide (c.fKind=6),c.fN,decide (c.fKind=6),[],false⟩ (GL e key::S) (i+(BV key).length+1) (IA (S.length+1) (LG key sh) c) none zs (by omega) a2 rfl (by simp only;omega) rfl (λ_=>rfl) (by rw[g2];exact a1) (by omega) (by simp only[Zj];omega) hbk;have hz:v.drop (i+(BV key).length+1+kids.flat.length).toNat=zs:=D4 (by omega) (g2.trans a1);have hzl:zs.length≤xs'.length:=by rw[a1];simp
        exact more _ _ _ zs hd hz (by omega) (by omega) (by omega) hn2
      ·refine⟨IA (GL e key::S).length (LG key sh) c,.inl (Fin.step ?_)⟩;rw[round hA (by omega) hv1 hSk hbk];have hbig':decide ((v.length:Int)<c.fN)=true:=by simpa using hbig
       simp only[Q0,hp,hkk,hbig',hN,Zi,Zh,Zl,decide_true]
     | false=>
      rw[hN] at hn;simp only[Zh] at hn;have hn2:Ie P e.fPairs key k xs'=none:=by
       cases hz:Ie P e.fPairs key k xs' with
       | none=>rfl
       | some q=>rw[hz] at hn;cases hn
      have hd:=Lz (sh:=LG key sh) hA (by omega) hv1 hSk hbk (by simpa[L2] using hkk) hp hN;exact more _ _ _ xs' hd g2 (by omega) (by omega) (by omega) hn2
def HV (xs:List Au):Option (Fo×List Au):=Ie (xs.length+1) false none 1 xs
theorem RJ {P:Nat}{xs ys:List Au}{f:Fo}(h:Ie P false none 1 xs=some (f,ys)):f.one=true:=by
 obtain⟨h1,h2,h3⟩:=HC _ _ _ _ _ _ _ h
 cases f with
 | nil=>cases h3
 | cell k c r=>
  cases r with
  | nil=>
   cases k with
   | none=>rfl
   | some s=>simp[Fo.wf,CV] at h2
  | cell _ _ _=>simp[Fo.cnt] at h3
  | node _ _ _ _=>simp[Fo.cnt] at h3
 | node k c kids r=>
  cases r with
  | nil=>
   cases k with
   | none=>rfl
   | some s=>simp[Fo.wf,CV] at h2
  | cell _ _ _=>simp[Fo.cnt] at h3
  | node _ _ _ _=>simp[Fo.cnt] at h3
theorem Tr (hA:Sn F M v)(h:HV v=none):Ru (Qa F v) ([],0,Ns):=by
 have hlf:Ei []:=λx hx=>by cases hx
 unfold HV at h;rw[Ie] at h;simp only[It,Zh] at h
 cases v with
 | nil=>exact Ru.end_ (S:=[]) (ZF 0) rfl
 | cons c xs'=>
  have hv1:(c::xs').drop (0:Int).toNat=c::xs':=rfl;have hvM:=hA.hv;have hMM:=hA.hM;simp only at h
  cases hp:pl c with
  | false=>exact Ru.pl_ (S:=[]) hA (ZF 0) hv1 (by simp) hlf hp
  | true=>
   rw[hp] at h;simp only[Zi,Zh] at h;have hcN:=(hA.hc c (by simp)).2.2
   cases hN:decide (0<c.fN) with
   | true=>
    rw[hN] at h;simp only[Zl] at h;simp only[Za] at hN
    by_cases hbig:c.fN≤(c::xs').length
    ·have hnd:=Jy (S:=[]) (sh:=Ns) hA (ZF 0) hv1 (by simp) hlf rfl hp (by simpa using hN) hbig;refine hnd.bad ?_
     cases hks:Ie (c::xs').length (decide (c.fKind=6)) none c.fN.toNat xs' with
     | none=>
      obtain⟨n',hn'⟩:∃n',c.fN.toNat=n'+1:=⟨c.fN.toNat-1,by omega⟩
      rw[hn'] at hks;exact Rr hA (c::xs').length n' ⟨decide (c.fKind=6),c.fN,decide (c.fKind=6),[],false⟩ [] (0+1) _ none xs' (by simp) hks rfl (by simp only;omega) (by omega) rfl (λ_=>rfl) rfl (by omega) (by simp) hlf
     | some q=>rw[hks] at h;cases h
    ·refine⟨IA 0 Ns c,.inl (Fin.step ?_)⟩;rw[show Qa F (c::xs') (([]:List AF),0,Ns)=_ from round (S:=[]) hA (ZF 0) hv1 (by simp) hlf];have hbig':decide (((c::xs').length:Int)<c.fN)=true:=by simpa using hbig
     simp only[Q0,hp,hbig',hN,Zi,Zh,Zl,decide_true]
   | false=>rw[hN] at h;cases h
theorem Wm (hA:Sn F M v):(∃f ys,HV v=some (f,ys)∧Kw F v=some ((f.flat.length:Int),f.sh 0 Ns,true))∨(HV v=none∧∃sh',Kw F v=some (0,sh',false)):=by
 cases h:HV v with
 | some q=>
  obtain⟨f,ys⟩:=q;obtain⟨h1,h2,h3⟩:=HC _ _ _ _ _ _ _ h;exact .inl ⟨f,ys,rfl,UN hA (RJ h) h2 h1⟩
 | none=>
  refine .inr ⟨rfl,?_⟩;obtain⟨o,ho,_⟩:=MZ hA;obtain⟨sh',hb | hb⟩:=Tr hA h
  ·have e:=hb.eq ho;subst e;exact⟨sh',by unfold Kw;rw[AZ ho];rfl⟩
  ·have e:=hb.eq ho;subst e;exact⟨sh',by unfold Kw;rw[AZ ho];rfl⟩
end
theorem Jk {x:Int}(h : -9223372036854775808≤x)(h':x≤9223372036854775807):IntKind.wrap .i64 x=x:=by
 simp only[IntKind.wrap,IntKind.bits,IntKind.signed];simp;omega
def Fo.dep:Fo→Nat
 | .nil=>0
 | .cell _ _ r=>max 1 r.dep
 | .node _ _ kids r=>max (kids.dep+1) r.dep
theorem GU (k:Option AE)(s:AS):(LG k s).fDepth=s.fDepth∧(LG k s).fOutside=s.fOutside∧(LG k s).fLong=(s.fLong||(BV k).any λc=>decide (200<(c.fStr.length:Int))):=by
 cases k with
 | none=>simp[LG,BV]
 | some x=>simp[LG,XW,BV]
theorem K5:∀(f:Fo) (d:Nat) (s:AS),(d:Int)≤s.fDepth→(f.sh d s).fDepth=max s.fDepth ((d:Int)+f.dep)
 | .nil,d,s,h=>by simp only[Fo.sh,Fo.dep];omega
 | .cell k c r,d,s,h=>by
  have hk:=(GU k s).1;have e:(IA d (LG k s) c).fDepth=max s.fDepth ((d:Int)+1):=by rw[IA,hk]
  rw[Fo.sh,K5 r d _ (by rw[e];omega),e,Fo.dep];omega
 | .node k c kids r,d,s,h=>by
  have hk:=(GU k s).1;have e:(IA d (LG k s) c).fDepth=max s.fDepth ((d:Int)+1):=by rw[IA,hk]
  have e2:=K5 kids (d+1) (IA d (LG k s) c) (by rw[e];omega);rw[e] at e2;rw[Fo.sh,K5 r d _ (by rw[e2];omega),e2,Fo.dep];omega
def J5 (c:Au):Bool:=decide (c.fKind=3)&&!(decide ((-1000000000000)≤c.fInt)&&decide (c.fInt≤1000000000000))
def I6 (c:Au):Bool:=decide (200<(c.fStr.length:Int))
theorem Qe (k:Option AE):(BV k).any J5=false:=by cases k<;>simp[BV,J5]
theorem Oy:∀(f:Fo) (d:Nat) (s:AS),(f.sh d s).fOutside=(s.fOutside||f.flat.any J5)
 | .nil,d,s=>by simp[Fo.sh,Fo.flat]
 | .cell k c r,d,s=>by
  rw[Fo.sh,Oy r,IA,(GU k s).2.1];simp only[Fo.flat,List.any_append,List.any_cons,Qe,Zn,Bool.or_assoc];rfl
 | .node k c kids r,d,s=>by
  rw[Fo.sh,Oy r,Oy kids,IA,(GU k s).2.1];simp only[Fo.flat,List.any_append,List.any_cons,Qe,Zn,Bool.or_assoc];rfl
theorem Mf:∀(f:Fo) (d:Nat) (s:AS),(f.sh d s).fLong=(s.fLong||f.flat.any I6)
 | .nil,d,s=>by simp[Fo.sh,Fo.flat]
 | .cell k c r,d,s=>by
  rw[Fo.sh,Mf r,IA,(GU k s).2.2];simp only[Fo.flat,List.any_append,List.any_cons,Bool.or_assoc];rfl
 | .node k c kids r,d,s=>by
  rw[Fo.sh,Mf r,Mf kids,IA,(GU k s).2.2];simp only[Fo.flat,List.any_append,List.any_cons,Bool.or_assoc];rfl
def V7 (c:Au):Int:=
 bif decide (c.fKind=1) then 4 else bif decide (c.fKind=2) then 5-c.fInt else bif decide (c.fKind=3) then((Lib.itoa c.fInt).length:Int) else
 bif decide (c.fKind=4) then Lt c.fStr else 2
def OE:Option AE→Int
 | none=>0
 | some s=>Lt s+1
def Fo.byt:Fo→Int
 | .nil=>0
 | .cell k c r=>OE k+V7 c+r.byt
 | .node k c kids r=>OE k+(c.fN+1)+kids.byt+r.byt
theorem MS (s:AE):2≤Lt s:=by unfold Lt;omega
theorem Mq (k:Option AE):0≤OE k:=by
 cases k with
 | none=>exact ZF 0
 | some s=>have:=MS s;simp only[OE];omega
theorem RT {c:Au}(hp:pl c=true):0≤V7 c:=by
 unfold V7
 cases h1:decide (c.fKind=1) with
 | true=>simp
 | false=>
  cases h2:decide (c.fKind=2) with
  | true=>
   simp[pl,h1,h2] at hp;simp only[Zh,Zl];omega
  | false=>
   cases h3:decide (c.fKind=3) with
   | true=>simp
   | false=>
    cases h4:decide (c.fKind=4) with
    | true=>have:=MS c.fStr;simp only[Zh,Zl];omega
    | false=>simp
theorem Wb {c:Au}(hp:pl c=true):0≤c.fN:=by
 simp only[pl,← Bool.decide_or] at hp
 cases h1:decide (c.fKind=1)<;>cases h2:decide (c.fKind=2)<;>cases h3:decide (c.fKind=3)<;>cases h4:decide (c.fKind=4)<;>cases h5:decide (c.fKind=5)<;>cases h6:decide (c.fKind=6)<;>simp[h1,h2,h3,h4,h5,h6] at hp<;>omega
theorem KF {c:Au}(hp:pl c=true)(hn:0<c.fN):(c.fKind=5∨c.fKind=6)∧c.fInt=0∧c.fStr=[]:=by
 cases h1:decide (c.fKind=1)<;>cases h2:decide (c.fKind=2)<;>cases h3:decide (c.fKind=3)<;>cases h4:decide (c.fKind=4)<;>cases h5:decide (c.fKind=5)<;>cases h6:decide (c.fKind=6)<;>simp[pl,h1,h2,h3,h4,h5,h6] at hp<;>(simp only[Za,YZ] at *;first | omega | exact⟨by omega,hp.1,hp.2.1⟩)
theorem TZ {c:Au}(hp:pl c=true)(hn:decide (0<c.fN)=false):Xl c=V7 c:=by
 have hN:=Wb hp;have h0:c.fN=0:=by simp only[YZ] at hn;omega
 unfold Xl V7;rw[h0]
 cases h1:decide (c.fKind=1) with
 | true=>rfl
 | false=>
  cases h2:decide (c.fKind=2) with
  | true=>
   simp[pl,h1,h2] at hp;simp only[Zh,Zl];exact Jk (by omega) (by omega)
  | false=>rfl
theorem TY {c:Au}(hp:pl c=true)(hn:0<c.fN)(hm:c.fN≤9223372036854775000):Xl c=c.fN+1:=by
 obtain⟨hk,_,_⟩:=KF hp hn;unfold Xl;rw[Ze (by omega),Ze (by omega),Ze (by omega),Ze (by omega)];simp only[Zh];rw[Jk (x:=c.fN-1) (by omega) (by omega),Jk (by omega) (by omega)];omega
theorem Iy:∀{f:Fo} {m:Bool} {l:Option AE},f.wf m l=true→0≤f.byt
 | .nil,_,_,_=>ZF 0
 | .cell k c r,m,l,h=>by
  simp only[Fo.wf,Zd] at h;have h1:=Iy h.2;have h2:=RT h.1.1.2;have h3:=Mq k;simp only[Fo.byt];omega
 | .node k c kids r,m,l,h=>by
  simp only[Fo.wf,Zd,Za] at h;have h1:=Iy h.2;have h2:=Iy h.1.2;have h3:=Mq k;simp only[Fo.byt];omega
theorem N9 (k:Option AE)(s:AS)(h0:0≤s.fBytes)(h:s.fBytes+OE k≤9223372036854775807):(LG k s).fBytes=s.fBytes+OE k:=by
 cases k with
 | none=>simp[LG,OE]
 | some x=>
  have:=MS x;simp only[OE] at h;simp only[LG,XW,OE];exact Jk (by omega) (by omega)
theorem K6:∀(f:Fo) (m:Bool) (l:Option AE) (d:Nat) (s:AS),f.wf m l=true→0≤s.fBytes→s.fBytes+f.byt≤9223372036854775000→(f.sh d s).fBytes=s.fBytes+f.byt
 | .nil,_,_,d,s,_,_,_=>by simp[Fo.sh,Fo.byt]
 | .cell k c r,m,l,d,s,hw,h0,h=>by
  simp only[Fo.wf,Zd,Zq] at hw;obtain⟨⟨⟨w1,w2⟩,w3⟩,w4⟩:=hw;have h1:=Iy w4;have h2:=RT w2;have h3:=Mq k;simp only[Fo.byt] at h;have e1:=N9 k s h0 (by omega);have e:(IA d (LG k s) c).fBytes=s.fBytes+OE k+V7 c:=by
   rw[IA,e1,TZ w2 w3];exact Jk (by omega) (by omega)
  rw[Fo.sh,K6 r _ _ d _ w4 (by rw[e];omega) (by rw[e];omega),e,Fo.byt];omega
 | .node k c kids r,m,l,d,s,hw,h0,h=>by
  simp only[Fo.wf,Zd,Za] at hw;obtain⟨⟨⟨⟨⟨w1,w2⟩,w3⟩,w5⟩,w6⟩,w4⟩:=hw;have h1:=Iy w4;have h2:=Iy w6;have h3:=Mq k;simp only[Fo.byt] at h;have e1:=N9 k s h0 (by omega);have e:(IA d (LG k s) c).fBytes=s.fBytes+OE k+(c.fN+1):=by
   rw[IA,e1,TY w2 w3 (by omega)];exact Jk (by omega) (by omega)
  have e2:=K6 kids _ _ (d+1) (IA d (LG k s) c) w6 (by rw[e];omega) (by rw[e];omega);rw[Fo.sh,K6 r _ _ d _ w4 (by rw[e2,e];omega) (by rw[e2,e];omega),e2,e,Fo.byt];omega
def Nh (s:AE):AE:=s.flatMap λc=>bif (decide (c=34)||decide (c=92)) then[92,c] else[c]
def JV (s:AE):AE:=34::(Nh s++[34])
theorem Ng:∀s:AE,(Nh s).length=s.length+s.count 34+s.count 92
 | []=>rfl
 | c::s=>by
  have ih:=Ng s;unfold Nh at ih ⊢;rw[List.flatMap_cons,Zs,ih]
  by_cases h1:c=34
  ·subst h1;simp;omega
  ·by_cases h2:c=92
   ·subst h2;simp;omega
   ·simp[h1,h2,List.count_cons];omega
theorem PL (s:AE):((JV s).length:Int)=Lt s:=by
 simp only[JV,Zj,Zs,Ng,ZM,Lt];omega
def LM (c:Au):AE:=
 bif decide (c.fKind=1) then[110,117,108,108] else
 bif decide (c.fKind=2) then(bif decide (c.fInt=1) then[116,114,117,101] else[102,97,108,115,101]) else
 bif decide (c.fKind=3) then Lib.itoa c.fInt else
 bif decide (c.fKind=4) then JV c.fStr else
 bif decide (c.fKind=6) then[123,125] else[91,93]
def NQ:Option AE→AE
 | none=>[]
 | some s=>JV s++[58]
def TJ (c:Au)(s:AE):AE:=bif decide (c.fKind=6) then 123::(s++[125]) else 91::(s++[93])
def HM (first:Bool):AE:=bif first then[] else[44]
def Fo.txt:Bool→Fo→AE
 | _,.nil=>[]
 | b,.cell k c r=>HM b++NQ k++LM c++r.txt false
 | b,.node k c kids r=>HM b++NQ k++TJ c (kids.txt true)++r.txt false
theorem RW (k:Option AE):((NQ k).length:Int)=OE k:=by
 cases k with
 | none=>rfl
 | some s=>simp only[NQ,Zs,OE,ZI];have:=PL s;omega
theorem Ts {c:Au}(hp:pl c=true):((LM c).length:Int)=V7 c:=by
  unfold LM V7
  cases h1:decide (c.fKind=1) with
  | true=>rfl
  | false=>
    cases h2:decide (c.fKind=2) with
    | true=>
      simp[pl,h1,h2] at hp;simp only[Zh,Zl]
      cases h7:decide (c.fInt=1) with
      | true=>simp only[Za] at h7;simp[h7]
      | false=>
                 simp only[YZ] at h7;have:c.fInt=0:=by omega
                 simp[this]
    | false=>
      cases h3:decide (c.fKind=3) with
      | true=>rfl
      | false=>
        cases h4:decide (c.fKind=4) with
        | true=>simpa using PL c.fStr
        | false=>cases h6:decide (c.fKind=6)<;>rfl
theorem OT (c:Au)(s:AE):(TJ c s).length=s.length+2:=by
 unfold TJ
 cases decide (c.fKind=6)<;>simp
theorem K4:∀(f:Fo) (m:Bool) (l:Option AE) (b:Bool),f.wf m l=true→((f.txt b).length:Int)=f.byt+(bif b then((f.cnt-1:Nat):Int) else(f.cnt:Int))
 | .nil,m,l,b,_=>by cases b<;>rfl
 | .cell k c r,m,l,b,hw=>by
  simp only[Fo.wf,Zd,Zq] at hw;obtain⟨⟨⟨w1,w2⟩,w3⟩,w4⟩:=hw;have ih:=K4 r _ _ false w4;have a:=RW k;have d:=Ts w2;simp only[Zh] at ih
  cases b<;>simp only[Fo.txt,Fo.byt,Fo.cnt,HM,Zl,Zh,Zs,ZM,ZI]<;>omega
 | .node k c kids r,m,l,b,hw=>by
  simp only[Fo.wf,Zd,Za] at hw;obtain⟨⟨⟨⟨⟨w1,w2⟩,w3⟩,w5⟩,w6⟩,w4⟩:=hw;have ih:=K4 r _ _ false w4;have ih2:=K4 kids _ _ true w6;have a:=RW k;have d:=OT c (kids.txt true);simp only[Zh,Zl] at ih ih2
  cases b<;>simp only[Fo.txt,Fo.byt,Fo.cnt,HM,Zl,Zh,Zs,ZM,ZI]<;>omega
def Fo.put (k:Option AE):Fo→Fo→Fo
 | .cell _ c _,r=>.cell k c r
 | .node _ c kids _,r=>.node k c kids r
 | .nil,_=>.nil
theorem U2 (P:Nat)(m:Bool)(last:Option AE)(k:Nat)(xs:List Au):Ie (P+2) m last (k+1) xs =
  match It m last xs with
  | none=>none
  | some (key,ys)=>match Ie (P+2) false none 1 ys with
   | none=>none
   | some (f,zs)=>match Ie (P+1) m key k zs with
    | none=>none
    | some (r,us)=>some (f.put key r,us):=by
 rw[Ie]
 cases hk:It m last xs with
 | none=>rfl
 | some p=>
  obtain⟨key,ys⟩:=p;simp only;rw[Ie];simp only[It,Zh]
  cases ys with
  | nil=>rfl
  | cons c ys=>
   simp only
   cases hp:pl c with
   | false=>rfl
   | true=>
    simp only[Zi,Zh]
    cases hn:decide (0<c.fN) with
    | true=>
     simp only[Zl]
     cases hq:Ie (P+1) (decide (c.fKind=6)) none c.fN.toNat ys with
     | none=>rfl
     | some q=>
      obtain⟨kids,zs⟩:=q;simp only[Ie]
      cases hr:Ie (P+1) m key k zs with
      | none=>rfl
      | some q=>obtain⟨a,b⟩:=q;rfl
    | false=>
     simp only[Zh,Ie]
     cases hr:Ie (P+1) m key k ys with
     | none=>rfl
     | some q=>obtain⟨a,b⟩:=q;rfl
def MT (m:Bool)(last:Option AE)(k:Nat)(xs:List Au):Option (Fo×List Au):=Ie (xs.length+1) m last k xs
theorem Lu (m:Bool)(last:Option AE)(xs:List Au):MT m last 0 xs=some (.nil,xs):=rfl
theorem GZ (m:Bool)(last:Option AE)(k:Nat)(xs:List Au):MT m last (k+1) xs =
  match It m last xs with
  | none=>none
  | some (key,ys)=>match HV ys with
   | none=>none
   | some (f,zs)=>match MT m key k zs with
    | none=>none
    | some (r,us)=>some (f.put key r,us):=by
 unfold MT HV;rw[HT (xs.length+1) (xs.length+2) m last (k+1) xs (by omega) (by omega),U2]
 cases hk:It m last xs with
 | none=>rfl
 | some p=>
  obtain⟨key,ys⟩:=p;have h1:=(Mk hk).1;have hy:ys.length≤xs.length:=by rw[h1];simp
  simp only;rw[HT (xs.length+2) (ys.length+1) false none 1 ys (by omega) (by omega)]
  cases hf:Ie (ys.length+1) false none 1 ys with
  | none=>rfl
  | some q=>
   obtain⟨f,zs⟩:=q;have h2:=(HC _ _ _ _ _ _ _ hf).1;have hz:zs.length≤ys.length:=by rw[h2];simp
   simp only;rw[HT (xs.length+1) (zs.length+1) m key k zs (by omega) (by omega)]
   all_goals (cases Ie (zs.length+1) m key k zs<;>rfl)
theorem NL {S O:Type}{body:S→Option (Stp S O)}{n:Nat}{s s':S}{o:O}(h:body s=some (.next s'))(h':BS body n s'=some o):BS body (n+1) s=some o:=by rw[BS,h];exact h'
theorem JJ {S O:Type}{body:S→Option (Stp S O)}{n:Nat}{s:S}{o:O}(h:body s=some (.out o)):BS body (n+1) s=some o:=by rw[BS,h]
theorem PN:HV []=none:=rfl
theorem HU (c:Au)(r:List Au):HV (c::r)=bif !pl c then none else bif decide (0<c.fN) then(match MT (decide (c.fKind=6)) none c.fN.toNat r with
  | none=>none
  | some (kids,zs)=>some (.node none c kids .nil,zs)) else some (.cell none c .nil,r):=by
 unfold HV;rw[Ie];simp only[It,Zh]
 cases hp:pl c with
 | false=>rfl
 | true=>
  simp only[Zi,Zh]
  cases hn:decide (0<c.fN) with
  | true=>
   simp only[Zl];unfold MT;rw[Zj]
   cases hq:Ie (r.length+1) (decide (c.fKind=6)) none c.fN.toNat r with
   | none=>rfl
   | some q=>obtain⟨kids,zs⟩:=q;rfl
  | false=>rfl
theorem PM {f:Fo}(h:f.one=true)(key:Option AE)(r:Fo):(f.put key r).flat=BV key++(f.flat++r.flat):=by
 cases f with
 | nil=>cases h
 | cell k c r'=>
  cases k with
  | some s=>cases h
  | none=>cases r' with
   | nil=>simp[Fo.put,Fo.flat,BV]
   | cell _ _ _=>cases h
   | node _ _ _ _=>cases h
 | node k c kids r'=>
  cases k with
  | some s=>cases h
  | none=>cases r' with
   | nil=>simp[Fo.put,Fo.flat,BV]
   | cell _ _ _=>cases h
   | node _ _ _ _=>cases h
theorem U6 {f:Fo}(h:f.one=true):1≤f.flat.length:=by
 cases f with
 | nil=>cases h
 | cell k c r'=>simp[Fo.flat];omega
 | node k c kids r'=>simp[Fo.flat];omega
theorem Jw {xs ys:List Au}{f:Fo}(h:HV xs=some (f,ys)):xs=f.flat++ys∧f.wf false none=true∧f.one=true:=
 ⟨(HC _ _ _ _ _ _ _ h).1,(HC _ _ _ _ _ _ _ h).2.1,RJ h⟩
def I4 (v:List Au)(i:Int):Int:=match HV (v.drop i.toNat) with
 | none=>-1
 | some (f,_)=>i+f.flat.length
def KM (m:Bool)(last:Option AE)(v:List Au)(i:Int)(k:Nat):Int:=match MT m last k (v.drop i.toNat) with
 | none=>-1
 | some (f,_)=>i+f.flat.length
theorem NI {v:List Au}{i:Int}(h0:0≤i)(h1:i≤v.length):I4 v i = -1∨(i<I4 v i∧I4 v i≤v.length):=by
 unfold I4
 cases h:HV (v.drop i.toNat) with
 | none=>exact .inl rfl
 | some q=>
  obtain⟨f,ys⟩:=q;obtain⟨h2,_,h3⟩:=Jw h;have:=U6 h3;have hl:(v.drop i.toNat).length=f.flat.length+ys.length:=by rw[h2];simp
  rw[ZX] at hl
  right;simp only;omega
structure Yt (F M:Nat) (v:List Au):Prop where
 hM:M≤1152921504606846976
 hv:v.length≤M
 hF:M<F
 hc:∀c∈v,c.fStr.length≤M
theorem Td (ok:Bool){i:Int}(h0:0≤i)(h1:i≤1152921504606846976):BE ok i=some (bif ok then i+1 else -1):=by
 unfold BE
 cases ok
 ·rfl
 ·rw[AQ rfl,AU (by omega) (by omega)];rfl
theorem RI {F:Nat}{c:Au}(hF:c.fStr.length<F)(hs:c.fStr.length≤1152921504606846976):LX F c=some (decide (c.fKind=4)&&pl c):=by
 unfold LX;rw[SW hF (by omega)];simp only[Option.isSome_some,ov,ZB,imp,Z2,Bn,Zl]
 cases h4:decide (c.fKind=4) with
 | false=>rfl
 | true=>
  simp only[Za] at h4;simp[pl,h4]
theorem Dz {v:List Au}{i:Int}{c:Au}{r:List Au}(h0:0≤i)(h:v.drop i.toNat=c::r):Ac v i=c:=by
 have:=(Co h0 h).1;simp[Ac,this]
section
variable {M : Nat} {v : List Au}
theorem J9 {F:Nat}(hA:Yt F M v){g:List Au→Int→Option Int}{n:Int}(hn:n≤9223372036854775807):∀(L:Nat) (i x:Int),0≤i→i≤v.length→0≤x→x≤n→(∀j,i≤j→j≤v.length→g v j=some (I4 v j))→v.length-i.toNat<L→
  ∃o,BS (λσ=>CJ v n g σ.1 σ.2) L (i,x)=some o∧BP (λν=>Es ν) o=some (KM false none v i (n-x).toNat)
 | 0,i,x,_,_,_,_,_,h=>by omega
 | L+1,i,x,h0,h1,hx,hxn,hg,hL=>by
  cases hxl:decide (x<n) with
  | false=>
   refine⟨.go i,JJ (by show CJ v n g i x=_;unfold CJ;rw[AH hxl]),?_⟩;simp only[YZ] at hxl;rw[show(n-x).toNat=0 from by omega];simp[BP,Es,KM,Lu,Fo.flat]
  | true=>
   have hb:CJ v n g i x=B0 (decide (I4 v i<0)) (some (.out (.ret (-1)))) (Bn (BZ .i64 (x+1))<|some (.next (I4 v i,x+1))):=by unfold CJ;rw[AQ hxl,hg i (ZF i) h1,AZ rfl]
   simp only[Za] at hxl;obtain⟨k,hk⟩:∃k,(n-x).toNat=k+1:=⟨(n-x).toNat-1,by omega⟩
   rw[hk];have e:KM false none v i (k+1)=bif decide (I4 v i<0) then -1 else KM false none v (I4 v i) k:=by
    unfold KM;rw[GZ];simp only[It,Zh]
    cases hp:HV (v.drop i.toNat) with
    | none=>simp[I4,hp]
    | some q=>
     obtain⟨f,ys⟩:=q;obtain⟨q1,q2,q3⟩:=Jw hp;have hi:I4 v i=i+f.flat.length:=by simp[I4,hp]
     have hd:v.drop (I4 v i).toNat=ys:=by rw[hi];exact D4 h0 q1
     rw[hd,Ze (by omega)];simp only[Zh]
     cases hr:MT false none k ys with
     | none=>rfl
     | some q=>
      obtain⟨r,zs⟩:=q;simp only[PM q3,BV,ZV,Zs,hi];omega
   rw[e];rcases NI (v:=v) h0 h1 with hneg | ⟨hlt,hle⟩
   ·exact⟨.ret (-1),JJ (hb.trans (by rw[hneg,AQ (by decide)])),by rw[hneg];rfl⟩
   ·have hM:=hA.hM;have hvM:=hA.hv;obtain⟨o,ho1,ho2⟩:=J9 hA hn L (I4 v i) (x+1) (by omega) hle (by omega) (by omega) (λj hj=>hg j (by omega)) (by omega);exact⟨o,NL (hb.trans (by rw[AH (Ze (by omega)),AU (by omega) (by omega)])) ho1,by rw[ho2,show(n-(x+1)).toNat=k from by omega,Ze (by omega)];rfl⟩
theorem MQ {F:Nat}(hA:Yt F M v){g:List Au→Int→Option Int}{n:Int}(hn:n≤9223372036854775807):∀(L:Nat) (i x:Int) (last:AE),0≤i→i≤v.length→0≤x→x≤n→(∀j,i≤j→j≤v.length→g v j=some (I4 v j))→v.length-i.toNat<L→
  ∃o,BS (λσ=>D2 F v n g σ.1 σ.2.1 σ.2.2) L (i,last,x)=some o∧BP (λν=>GX ν) o=some (KM true (bif decide (0<x) then some last else none) v i (n-x).toNat)
 | 0,i,x,_,_,_,_,_,_,h=>by omega
 | L+1,i,x,last,h0,h1,hx,hxn,hg,hL=>by
  have hM:=hA.hM;have hvM:=hA.hv;have hMF:=hA.hF
  cases hxl:decide (x<n) with
  | false=>
   refine⟨.go i,JJ (by show D2 F v n g i last x=_;unfold D2;rw[AH hxl]),?_⟩;simp only[YZ] at hxl;rw[show(n-x).toNat=0 from by omega];simp[BP,GX,KM,Lu,Fo.flat]
  | true=>
   have hxl':=hxl;simp only[Za] at hxl;obtain⟨k,hk⟩:∃k,(n-x).toNat=k+1:=⟨(n-x).toNat-1,by omega⟩
   rw[hk]
   cases hd:v.drop i.toNat with
   | nil=>
    have hl:v.length≤i.toNat:=by simpa using hd
    refine⟨.ret (-1),JJ (by
     show D2 F v n g i last x=_;unfold D2;rw[AQ hxl',B1 (by simp[imp,show(v.length:Int)≤i from by omega]),B1 (by simp[imp,show(v.length:Int)≤i from by omega]),AQ (by simp[show(v.length:Int)≤i from by omega])]),?_⟩
    simp[BP,KM,hd,GZ,It]
   | cons c r=>
    obtain⟨g1,g2,g3⟩:=Co h0 hd;have hcM:=hA.hc c (Zk g1);have hat:=Dz h0 hd;have hnl:decide ((v.length:Int)≤i)=false:=by simp;omega
    have hb:D2 F v n g i last x=B0 (!(decide (c.fKind=4)&&pl c)||decide (0<x)&&(Cz c.fStr last||decide (c.fStr=last))) (some (.out (.ret (-1)))) (B7 (g v (i+1)) λha=>B0 (decide (ha<0)) (some (.out (.ret (-1)))) (Bn (BZ .i64 (x+1))<|some (.next (ha,c.fStr,x+1)))):=by
     unfold D2;rw[AQ hxl',B1 (by simp only[imp];rw[Rn h0 g3];simp),hat,RI (by omega) (by omega),B1 (by simp[imp])];simp only[hnl,ov,ZB,Zn];rw[Bu h0 g3,AU (by omega) (by omega)]
    have hpk:It true (bif decide (0<x) then some last else none) (c::r)=bif (!(decide (c.fKind=4)&&pl c)||decide (0<x)&&(Cz c.fStr last||decide (c.fStr=last))) then none else some (some c.fStr,r):=by
     simp only[It,Zl]
     cases h4:decide (c.fKind=4) with
     | false=>simp
     | true=>
      cases hp:pl c with
      | false=>simp
      | true=>
       have hok:=(O7 hp (by simpa using h4)).2
       cases h0x:decide (0<x) with
       | false=>simp[CV,hok]
       | true=>cases hs:(Cz c.fStr last||decide (c.fStr=last))<;>simp[CV,hok,hs]
    cases ht:(!(decide (c.fKind=4)&&pl c)||decide (0<x)&&(Cz c.fStr last||decide (c.fStr=last))) with
    | true=>
     rw[ht] at hpk;refine⟨.ret (-1),JJ (hb.trans (AQ ht)),?_⟩;simp only[KM,hd,GZ,hpk,Zl];rfl
    | false=>
     rw[ht] at hpk;rw[AH ht,hg (i+1) (by omega) (by omega),AZ rfl] at hb;have e:KM true (bif decide (0<x) then some last else none) v i (k+1)=bif decide (I4 v (i+1)<0) then -1 else KM true (some c.fStr) v (I4 v (i+1)) k:=by
      unfold KM;rw[hd,GZ,hpk];simp only[Zh];have hx:I4 v (i+1)=match HV r with | none=>-1 | some (f,_)=>i+1+f.flat.length:=by unfold I4;rw[g2]
      cases hp:HV r with
      | none=>rw[hp] at hx;simp[hx]
      | some q=>
       obtain⟨f,ys⟩:=q;obtain⟨q1,q2,q3⟩:=Jw hp;rw[hp] at hx;simp only at hx;have hd2:v.drop (I4 v (i+1)).toNat=ys:=by rw[hx];exact D4 (by omega) (g2.trans q1)
       rw[hd2,Ze (by omega)];simp only[Zh]
       cases hr:MT true (some c.fStr) k ys with
       | none=>rfl
       | some q=>
        obtain⟨r',zs⟩:=q;simp only[PM q3,BV,Zs,Zj,ZM,hx];omega
     rw[e];rcases NI (v:=v) (i:=i+1) (by omega) (by omega) with hneg | ⟨hlt,hle⟩
     ·exact⟨.ret (-1),JJ (hb.trans (by rw[hneg,AQ (by decide)])),by rw[hneg];rfl⟩
     ·obtain⟨o,ho1,ho2⟩:=MQ hA hn L (I4 v (i+1)) (x+1) c.fStr (by omega) hle (by omega) (by omega) (λj hj=>hg j (by omega)) (by omega);exact⟨o,NL (hb.trans (by rw[AH (Ze (by omega)),AU (by omega) (by omega)])) ho1,by rw[ho2,show(n-(x+1)).toNat=k from by omega,Zc (show(0:Int)<x+1 from by omega),Ze (by omega)];rfl⟩
theorem PW {i:Int}{c:Au}{r:List Au}(h0:0≤i)(hd:v.drop i.toNat=c::r)(hp:pl c=true):I4 v i=KM (decide (c.fKind=6)) none v (i+1) c.fN.toNat:=by
 have g2:=(Co h0 hd).2.1;have hN:=Wb hp;unfold I4 KM;rw[hd,HU,g2,hp];simp only[Zi,Zh]
 cases hn:decide (0<c.fN) with
 | true=>
  simp only[Zl]
  cases hq:MT (decide (c.fKind=6)) none c.fN.toNat r with
  | none=>rfl
  | some q=>
   obtain⟨kids,zs⟩:=q;simp only[Fo.flat,BV,ZV,Zj,ZT];omega
 | false=>
  simp only[YZ] at hn;rw[show c.fN.toNat=0 from by omega,Lu];simp[Fo.flat,BV]
theorem PH (hA:Yt (M+1) M v)(hN:∀c∈v,c.fN≤9223372036854775807):∀(d F:Nat) (i:Int),0≤i→i≤v.length→v.length-i.toNat=d→M+2*d+3<F→D8 F v i=some (I4 v i):=by
 have hM:=hA.hM;have hvM:=hA.hv;intro d
 induction d using Nat.strongRecOn with
 | ind d ih=>
  intro F i h0 h1 hd hF;obtain⟨F,rfl⟩:∃G,F=G+1:=⟨F-1,by omega⟩
  obtain⟨F,rfl⟩:∃G,F=G+1:=⟨F-1,by omega⟩
  rw[D8];unfold O4
  cases hdr:v.drop i.toNat with
  | nil=>
   have hl:v.length≤i.toNat:=by simpa using hdr
   rw[AQ (by simp;omega)];simp[I4,hdr,PN]
  | cons c r=>
   obtain⟨g1,g2,g3⟩:=Co h0 hdr;have hcM:=hA.hc c (Zk g1);have hcN:=hN c (Zk g1);rw[AH (by simp;omega),Bu h0 g3,Dz h0 hdr];simp only[Td _ h0 (show i≤1152921504606846976 by omega),Option.isSome_some,ov,ZB,imp,Z2,B1 (x:=_) (rfl:true=true)];have hg:∀j,i+1≤j→j≤v.length→D8 F v j=some (I4 v j):=λj hj hj2=>ih (v.length-j.toNat) (by omega) F j (by omega) hj2 rfl (by omega);have hpl0:pl c=false→I4 v i = -1:=λhp=>by simp[I4,hdr,HU,hp]
   have hleaf:pl c=true→c.fN=0→I4 v i=i+1:=λhp h0'=>by simp[I4,hdr,HU,hp,h0',Fo.flat,BV]
   have hscal:∀b:Bool,pl c=b→(b=true→c.fN=0)→I4 v i=bif b then i+1 else -1:=λb hb hz=>by
    cases b
    ·exact hpl0 hb
    ·exact hleaf hb (hz rfl)
   by_cases k1:c.fKind=1
   ·rw[AQ (by simp[k1])];have hp:pl c=(decide (c.fInt=0)&&(decide (c.fStr=[])&&decide (c.fN=0))):=by simp[pl,k1]
    rw[hscal _ hp (λh=>by simp at h;exact h.2.2)]
    cases decide (c.fInt=0)<;>cases decide (c.fStr=[])<;>cases decide (c.fN=0)<;>rfl
   rw[AH (by simp[k1])]
   by_cases k2:c.fKind=2
   ·rw[AQ (by simp[k2])];have hp:pl c=((decide (c.fInt=0)||decide (c.fInt=1))&&(decide (c.fStr=[])&&decide (c.fN=0))):=by simp[pl,k2]
    rw[hscal _ hp (λh=>by simp at h;exact h.2.2)]
    cases decide (c.fInt=0)<;>cases decide (c.fInt=1)<;>cases decide (c.fStr=[])<;>cases decide (c.fN=0)<;>rfl
   rw[AH (by simp[k2])]
   by_cases k3:c.fKind=3
   ·rw[AQ (by simp[k3])];have hp:pl c=(decide (c.fStr=[])&&decide (c.fN=0)):=by simp[pl,k3]
    rw[hscal _ hp (λh=>by simp at h;exact h.2)]
    cases decide (c.fStr=[])<;>cases decide (c.fN=0)<;>rfl
   rw[AH (by simp[k3])]
   by_cases k4:c.fKind=4
   ·rw[AQ (by simp[k4]),RI (by omega) (by omega),AZ rfl,AZ rfl];rw[Zc k4,Zr,hscal (pl c) rfl (λhp=>by have:=(O7 hp k4).1;rw[this])]
   rw[AH (by simp[k4])]
   by_cases k5:c.fKind=5
   ·have hp:pl c=(decide (c.fInt=0)&&(decide (c.fStr=[])&&decide (0≤c.fN))):=by simp[pl,k5]
    rw[show(decide (c.fKind=5)&&(decide (c.fInt=0)&&(decide (c.fStr=[])&&decide (0≤c.fN))))=pl c from by rw[hp,Zc k5,Zr]];have k5' : ¬ c.fKind=6:=by omega
    cases hb:pl c with
    | false=>rw[AH rfl,AH (by simp[k5]),hpl0 hb]
    | true=>
     have hn0:=Wb hb;rw[AQ rfl,AU (by omega) (by omega),GY];unfold Is;obtain⟨o,ho1,ho2⟩:=J9 (F:=F) ⟨hM,hvM,by omega,hA.hc⟩ hcN F (i+1) 0 (by omega) (by omega) (ZF 0) hn0 hg (by omega);rw[AZ ho1,ho2,AZ rfl,PW h0 hdr hb,Ze k5',Int.sub_zero]
   rw[AH (by simp[k5])]
   by_cases k6:c.fKind=6
   ·have hp:pl c=(decide (c.fInt=0)&&(decide (c.fStr=[])&&decide (0≤c.fN))):=by simp[pl,k6]
    rw[show(decide (c.fKind=6)&&(decide (c.fInt=0)&&(decide (c.fStr=[])&&decide (0≤c.fN))))=pl c from by rw[hp,Zc k6,Zr]]
    cases hb:pl c with
    | false=>rw[AH rfl,hpl0 hb]
    | true=>
     have hn0:=Wb hb;rw[AQ rfl,AU (by omega) (by omega),Ls];unfold Mj;obtain⟨o,ho1,ho2⟩:=MQ (F:=F) ⟨hM,hvM,by omega,hA.hc⟩ hcN F (i+1) 0 [] (by omega) (by omega) (ZF 0) hn0 hg (by omega);rw[AZ ho1,ho2,AZ rfl,PW h0 hdr hb,Zc k6,Int.sub_zero];rfl
   ·rw[AH (by simp[k6]),hpl0 (by simp[pl,k1,k2,k3,k4,k5,k6])]
theorem Re (hA:Yt (M+1) M v)(hN:∀c∈v,c.fN≤9223372036854775807){F:Nat}(hF:3*M+3<F):KD F v=some (decide (I4 v 0=v.length)):=by
 have hvM:=hA.hv;unfold KD;rw[PH hA hN v.length F 0 (ZF 0) (by omega) (by simp) (by omega)];simp only[imp,Option.isSome_some,Z2,B1,ov,ZB]
 cases v with
 | nil=>simp[I4,PN]
 | cons c r=>
  rw[show decide (0<((c::r).length:Int))=true from by simp,Zr]
  first | done | rfl
end
theorem RK {m:Bool}{last key:Option AE}{r:List Au}(h:CV m last key=true):It m last (BV key++r)=some (key,r):=by
 cases key with
 | none=>
  have:m=false:=by simpa[CV] using h
  subst this;rfl
 | some s=>
  have h':=h;simp only[CV,Zd] at h;obtain⟨⟨h1,h2⟩,h3⟩:=h;subst h1;have hp:pl ⟨4,0,s,0⟩=true:=by simp[pl,h2]
  show(bif pl ⟨4,0,s,0⟩&&decide ((4:Int)=4)&&CV true last (some s) then _ else _)=_;rw[hp,h'];rfl
theorem Ml:∀(f:Fo) (m:Bool) (last:Option AE) (ys:List Au),f.wf m last=true→MT m last f.cnt (f.flat++ys)=some (f,ys)
 | .nil,_,_,_,_=>rfl
 | .cell k c r,m,last,ys,hw=>by
  simp only[Fo.wf,Zd,Zq] at hw;obtain⟨⟨⟨w1,w2⟩,w3⟩,w4⟩:=hw;simp only[Fo.cnt,Fo.flat,Z5,ZR];rw[GZ,RK w1];simp only[HU,w2,w3,Zi,Zh,Ml r m k ys w4,Fo.put]
 | .node k c kids r,m,last,ys,hw=>by
  simp only[Fo.wf,Zd,Za] at hw;obtain⟨⟨⟨⟨⟨w1,w2⟩,w3⟩,w5⟩,w6⟩,w4⟩:=hw;simp only[Fo.cnt,Fo.flat,Z5,ZR];rw[GZ,RK w1];have e:c.fN.toNat=kids.cnt:=by omega
  simp only[HU,w2,Zc w3,Zi,Zh,Zl,e,Ml kids _ none (r.flat++ys) w6,Ml r m k ys w4,Fo.put]
theorem Wa {f:Fo}{ys:List Au}(h1:f.one=true)(hw:f.wf false none=true):HV (f.flat++ys)=some (f,ys):=by
 have:=Ml f false none ys hw;have hc:f.cnt=1:=by
  cases f with
  | nil=>cases h1
  | cell k c r=>cases k with
   | some _=>cases h1
   | none=>cases r with
    | nil=>rfl
    | _=>cases h1
  | node k c kids r=>cases k with
   | some _=>cases h1
   | none=>cases r with
    | nil=>rfl
    | _=>cases h1
 rw[hc] at this;exact this
structure Nt (M:Nat) (v:List Au):Prop where
 hM:M≤1000000000
 hv:v.length≤M
 hc:∀c∈v,c.fStr.length≤M∧BZ .i64 c.fInt=true∧c.fN≤9223372036854775807
theorem Nt.lk {M F:Nat}{v:List Au}(h:Nt M v)(hF:M<F):Sn F M v:=⟨by have:=h.hM;omega,by have:=h.hM;omega,h.hv,hF,h.hc⟩
theorem Nt.rf {M F:Nat}{v:List Au}(h:Nt M v)(hF:M<F):Yt F M v:=⟨by have:=h.hM;omega,h.hv,hF,λc hc=>(h.hc c hc).1⟩
theorem Nt.drop {M:Nat}{v:List Au}(h:Nt M v)(k:Nat):Nt M (v.drop k):=⟨h.hM,by have:=h.hv;rw[ZX];omega,λc hc=>h.hc c (List.mem_of_mem_drop hc)⟩
theorem Nt.take {M:Nat}{v:List Au}(h:Nt M v)(k:Nat):Nt M (v.take k):=⟨h.hM,by have:=h.hv;rw[ZZ];omega,λc hc=>h.hc c (List.mem_of_mem_take hc)⟩
def whole (v:List Au):Option Fo:=match HV v with
 | some (f,[])=>some f
 | _=>none
theorem Q7 {v:List Au}{f:Fo}(h:whole v=some f):v=f.flat∧f.wf false none=true∧f.one=true:=by
 unfold whole at h
 cases hp:HV v with
 | none=>rw[hp] at h;cases h
 | some q=>
  obtain⟨g,ys⟩:=q;rw[hp] at h
  cases ys with
  | cons _ _=>cases h
  | nil=>
   cases h
   obtain⟨h1,h2,h3⟩:=Jw hp;exact⟨by simpa using h1,h2,h3⟩
def W0 (f:Fo):Int:=
 bif f.flat.any J5 then 2 else bif f.flat.any I6||(decide (200<f.flat.length)||(decide (8<f.dep)||decide (4000<(f.txt true).length))) then 3 else 0
def Vi (v:List Au):Int:=match whole v with
 | none=>1
 | some f=>W0 f
theorem RM {f:Fo}(h1:f.one=true):f.cnt=1:=by
 cases f with
 | nil=>cases h1
 | cell k c r=>cases k with
  | some _=>cases h1
  | none=>cases r with
   | nil=>rfl
   | _=>cases h1
 | node k c kids r=>cases k with
  | some _=>cases h1
  | none=>cases r with
   | nil=>rfl
   | _=>cases h1
theorem O6 (s:AE):Lt s≤2*s.length+2+s.length:=by
 have h1:s.count 34≤s.length:=List.count_le_length;have h2:s.count 92≤s.length:=List.count_le_length;unfold Lt;omega
theorem Xx {c:Au}{M:Nat}(hp:pl c=true)(hs:c.fStr.length≤M)(hi:(Lib.itoa c.fInt).length≤21):V7 c≤3*M+21:=by
 have:=O6 c.fStr;unfold V7
 cases h1:decide (c.fKind=1) with
 | true=>simp only[Zl];omega
 | false=>
  cases h2:decide (c.fKind=2) with
  | true=>
   simp[pl,h1,h2] at hp;simp only[Zh,Zl];omega
  | false=>
   cases h3:decide (c.fKind=3) with
   | true=>simp only[Zh,Zl];omega
   | false=>cases h4:decide (c.fKind=4)<;>simp only[Zh,Zl]<;>omega
theorem OS {M:Nat}:∀{f:Fo} {m:Bool} {l:Option AE},f.wf m l=true→(∀c∈f.flat,c.fStr.length≤M∧BZ .i64 c.fInt=true∧c.fN≤9223372036854775807)→f.byt+f.cnt≤(3*M+24)*f.flat.length
 | .nil,_,_,_,_=>by simp[Fo.byt,Fo.flat,Fo.cnt]
 | .cell k c r,m,l,hw,hc=>by
  simp only[Fo.wf,Zd,Zq] at hw;obtain⟨⟨⟨w1,w2⟩,w3⟩,w4⟩:=hw;simp only[Fo.flat] at hc;have ih:=OS w4 (λx hx=>hc x (by simp[hx]));obtain⟨c1,c2,c3⟩:=hc c (by simp);have i64:=Gw c2;have hl:=Xx w2 c1 (Lib.itoa_length_le c.fInt i64.1 i64.2);have hk:OE k≤(3*M+24)*(BV k).length:=by
   cases k with
   | none=>simp[OE,BV]
   | some s=>
    have:=(hc ⟨4,0,s,0⟩ (by simp[BV])).1;have h2:=O6 s;simp only at this;simp only[OE,BV,ZI];omega
  simp only[Fo.byt,Fo.flat,Fo.cnt,Zs,Zj];have e:((3*(M:Int)+24)*(((BV k).length+(r.flat.length+1):Nat):Int))=(3*(M:Int)+24)*(BV k).length+((3*(M:Int)+24)*r.flat.length+(3*(M:Int)+24)):=by
   push_cast;rw[Int.mul_add,Int.mul_add,Int.mul_one]
  rw[e]
  push_cast at *
  omega
 | .node k c kids r,m,l,hw,hc=>by
  simp only[Fo.wf,Zd,Za] at hw;obtain⟨⟨⟨⟨⟨w1,w2⟩,w3⟩,w5⟩,w6⟩,w4⟩:=hw;simp only[Fo.flat] at hc;have ih:=OS w4 (λx hx=>hc x (by simp[hx]));have ih2:=OS w6 (λx hx=>hc x (by simp[hx]));have hcf:=CC kids;have hk:OE k≤(3*M+24)*(BV k).length:=by
   cases k with
   | none=>simp[OE,BV]
   | some s=>
    have:=(hc ⟨4,0,s,0⟩ (by simp[BV])).1;have h2:=O6 s;simp only at this;simp only[OE,BV,ZI];omega
  simp only[Fo.byt,Fo.flat,Fo.cnt,Zs,Zj];have e:((3*(M:Int)+24)*(((BV k).length+(kids.flat.length+r.flat.length+1):Nat):Int))=(3*(M:Int)+24)*(BV k).length+((3*(M:Int)+24)*kids.flat.length+(3*(M:Int)+24)*r.flat.length+(3*(M:Int)+24)):=by
   push_cast;rw[Int.mul_add,Int.mul_add,Int.mul_add,Int.mul_one]
  rw[e]
  push_cast at *
  omega
theorem Of {M:Nat}(hM:M≤1000000){f:Fo}{m:Bool}{l:Option AE}(hw:f.wf m l=true)(hl:f.flat.length≤M)(hc:∀c∈f.flat,c.fStr.length≤M∧BZ .i64 c.fInt=true∧c.fN≤9223372036854775807):f.byt≤4000000000000:=by
 have:=OS (M:=M) hw hc;have h2:(3*M+24)*f.flat.length≤(3*1000000+24)*1000000:=Nat.mul_le_mul (by omega) (by omega);have h3:(((3*M+24)*f.flat.length:Nat):Int)=(3*(M:Int)+24)*f.flat.length:=by push_cast;rfl
 omega
theorem S8 {M F:Nat}{v:List Au}(hA:Nt M v)(hM:M≤1000000)(hF:M<F):MB F v=some (Vi v):=by
 unfold MB Vi whole;have hvM:=hA.hv;rcases Wm (hA.lk hF) with⟨f,ys,hp,hl⟩ | ⟨hp,sh',hl⟩
 ·rw[hl,AZ rfl,hp];obtain⟨h1,h2,h3⟩:=Jw hp;have hlen:v.length=f.flat.length+ys.length:=by rw[h1];simp
  cases ys with
  | cons c r=>
   rw[AQ];simp only[Zj] at hlen;simp;omega
  | nil=>
   simp only[ZM,Nat.add_zero] at hlen;rw[AH (by simp[hlen])];have hc:∀c∈f.flat,c.fStr.length≤M∧BZ .i64 c.fInt=true∧c.fN≤9223372036854775807:=λc hc=>hA.hc c (by rw[h1];simp[hc]);have hb:=Of hM h2 (by omega) hc;have hb0:=Iy h2;have e1:(f.sh 0 Ns).fOutside=f.flat.any J5:=by rw[Oy];rfl
   have e2:(f.sh 0 Ns).fLong=f.flat.any I6:=by rw[Mf];rfl
   have e3:(f.sh 0 Ns).fDepth=f.dep:=by rw[K5 f 0 Ns (by simp[Ns])];simp[Ns]
   have e4:(f.sh 0 Ns).fBytes=(f.txt true).length:=by
    rw[K6 f false none 0 Ns h2 (by simp[Ns]) (by simp[Ns];omega),K4 f false none true h2,RM h3];simp[Ns]
   simp only;rw[e1,e2,e3,e4,hlen];unfold W0
   cases f.flat.any J5 with
   | true=>rw[AQ rfl];rfl
   | false=>
    rw[AH rfl];have a1:decide ((200:Int)<(f.flat.length:Int))=decide (200<f.flat.length):=by rw[Z7];simp;omega
    have a2:decide ((8:Int)<(f.dep:Int))=decide (8<f.dep):=by rw[Z7];simp;omega
    have a3:decide ((4000:Int)<((f.txt true).length:Int))=decide (4000<(f.txt true).length):=by rw[Z7];simp;omega
    rw[a1,a2,a3]
    cases(f.flat.any I6||(decide (200<f.flat.length)||(decide (8<f.dep)||decide (4000<(f.txt true).length))))<;>rfl
 ·rw[hl,AZ rfl,hp];rfl
theorem OA {v:List Au}{p:Int}{f:Fo}{ys:List Au}(h1:f.one=true)(hw:f.wf false none=true)(hd:v.drop p.toNat=f.flat++ys):I4 v p=p+f.flat.length:=by
 unfold I4;rw[hd,Wa h1 hw]
theorem Rx {c:Au}(hp:pl c=true)(hn:decide (0<c.fN)=false):(Fo.cell none c .nil).wf false none=true:=by simp[Fo.wf,CV,hp,hn]
theorem Rw {c:Au}{kids:Fo}(hp:pl c=true)(hn:0<c.fN)(hk:c.fN=kids.cnt)(hw:kids.wf (decide (c.fKind=6)) none=true):(Fo.node none c kids .nil).wf false none=true:=by simp[Fo.wf,CV,hp,hn,hk,hw];omega
section
variable {M : Nat} {v : List Au}
theorem Nt.next (hA:Nt M v){F:Nat}(hF:3*M+3<F){p:Int}(h0:0≤p)(h1:p≤v.length):D8 F v p=some (I4 v p):=by
 have hM:=hA.hM;have hvM:=hA.hv;exact PH (hA.rf (Zo M)) (λc hc=>(hA.hc c hc).2.2) (v.length-p.toNat) F p h0 h1 rfl (by omega)
theorem KC {F:Nat}{p:Int}{c:Au}{r:List Au}(h0:0≤p)(hpM:p≤1152921504606846976)(hd:v.drop p.toNat=c::r)(hp:pl c=true)(hn:decide (0<c.fN)=false):CI (F+2) v p=some 1:=by
 obtain⟨g1,g2,g3⟩:=Co h0 hd;rw[CI];unfold HQ;rw[Bu h0 g3,Dz h0 hd]
 cases hk:(!decide (c.fKind=5)&&!decide (c.fKind=6)) with
 | true=>rw[AQ rfl]
 | false=>
  rw[AH rfl,AU (by omega) (by omega),AZ (JJ (o:=.go 0) (by
   show CF (F+1) v p _ 0 (p+1) 0=_;unfold CF;rw[Dz h0 hd,AH hn]))]
  simp only[BP,Eg];rw[AU (by omega) (by omega)];rfl
theorem NE {F:Nat}{i:Int}{rec:List Au→Int→Option Int}{most at_ x L:Int}{m:Bool}{p q:Int}{pc:Au}(hpc:Ac v i=pc)(hm:decide (pc.fKind=6)=m)(hx:x<pc.fN)(hx0:0≤x)(hpcN:pc.fN≤9223372036854775807)
  (ha0:0≤at_) (haM:at_≤1152921504606846976) (hp:p=bif m then at_+1 else at_) (hr:rec v p=some L) (hq:D8 F v p=some q):CF F v i rec most at_ x=some (.next (max most L,q,x+1)):=by
 unfold CF;rw[hpc,AQ (by simpa using hx),hm]
 cases m with
 | true=>
  simp only[Zl] at hp;rw[AQ rfl,AU (by omega) (by omega),← hp,hr,AZ rfl]
  cases hl:decide (most<L) with
  | true=>rw[AQ rfl,hq,AZ rfl,AU (by omega) (by omega),Int.max_eq_right (by simp at hl;omega)]
  | false=>rw[AH rfl,hq,AZ rfl,AU (by omega) (by omega),Int.max_eq_left (by simp at hl;omega)]
 | false=>
  simp only[Zh] at hp;rw[AH rfl,← hp,hr,AZ rfl]
  cases hl:decide (most<L) with
  | true=>rw[AQ rfl,hq,AZ rfl,AU (by omega) (by omega),Int.max_eq_right (by simp at hl;omega)]
  | false=>rw[AH rfl,hq,AZ rfl,AU (by omega) (by omega),Int.max_eq_left (by simp at hl;omega)]
theorem Mp {m:Bool}{last key:Option AE}(h:CV m last key=true):((BV key).length:Int)=bif m then 1 else 0:=by
  cases key with
  | none=>
            have:m=false:=by simpa[CV] using h
            subst this;rfl
  | some s=>simp only[CV,Zd] at h;rw[h.1.1];rfl
theorem PJ (hA:Nt M v):∀(g:Fo) (F L:Nat) (i at_ x most:Int) (m:Bool) (last:Option AE) (ys:List Au) (pc:Au),Ac v i=pc→decide (pc.fKind=6)=m→pc.fN≤9223372036854775807→g.wf m last=true→v.drop at_.toNat=g.flat++ys→0≤at_→at_≤v.length→pc.fN=x+g.cnt→0≤x→0≤most→most≤1152921504606846976→g.cnt<L→3*M+5+g.flat.length<F→
  ∃o,BS (λσ=>CF F v i (CI F) σ.1 σ.2.1 σ.2.2) L (most,at_,x)=some o∧BP (λν=>Eg ν) o=some (max most (g.dep:Int)+1):=by
 have hM:=hA.hM;have hvM:=hA.hv;have fin:∀(F L:Nat) (i at_ x most:Int) (pc:Au),Ac v i=pc→pc.fN≤x→0≤most→most≤1152921504606846976→0<L→∃o,BS (λσ=>CF F v i (CI F) σ.1 σ.2.1 σ.2.2) L (most,at_,x)=some o∧BP (λν=>Eg ν) o=some (most+1):=λF L i at_ x most pc hpc hx h0 hb hL=>by
  obtain⟨L,rfl⟩:∃K,L=K+1:=⟨L-1,by omega⟩
  refine⟨.go most,JJ (by show CF F v i _ most at_ x=_;unfold CF;rw[hpc,AH (by simp;omega)]),?_⟩;simp only[BP,Eg];rw[AU (by omega) (by omega)]
 have depM:∀g:Fo,g.dep≤g.flat.length:=by
  intro g
  induction g with
  | nil=>simp[Fo.dep]
  | cell k c r ih=>simp[Fo.dep,Fo.flat];omega
  | node k c kids r ih1 ih2=>simp[Fo.dep,Fo.flat];omega
 intro g
 induction g with
 | nil=>
  intro F L i at_ x most m last ys pc hpc hm hpN hw hd h0 h1 hN hx hmo hmM hL hF;obtain⟨o,h1,h2⟩:=fin F L i at_ x most pc hpc (by simp[Fo.cnt] at hN;omega) hmo hmM (by omega);exact⟨o,h1,by rw[h2];simp only[Fo.dep];congr 2<;>omega⟩
 | cell k c r ih=>
  intro F L i at_ x most m last ys pc hpc hm hpN hw hd h0 h1 hN hx hmo hmM hL hF;simp only[Fo.wf,Zd,Zq] at hw;obtain⟨⟨⟨w1,w2⟩,w3⟩,w4⟩:=hw;simp only[Fo.flat,Z5,ZR] at hd;simp only[Fo.cnt] at hN hL;simp only[Fo.flat,Zs,Zj] at hF;obtain⟨L,rfl⟩:∃K,L=K+1:=⟨L-1,by omega⟩
  obtain⟨F,rfl⟩:∃K,F=K+2:=⟨F-2,by omega⟩
  have hd1:=D4 h0 hd;have hkl:=Mp w1;obtain⟨g1,g2,g3⟩:=Co (by omega) hd1;have hlen:at_+(BV k).length=bif m then at_+1 else at_:=by rw[hkl];cases m<;>simp
  have hq:=hA.next (F:=F+2) (by omega) (p:=at_+(BV k).length) (by omega) (by omega);rw[OA (f:=.cell none c .nil) (ys:=r.flat++ys) rfl (Rx w2 w3) hd1] at hq;have hb:=NE (most:=most) (x:=x) hpc hm (by omega) hx hpN h0 (by omega) hlen (KC (F:=F) (by omega) (by omega) hd1 w2 w3) hq;have hdd:=depM r;obtain⟨o,ho1,ho2⟩:=ih (F+2) L i (at_+(BV k).length+((Fo.cell none c .nil).flat.length:Int)) (x+1) (max most 1) m k ys pc hpc hm hpN w4 (by rw[show(Fo.cell none c .nil).flat.length=1 from rfl];exact g2) (by omega) (by rw[show(Fo.cell none c .nil).flat.length=1 from rfl];omega) (by omega) (by omega) (by omega) (by omega) (by omega) (by omega);refine⟨o,NL hb ho1,?_⟩;rw[ho2,Fo.dep];congr 2<;>omega
 | node k c kids r ihk ih=>
  intro F L i at_ x most m last ys pc hpc hm hpN hw hd h0 h1 hN hx hmo hmM hL hF;simp only[Fo.wf,Zd,Za] at hw;obtain⟨⟨⟨⟨⟨w1,w2⟩,w3⟩,w5⟩,w6⟩,w4⟩:=hw;simp only[Fo.flat,Z5,ZR] at hd;simp only[Fo.cnt] at hN hL;simp only[Fo.flat,Zs,Zj] at hF;obtain⟨L,rfl⟩:∃K,L=K+1:=⟨L-1,by omega⟩
  obtain⟨F,rfl⟩:∃K,F=K+1:=⟨F-1,by omega⟩
  have hd1:=D4 h0 hd;have hkl:=Mp w1;obtain⟨g1,g2,g3⟩:=Co (by omega) hd1;have hcN:=(hA.hc c (Zk g1)).2.2;have hlen:at_+(BV k).length=bif m then at_+1 else at_:=by rw[hkl];cases m<;>simp
  have hq:=hA.next (F:=F+1) (by omega) (p:=at_+(BV k).length) (by omega) (by omega);have hfl:(Fo.node none c kids .nil).flat=c::kids.flat:=by simp[Fo.flat,BV]
  rw[OA (f:=.node none c kids .nil) (ys:=r.flat++ys) rfl (Rw w2 w3 w5 w6) (by rw[hd1,hfl];simp)] at hq;have hdk:=depM kids;have hdd:=depM r;have hcf:=CC kids;have hvl:(v.drop (at_+(BV k).length+1).toNat).length=kids.flat.length+(r.flat.length+ys.length):=by rw[g2];simp
  rw[ZX] at hvl;have hrec:CI (F+1) v (at_+(BV k).length)=some ((kids.dep:Int)+1):=by
   rw[CI];unfold HQ;rw[Bu (by omega) g3,Dz (by omega) hd1];have ha:=(KF w2 w3).1;rw[AH (by simp;omega),AU (by omega) (by omega)];obtain⟨o,ho1,ho2⟩:=ihk F F (at_+(BV k).length) (at_+(BV k).length+1) 0 0 _ none (r.flat++ys) c (Dz (by omega) hd1) rfl hcN w6 (by rw[g2]) (by omega) (by omega) (by omega) (ZF 0) (ZF 0) (by omega) (by omega) (by omega);rw[AZ ho1,ho2];congr 2<;>omega
  have hb:=NE (most:=most) (x:=x) hpc hm (by omega) hx hpN h0 (by omega) hlen hrec hq;obtain⟨o,ho1,ho2⟩:=ih (F+1) L i (at_+(BV k).length+((Fo.node none c kids .nil).flat.length:Int)) (x+1) (max most ((kids.dep:Int)+1)) m k ys pc hpc hm hpN w4 (by
   have:=D4 (by omega) g2;rw[hfl,Zj,show at_+(BV k).length+((kids.flat.length+1:Nat):Int)=at_+(BV k).length+1+kids.flat.length from by omega];exact this) (by omega) (by rw[hfl,Zj];omega) (by omega) (by omega) (by omega) (by omega) (by omega) (by omega)
  refine⟨o,NL hb ho1,?_⟩;rw[ho2,Fo.dep];congr 2<;>omega
theorem Rd (hA:Nt M v){F:Nat}{p:Int}{f:Fo}{ys:List Au}(h0:0≤p)(h1:f.one=true)(hw:f.wf false none=true)(hd:v.drop p.toNat=f.flat++ys)(hF:3*M+6+f.flat.length<F):CI F v p=some (f.dep:Int):=by
 have hM:=hA.hM;have hvM:=hA.hv
 cases f with
 | nil=>cases h1
 | cell k c r=>
  cases k with
  | some s=>cases h1
  | none=>
   cases r with
   | nil=>
    simp only[Fo.wf,Zd,Zq] at hw;obtain⟨F,rfl⟩:∃K,F=K+2:=⟨F-2,by omega⟩
    have hd':v.drop p.toNat=c::ys:=by simpa[Fo.flat,BV] using hd
    rw[KC h0 (by have:=(Co h0 hd').2.2;omega) hd' hw.1.1.2 hw.1.2];rfl
   | cell _ _ _=>cases h1
   | node _ _ _ _=>cases h1
 | node k c kids r=>
  cases k with
  | some s=>cases h1
  | none=>
   cases r with
   | nil=>
    simp only[Fo.wf,Zd,Za] at hw;obtain⟨⟨⟨⟨⟨w1,w2⟩,w3⟩,w5⟩,w6⟩,w4⟩:=hw;have hd':v.drop p.toNat=c::(kids.flat++ys):=by simpa[Fo.flat,BV] using hd
    obtain⟨g1,g2,g3⟩:=Co h0 hd';have hcN:=(hA.hc c (Zk g1)).2.2;have hcf:=CC kids;simp only[Fo.flat,BV,ZV,ZT,Zj] at hF;obtain⟨F,rfl⟩:∃K,F=K+1:=⟨F-1,by omega⟩
    rw[CI];unfold HQ;have ha:=(KF w2 w3).1;rw[Bu h0 g3,Dz h0 hd',AH (by simp;omega),AU (by omega) (by omega)];obtain⟨o,ho1,ho2⟩:=PJ hA kids F F p (p+1) 0 0 _ none ys c (Dz h0 hd') rfl hcN w6 g2 (by omega) (by omega) (by omega) (ZF 0) (ZF 0) (by omega) (by omega) (by omega);rw[AZ ho1,ho2];simp only[Fo.dep];congr 1<;>omega
   | cell _ _ _=>cases h1
   | node _ _ _ _=>cases h1
end
def T2 (c:UInt8):AE:=bif (decide (c=34)||decide (c=92)) then[92,c] else[c]
theorem T1 {s:AE}{k:Nat}{c:UInt8}(h:s[k]? =some c):Nh (s.take (k+1))=Nh (s.take k)++T2 c:=by
 rw[List.take_add_one,h];simp[Nh,List.flatMap_append,T2]
theorem Ql (s:AE):(Nh s).length≤3*s.length:=by
 rw[Ng];have h1:s.count 34≤s.length:=List.count_le_length;have h2:s.count 92≤s.length:=List.count_le_length;omega
theorem QP {s:AE}{x:Int}{c:UInt8}(h0:0≤x)(h:s[x.toNat]? =some c):List.take (Int.toNat (x+1)-Int.toNat x) (List.drop (Int.toNat x) s)=[c]:=by
 have hl:=(List.getElem?_eq_some_iff.1 h).1;have hc:=(List.getElem?_eq_some_iff.1 h).2;rw[show Int.toNat (x+1)-Int.toNat x=1 from by omega,List.drop_eq_getElem_cons hl,hc];rfl
theorem Yr {s:AE}{x:Int}{c:UInt8}(h:s[x.toNat]? =some c):decide (Cr s x=34)=decide (c=34):=by
 rw[OV h,Z7,decide_eq_true_iff,decide_eq_true_iff,← UInt8.toNat_inj];show _↔c.toNat=34;omega
theorem Yq {s:AE}{x:Int}{c:UInt8}(h:s[x.toNat]? =some c):decide (Cr s x=92)=decide (c=92):=by
 rw[OV h,Z7,decide_eq_true_iff,decide_eq_true_iff,← UInt8.toNat_inj];show _↔c.toNat=92;omega
theorem O1 {s out:AE}{x:Int}{c:UInt8}(h0:0≤x)(hx:x<(s.length:Int))(hs:s.length≤1152921504606846976)(ho:out.length≤3*s.length+1)(hc:s[x.toNat]? =some c):Dc s out x=some (.next (out++T2 c,x+1)):=by
 unfold Dc T2;rw[AQ (Zc hx),Bu h0 hx,Yr hc,Yq hc,QP h0 hc];have l1:(([92]:AE).length:Int)=1:=rfl;have l2:(([c]:AE).length:Int)=1:=rfl
 cases hq:(decide (c=34)||decide (c=92)) with
 | true=>
  have l3:((out++([92]:AE)).length:Int)=out.length+1:=by rw[Zs,ZI,Int.natCast_add];rfl
  rw[AQ rfl,l1,l2,l3,AU (by omega) (by omega),AU (by omega) (by omega),Gf (by omega) (by omega),Gf (by omega) (by omega),AU (by omega) (by omega),Z5];rfl
 | false=>
  rw[AH rfl,l2,AU (by omega) (by omega),Gf (by omega) (by omega),Gf (by omega) (by omega),AU (by omega) (by omega)];rfl
theorem CK {R V:Type}(K:V→Option R)(v:V):BP K (.go v)=K v:=rfl
theorem PQ {R V:Type}(K:V→Option R)(r:R):BP K (.ret r)=some r:=rfl
theorem P7 {s out:AE}{x:Int}(hx : ¬ x<(s.length:Int)):Dc s out x=some (.out (.go out)):=by
 unfold Dc;rw[AH (Ze hx)]
theorem SS {out:AE}(h:out.length≤4611686018427387904):DE out=some (out++[34]):=by
 unfold DE;have l1:(([34]:AE).length:Int)=1:=rfl;rw[l1,AU (by omega) (by omega)]
theorem JT {F:Nat}{s:AE}(hF:s.length<F)(hs:s.length≤1152921504606846976):Io F s=some (JV s):=by
 obtain⟨o,h1,h2⟩:=H6 (body:=λσ=>Dc s σ.1 σ.2) (λσ=>0≤σ.2∧σ.2≤(s.length:Int)∧σ.1=34::Nh (s.take σ.2.toNat)) (λσ=>s.length-σ.2.toNat)
  (λo=>BP (λν=>DE ν) o=some (JV s)) (λσ ⟨h0,hl,ha⟩=>by
   obtain⟨out,x⟩:=σ;simp only at h0 hl ha;show(∃s',Dc s out x=_∧_)∨∃o,Dc s out x=_∧_;have hb:=Ql (s.take x.toNat);have hb2:(s.take x.toNat).length≤s.length:=by rw[ZZ];omega
   have hol:out.length≤3*s.length+1:=by rw[ha,Zj];omega
   by_cases hx:x<(s.length:Int)
   ·obtain⟨c,hc⟩:∃c,s[x.toNat]? =some c:=⟨s[x.toNat]'(by omega),Zg (by omega)⟩
    have a1:0≤x+1:=by omega
    have a2:x+1≤s.length:=by omega
    have a3:s.length-(x+1).toNat<s.length-x.toNat:=by omega
    have a4:out++T2 c=34::Nh (s.take (x+1).toNat):=by rw[show(x+1).toNat=x.toNat+1 from by omega,T1 hc,ha];rfl
    exact .inl ⟨(out++T2 c,x+1),O1 h0 hx hs hol hc,⟨a1,a2,a4⟩,a3⟩
   ·have e:x.toNat=s.length:=by omega
    have hk:DE out=some (out++[34]):=SS (by omega);have hf:out++[34]=JV s:=by rw[ha,e,List.take_length];rfl
    exact .inr ⟨.go out,P7 hx,(CK (λν=>DE ν) out).trans (hk.trans (congrArg some hf))⟩) F ([34],0) ⟨ZF 0,by show(0:Int)≤s.length;omega,by show([34]:AE)=34::Nh (s.take 0);simp[Nh]⟩ (by show s.length-0<F;omega)
 unfold Io;rw[AZ h1,h2]
section
variable {M : Nat} {v : List Au}
theorem YJ (a b c d e:AE):(((a++b)++c)++d)++e=a++(b++(c++d)++e):=by simp
theorem YK (a b c d:AE):((a++b)++c)++d=a++([]++(b++c)++d):=by simp
theorem YL (a b c:AE):(a++b)++c=a++(b++[]++c):=by simp
theorem YM (a b:AE):a++b=a++([]++[]++b):=by simp
theorem Wo (a:AE)(c:UInt8):((a++[c]).length:Int)=a.length+1:=by rw[Zs,ZI,Int.natCast_add];rfl
theorem Qb (a b:AE):((a++b).length:Int)=a.length+b.length:=by rw[Zs,Int.natCast_add]
theorem NB {F:Nat}{i:Int}{rec:List Au→Int→Option AE}{out tx:AE}{at_ x:Int}{m:Bool}{p q:Int}{pc:Au}{key:Option AE}{last:Option AE}(hpc:Ac v i=pc)(hm:decide (pc.fKind=6)=m)(hx:x<pc.fN)(hx0:0≤x)(hpcN:pc.fN≤9223372036854775807)
  (ha0:0≤at_) (haM:at_<v.length) (hvM:(v.length:Int)≤1152921504606846976) (hk:CV m last key=true) (hkey:∀s,key=some s→(Ac v at_).fStr=s∧s.length<F∧s.length≤1152921504606846976) (hp:p=bif m then at_+1 else at_) (hr:rec v p=some tx) (hq:D8 F v p=some q)
  (hlen:((out++(HM (decide (x=0))++NQ key++tx)).length:Int)≤4611686018427387904):Ee F v i rec out at_ x=some (.next (out++(HM (decide (x=0))++NQ key++tx),q,x+1)):=by
 have hb:(([44]:AE).length:Int)=1:=rfl;have hd:(([58]:AE).length:Int)=1:=rfl;have hx1:Bn (BZ .i64 (x+1)) (some (Stp.next (out++(HM (decide (x=0))++NQ key++tx),q,x+1)):Option (Stp (AE×Int×Int) (Out AE AE)))=some (Stp.next (out++(HM (decide (x=0))++NQ key++tx),q,x+1)):=AU (by omega) (by omega);unfold Ee;rw[hpc,AQ (Zc hx),hm]
 cases ha:decide (x=0) with
 | true=>
  rw[ha] at hx1 hlen;simp only[Za] at ha;rw[AH (Ze (by omega))]
  cases m with
  | true=>
   cases key with
   | none=>simp[CV] at hk
   | some s=>
    obtain⟨e1,e2,e3⟩:=hkey s rfl;simp only[Zl] at hp;have e:((out++JV s)++[58])++tx=out++(HM true++NQ (some s)++tx):=YK _ _ _ _;rw[← e] at hx1 hlen ⊢;have h1:=Qb ((out++JV s)++[58]) tx;have h2:=Wo (out++JV s) 58;have h3:=Qb out (JV s);rw[AQ rfl,Bu ha0 haM,e1,JT e2 e3,AZ rfl,AU (by omega) (by omega),hd,AU (by omega) (by omega),AU (by omega) (by omega),← hp,hr,AZ rfl,AU (by omega) (by omega),hq,AZ rfl,hx1]
  | false=>
   cases key with
   | some s=>simp[CV] at hk
   | none=>
    simp only[Zh] at hp;have e:out++tx=out++(HM true++NQ none++tx):=YM _ _;rw[← e] at hx1 hlen ⊢;have h1:=Qb out tx;rw[AH rfl,← hp,hr,AZ rfl,AU (by omega) (by omega),hq,AZ rfl,hx1]
 | false=>
  rw[ha] at hx1 hlen;simp only[YZ] at ha;rw[AQ (Zc (by omega))]
  cases m with
  | true=>
   cases key with
   | none=>simp[CV] at hk
   | some s=>
    obtain⟨e1,e2,e3⟩:=hkey s rfl;simp only[Zl] at hp;have e:(((out++[44])++JV s)++[58])++tx=out++(HM false++NQ (some s)++tx):=YJ _ _ _ _ _;rw[← e] at hx1 hlen ⊢;have h1:=Qb (((out++[44])++JV s)++[58]) tx;have h2:=Wo ((out++[44])++JV s) 58;have h3:=Qb (out++[44]) (JV s);have h4:=Wo out 44;rw[hb,AU (by omega) (by omega),AQ rfl,Bu ha0 haM,e1,JT e2 e3,AZ rfl,AU (by omega) (by omega),hd,AU (by omega) (by omega),AU (by omega) (by omega),← hp,hr,AZ rfl,AU (by omega) (by omega),hq,AZ rfl,hx1]
  | false=>
   cases key with
   | some s=>simp[CV] at hk
   | none=>
    simp only[Zh] at hp;have e:(out++[44])++tx=out++(HM false++NQ none++tx):=YL _ _ _;rw[← e] at hx1 hlen ⊢;have h1:=Qb (out++[44]) tx;have h4:=Wo out 44;rw[hb,AU (by omega) (by omega),AH rfl,← hp,hr,AZ rfl,AU (by omega) (by omega),hq,AZ rfl,hx1]
theorem RE {i:Int}{pc:Au}{out:AE}(hpc:Ac v i=pc)(h:out.length≤4611686018427387904):Hj v i out=some (TJ pc out):=by
 unfold Hj TJ;have l1:(([123]:AE).length:Int)=1:=rfl;have l2:(([91]:AE).length:Int)=1:=rfl;have l3:(([125]:AE).length:Int)=1:=rfl;have l4:(([93]:AE).length:Int)=1:=rfl;have h1:=Qb [123] out;have h2:=Qb [91] out;rw[hpc]
 cases hk:decide (pc.fKind=6) with
 | true=>rw[AQ rfl,AU (by omega) (by omega),AU (by omega) (by omega)];rfl
 | false=>rw[AH rfl,AU (by omega) (by omega),AU (by omega) (by omega)];rfl
theorem MK {F:Nat}{p:Int}{c:Au}{r:List Au}(h0:0≤p)(hpM:p≤1152921504606846976)(hd:v.drop p.toNat=c::r)(hp:pl c=true)(hn:decide (0<c.fN)=false)(hs:c.fStr.length<F+1)(hs2:c.fStr.length≤1152921504606846976)(hi:BZ .i64 c.fInt=true):GK (F+2) v p=some (LM c):=by
 obtain⟨g1,g2,g3⟩:=Co h0 hd;rw[GK];unfold Ln LM;rw[Bu h0 g3,Dz h0 hd]
 cases k1:decide (c.fKind=1) with
 | true=>rw[AQ rfl];rfl
 | false=>
 rw[AH rfl]
 cases k2:decide (c.fKind=2) with
 | true=>rw[AQ rfl];cases decide (c.fInt=1)<;>rfl
 | false=>
 rw[AH rfl]
 cases k3:decide (c.fKind=3) with
 | true=>rw[AQ rfl,B1 hi];rfl
 | false=>
 rw[AH rfl]
 cases k4:decide (c.fKind=4) with
 | true=>rw[AQ rfl,JT hs hs2,AZ rfl];rfl
 | false=>
 have hgo:Ee (F+1) v p (GK (F+1)) [] (p+1) 0=some (.out (.go [])):=by
  unfold Ee;rw[Dz h0 hd,AH hn]
 rw[AH rfl,AU (by omega) (by omega),AZ (JJ (o:=.go []) hgo),CK,RE (Dz h0 hd) (by simp)];simp only[Zh,TJ]
 cases decide (c.fKind=6)<;>rfl
end
section
variable {M : Nat} {v : List Au}
theorem Ew {α:Type}[Inhabited α](a:α):ov (some a)=a:=rfl
theorem US {at_:Int}{k:Option AE}{r:List Au}(h0:0≤at_)(hA:Nt M v){F:Nat}(hF:M<F)(hd:v.drop at_.toNat=BV k++r):∀s,k=some s→(Ac v at_).fStr=s∧s.length<F∧s.length≤1152921504606846976:=λs e=>by
 subst e;have hd':v.drop at_.toNat=⟨4,0,s,0⟩::r:=by simpa[BV] using hd
 have h1:=Dz h0 hd';have h2:=(hA.hc _ (Zk (Co h0 hd').1)).1;have hM:=hA.hM;simp only at h2;exact⟨by rw[h1],by omega,by omega⟩
theorem P5 (hA:Nt M v):∀(g:Fo) (F L:Nat) (i at_ x:Int) (out:AE) (m:Bool) (last:Option AE) (ys:List Au) (pc:Au),Ac v i=pc→decide (pc.fKind=6)=m→pc.fN≤9223372036854775807→g.wf m last=true→v.drop at_.toNat=g.flat++ys→0≤at_→at_≤v.length→pc.fN=x+g.cnt→0≤x→(out++g.txt (decide (x=0))).length≤4611686018427387904→g.cnt<L→3*M+5+g.flat.length<F→
  ∃o,BS (λσ=>Ee F v i (GK F) σ.1 σ.2.1 σ.2.2) L (out,at_,x)=some o∧BP (λν=>Hj v i ν) o=some (TJ pc (out++g.txt (decide (x=0)))):=by
 have hM:=hA.hM;have hvM:=hA.hv;intro g
 induction g with
 | nil=>
  intro F L i at_ x out m last ys pc hpc hm hpN hw hd h0 h1 hN hx hlen hL hF;obtain⟨L,rfl⟩:∃K,L=K+1:=⟨L-1,by omega⟩
  have hgo:Ee F v i (GK F) out at_ x=some (.out (.go out)):=by
   simp only[Fo.cnt] at hN;unfold Ee;rw[hpc,AH (Ze (by omega))]
  refine⟨.go out,JJ hgo,?_⟩;simp only[Fo.txt,ZT] at hlen ⊢;rw[CK,RE hpc hlen]
 | cell k c r ih=>
  intro F L i at_ x out m last ys pc hpc hm hpN hw hd h0 h1 hN hx hlen hL hF;simp only[Fo.wf,Zd,Zq] at hw;obtain⟨⟨⟨w1,w2⟩,w3⟩,w4⟩:=hw;simp only[Fo.flat,Z5,ZR] at hd;simp only[Fo.cnt] at hN hL;simp only[Fo.flat,Zs,Zj] at hF;obtain⟨L,rfl⟩:∃K,L=K+1:=⟨L-1,by omega⟩
  obtain⟨F,rfl⟩:∃K,F=K+2:=⟨F-2,by omega⟩
  have hd1:=D4 h0 hd;have hkl:=Mp w1;obtain⟨g1,g2,g3⟩:=Co (by omega) hd1;have hcM:=hA.hc c (Zk g1);have hp:at_+(BV k).length=bif m then at_+1 else at_:=by rw[hkl];cases m<;>simp
  have hq:=hA.next (F:=F+2) (by omega) (p:=at_+(BV k).length) (by omega) (by omega);rw[OA (f:=.cell none c .nil) (ys:=r.flat++ys) rfl (Rx w2 w3) hd1] at hq;have e:out++(Fo.cell k c r).txt (decide (x=0))=(out++(HM (decide (x=0))++NQ k++LM c))++r.txt (decide (x+1=0)):=by
   rw[Ze (show ¬ x+1=0 by omega)];simp[Fo.txt]
  rw[e] at hlen ⊢;have hl2:((out++(HM (decide (x=0))++NQ k++LM c)).length:Int)≤4611686018427387904:=by rw[Zs] at hlen;omega
  have hat:at_<v.length:=by omega
  have hb:=NB hpc hm (by omega) hx hpN h0 hat (by omega) w1 (US h0 hA (F:=F+2) (by omega) hd) hp (MK (F:=F) (by omega) (by omega) hd1 w2 w3 (by omega) (by omega) hcM.2.1) hq hl2;obtain⟨o,ho1,ho2⟩:=ih (F+2) L i (at_+(BV k).length+((Fo.cell none c .nil).flat.length:Int)) (x+1) (out++(HM (decide (x=0))++NQ k++LM c)) m k ys pc hpc hm hpN w4 (by rw[show(Fo.cell none c .nil).flat.length=1 from rfl];exact g2) (by omega) (by rw[show(Fo.cell none c .nil).flat.length=1 from rfl];omega) (by omega) (by omega) hlen (by omega) (by omega);exact⟨o,NL hb ho1,ho2⟩
 | node k c kids r ihk ih=>
  intro F L i at_ x out m last ys pc hpc hm hpN hw hd h0 h1 hN hx hlen hL hF;simp only[Fo.wf,Zd,Za] at hw;obtain⟨⟨⟨⟨⟨w1,w2⟩,w3⟩,w5⟩,w6⟩,w4⟩:=hw;simp only[Fo.flat,Z5,ZR] at hd;simp only[Fo.cnt] at hN hL;simp only[Fo.flat,Zs,Zj] at hF;obtain⟨L,rfl⟩:∃K,L=K+1:=⟨L-1,by omega⟩
  obtain⟨F,rfl⟩:∃K,F=K+1:=⟨F-1,by omega⟩
  have hd1:=D4 h0 hd;have hkl:=Mp w1;obtain⟨g1,g2,g3⟩:=Co (by omega) hd1;have hcN:=(hA.hc c (Zk g1)).2.2;have hp:at_+(BV k).length=bif m then at_+1 else at_:=by rw[hkl];cases m<;>simp
  have hq:=hA.next (F:=F+1) (by omega) (p:=at_+(BV k).length) (by omega) (by omega);have hfl:(Fo.node none c kids .nil).flat=c::kids.flat:=by simp[Fo.flat,BV]
  rw[OA (f:=.node none c kids .nil) (ys:=r.flat++ys) rfl (Rw w2 w3 w5 w6) (by rw[hd1,hfl];simp)] at hq;have hcf:=CC kids;have hvl:(v.drop (at_+(BV k).length+1).toNat).length=kids.flat.length+(r.flat.length+ys.length):=by rw[g2];simp
  rw[ZX] at hvl;have e:out++(Fo.node k c kids r).txt (decide (x=0))=(out++(HM (decide (x=0))++NQ k++TJ c (kids.txt true)))++r.txt (decide (x+1=0)):=by
   rw[Ze (show ¬ x+1=0 by omega)];simp[Fo.txt]
  rw[e] at hlen ⊢;have hl2:((out++(HM (decide (x=0))++NQ k++TJ c (kids.txt true))).length:Int)≤4611686018427387904:=by rw[Zs] at hlen;omega
  have hl3:(kids.txt true).length≤4611686018427387904:=by
   have:=OT c (kids.txt true);rw[Zs,Zs] at hl2;omega
  have hat:at_<v.length:=by omega
  have hrec:GK (F+1) v (at_+(BV k).length)=some (TJ c (kids.txt true)):=by
   rw[GK];unfold Ln;have ha:=(KF w2 w3).1;rw[Bu (by omega) g3,Dz (by omega) hd1,AH (Ze (by omega)),AH (Ze (by omega)),AH (Ze (by omega)),AH (Ze (by omega)),AU (by omega) (by omega)];obtain⟨o,ho1,ho2⟩:=ihk F F (at_+(BV k).length) (at_+(BV k).length+1) 0 [] _ none (r.flat++ys) c (Dz (by omega) hd1) rfl hcN w6 (by rw[g2]) (by omega) (by omega) (by omega) (ZF 0) hl3 (by omega) (by omega);rw[AZ ho1,ho2];rfl
  have hb:=NB hpc hm (by omega) hx hpN h0 hat (by omega) w1 (US h0 hA (F:=F+1) (by omega) hd) hp hrec hq hl2;obtain⟨o,ho1,ho2⟩:=ih (F+1) L i (at_+(BV k).length+((Fo.node none c kids .nil).flat.length:Int)) (x+1) (out++(HM (decide (x=0))++NQ k++TJ c (kids.txt true))) m k ys pc hpc hm hpN w4 (by
   have:=D4 (by omega) g2;rw[hfl,Zj,show at_+(BV k).length+((kids.flat.length+1:Nat):Int)=at_+(BV k).length+1+kids.flat.length from by omega];exact this) (by omega) (by rw[hfl,Zj];omega) (by omega) (by omega) hlen (by omega) (by omega)
  exact⟨o,NL hb ho1,ho2⟩
theorem Ut (hA:Nt M v){F:Nat}{p:Int}{f:Fo}{ys:List Au}(h0:0≤p)(h1:f.one=true)(hw:f.wf false none=true)(hd:v.drop p.toNat=f.flat++ys)(hF:3*M+6+f.flat.length<F)(hlen:(f.txt true).length≤4611686018427387904):GK F v p=some (f.txt true):=by
 have hM:=hA.hM;have hvM:=hA.hv
 cases f with
 | nil=>cases h1
 | cell k c r=>
  cases k with
  | some s=>cases h1
  | none=>
   cases r with
   | nil=>
    simp only[Fo.wf,Zd,Zq] at hw;obtain⟨F,rfl⟩:∃K,F=K+2:=⟨F-2,by omega⟩
    have hd':v.drop p.toNat=c::ys:=by simpa[Fo.flat,BV] using hd
    have hcM:=hA.hc c (Zk (Co h0 hd').1);rw[MK h0 (by have:=(Co h0 hd').2.2;omega) hd' hw.1.1.2 hw.1.2 (by omega) (by omega) hcM.2.1];simp[Fo.txt,HM,NQ]
   | cell _ _ _=>cases h1
   | node _ _ _ _=>cases h1
 | node k c kids r=>
  cases k with
  | some s=>cases h1
  | none=>
   cases r with
   | nil=>
    simp only[Fo.wf,Zd,Za] at hw;obtain⟨⟨⟨⟨⟨w1,w2⟩,w3⟩,w5⟩,w6⟩,w4⟩:=hw;have hd':v.drop p.toNat=c::(kids.flat++ys):=by simpa[Fo.flat,BV] using hd
    obtain⟨g1,g2,g3⟩:=Co h0 hd';have hcN:=(hA.hc c (Zk g1)).2.2;have hcf:=CC kids;simp only[Fo.flat,BV,ZV,ZT,Zj] at hF;have et:(Fo.node none c kids .nil).txt true=TJ c (kids.txt true):=by simp[Fo.txt,HM,NQ]
    rw[et] at hlen ⊢;have hbl:=OT c (kids.txt true);obtain⟨F,rfl⟩:∃K,F=K+1:=⟨F-1,by omega⟩
    rw[GK];unfold Ln;have ha:=(KF w2 w3).1;rw[Bu h0 g3,Dz h0 hd',AH (Ze (by omega)),AH (Ze (by omega)),AH (Ze (by omega)),AH (Ze (by omega)),AU (by omega) (by omega)];obtain⟨o,ho1,ho2⟩:=P5 hA kids F F p (p+1) 0 [] _ none ys c (Dz h0 hd') rfl hcN w6 g2 (by omega) (by omega) (by omega) (ZF 0) (by show(kids.txt true).length≤_;omega) (by omega) (by omega);rw[AZ ho1,ho2];rfl
   | cell _ _ _=>cases h1
   | node _ _ _ _=>cases h1
theorem Tb {F:Nat}{K:Option Int}(hF:v.length<F)(hv:v.length≤1152921504606846976):B7 (BS (λσ=>Eu v σ) F 0) (BP λ_=>K)=bif v.any J5 then some 2 else K:=by
 obtain⟨o,h1,h2⟩:=H6 (body:=λσ=>Eu v σ) (λx=>0≤x∧x≤(v.length:Int)∧(v.take x.toNat).any J5=false) (λx=>v.length-x.toNat)
  (λo=>BP (λ_=>K) o=bif v.any J5 then some 2 else K) (λx ⟨h0,hl,ha⟩=>by
   by_cases hx:x<(v.length:Int)
   ·obtain⟨c,hc⟩:∃c,v[x.toNat]? =some c:=⟨v[x.toNat]'(by omega),Zg (by omega)⟩
    have hat:Ac v x=c:=by simp[Ac,hc]
    have ho:(decide (c.fKind=3)&&(decide (c.fInt<(-1000000000000))||decide (1000000000000<c.fInt)))=J5 c:=by
     unfold J5
     cases decide (c.fKind=3) with
     | false=>rfl
     | true=>
      rw[Zr,Zr,Z7];simp only[Zz,Za,Zq,ZE,YZ];omega
    have hb:Eu v x=B0 (J5 c) (some (.out (.ret 2))) (some (.next (x+1))):=by
     unfold Eu;rw[AQ (Zc hx),Bu h0 hx,hat,ho,AU (by omega) (by omega)]
    cases hq:J5 c with
    | true=>
     refine .inr ⟨.ret 2,hb.trans (AQ hq),?_⟩;have:v.any J5=true:=List.any_eq_true.2 ⟨c,Zk hc,hq⟩;rw[PQ,this];rfl
    | false=>
     have a3:(v.take (x+1).toNat).any J5=false:=by
      rw[show(x+1).toNat=x.toNat+1 from by omega,List.take_add_one,hc,List.any_append,ha];simp[hq]
     exact .inl ⟨x+1,hb.trans (AH hq),⟨by omega,by omega,a3⟩,by omega⟩
   ·refine .inr ⟨.go (),by unfold Eu;rw[AH (Ze hx)],?_⟩;rw[show x.toNat=v.length from by omega,List.take_length] at ha;rw[CK,ha];rfl) F 0 ⟨ZF 0,by omega,by simp⟩ (by simpa using hF)
 rw[AZ h1,h2]
theorem Ta {F:Nat}{K:Option Int}(hF:v.length<F)(hv:v.length≤1152921504606846976):B7 (BS (λσ=>Et v σ) F 0) (BP λ_=>K)=bif v.any I6 then some 3 else K:=by
 obtain⟨o,h1,h2⟩:=H6 (body:=λσ=>Et v σ) (λx=>0≤x∧x≤(v.length:Int)∧(v.take x.toNat).any I6=false) (λx=>v.length-x.toNat)
  (λo=>BP (λ_=>K) o=bif v.any I6 then some 3 else K) (λx ⟨h0,hl,ha⟩=>by
   by_cases hx:x<(v.length:Int)
   ·obtain⟨c,hc⟩:∃c,v[x.toNat]? =some c:=⟨v[x.toNat]'(by omega),Zg (by omega)⟩
    have hat:Ac v x=c:=by simp[Ac,hc]
    have hb:Et v x=B0 (I6 c) (some (.out (.ret 3))) (some (.next (x+1))):=by
     unfold Et;rw[AQ (Zc hx),Bu h0 hx,hat,AU (by omega) (by omega)];rfl
    cases hq:I6 c with
    | true=>
     refine .inr ⟨.ret 3,hb.trans (AQ hq),?_⟩;have:v.any I6=true:=List.any_eq_true.2 ⟨c,Zk hc,hq⟩;rw[PQ,this];rfl
    | false=>
     have a3:(v.take (x+1).toNat).any I6=false:=by
      rw[show(x+1).toNat=x.toNat+1 from by omega,List.take_add_one,hc,List.any_append,ha];simp[hq]
     exact .inl ⟨x+1,hb.trans (AH hq),⟨by omega,by omega,a3⟩,by omega⟩
   ·refine .inr ⟨.go (),by unfold Et;rw[AH (Ze hx)],?_⟩;rw[show x.toNat=v.length from by omega,List.take_length] at ha;rw[CK,ha];rfl) F 0 ⟨ZF 0,by omega,by simp⟩ (by simpa using hF)
 rw[AZ h1,h2]
theorem ON:decide (I4 v 0=v.length)=(whole v).isSome:=by
 unfold I4 whole;rw[show v.drop (0:Int).toNat=v from rfl]
 cases hp:HV v with
 | none=>simp
 | some q=>
  obtain⟨f,ys⟩:=q;have h1:=(Jw hp).1;have hl:v.length=f.flat.length+ys.length:=by rw[h1];simp
  cases ys with
  | nil=>simp at hl ⊢;omega
  | cons c r=>simp at hl ⊢;omega
theorem Tc (hA:Nt M v)(hM:M≤1000000){F:Nat}(hF:4*M+6<F):MR F v=some (Vi v):=by
 have hvM:=hA.hv;unfold MR;rw[Re (hA.rf (Zo M)) (λc hc=>(hA.hc c hc).2.2) (by omega),AZ rfl,ON];unfold Vi
 cases hwh:whole v with
 | none=>rfl
 | some f=>
  obtain⟨h1,h2,h3⟩:=Q7 hwh;rw[AH (p:=!(some f).isSome) rfl]
  change _=some (W0 f)
  have hl:v.length=f.flat.length:=by rw[h1]
  have hc:∀c∈f.flat,c.fStr.length≤M∧BZ .i64 c.fInt=true∧c.fN≤9223372036854775807:=λc hc=>hA.hc c (by rw[h1];exact hc);have hb:=Of hM h2 (by omega) hc;have htl:((f.txt true).length:Int)=f.byt:=by rw[K4 f false none true h2,RM h3];simp
  have hd0:v.drop (0:Int).toNat=f.flat++[]:=by rw[ZT];exact h1
  rw[Tb (by omega) (by omega)];unfold W0 HS;rw[Rd hA (ZF 0) h3 h2 hd0 (by omega),B1 (by simp[imp]),Ta (by omega) (by omega)];unfold HR;rw[Ut hA (ZF 0) h3 h2 hd0 (by omega) (by omega),AZ rfl];rw[Ew,hl,← h1];have a1:decide ((200:Int)<(v.length:Int))=decide (200<v.length):=by rw[Z7];simp;omega
  have a2:decide ((8:Int)<(f.dep:Int))=decide (8<f.dep):=by rw[Z7];simp;omega
  have a3:decide ((4000:Int)<((f.txt true).length:Int))=decide (4000<(f.txt true).length):=by rw[Z7];simp;omega
  rw[a1,a2,a3]
  cases v.any J5<;>cases v.any I6<;>cases decide (200<v.length)<;>cases decide (8<f.dep)<;>cases decide (4000<(f.txt true).length)<;>rfl
end
section
variable {M : Nat}
end
section
variable {M : Nat}
end
def Ue (v:List Au):Bool:=!decide (300<v.length)&&v.all λc=>!decide (300<c.fStr.length)
def U9 (c:Au):Bool:=BZ .i64 c.fKind&&BZ .i64 c.fInt&&V6 c.fStr&&BZ .i64 c.fN
theorem Nt.of {v:List Au}(hs:Ue v=true)(hc:v.all U9=true):Nt 300 v:=by
 unfold Ue at hs;simp only[Zd,Zq,YZ,ZD] at hs hc;refine⟨by decide,by omega,λc h=>?_⟩;obtain h1:=hs.2 c h;obtain h2:=hc c h;unfold U9 at h2;simp only[Zd] at h2;exact⟨by omega,h2.1.1.2,(Gw h2.2).2⟩
theorem Ro (a:Bool):imp a true=true:=by cases a<;>rfl
section
variable {M : Nat}
end
theorem Wl {α:Type}{l:List α}{body:Int→Option (Stp Int (Out Bool Unit))}{bad:α→Bool}(hb:∀(i:Nat) (h:i<l.length),body (i:Int)=some (bif bad l[i] then .out (.ret false) else .next ((i:Int)+1)))(he:body (l.length:Int)=some (.out (.go ()))) :
  ∀(d n i:Nat),i+d=l.length→d<n→∃o,BS body n (i:Int)=some o∧∀k:Option Bool,BP (λ_=>k) o=bif (l.drop i).any bad then some false else k:=by
 intro d
 induction d with
 | zero=>
  intro n i h hn;obtain⟨n,rfl⟩:∃m,n=m+1:=⟨n-1,by omega⟩
  obtain rfl:i=l.length:=by omega
  refine⟨.go (),by rw[BS,he],λk=>?_⟩;rw[List.drop_length];rfl
 | succ d ih=>
  intro n i h hn;obtain⟨n,rfl⟩:∃m,n=m+1:=⟨n-1,by omega⟩
  have hi:i<l.length:=by omega
  have hd:=List.drop_eq_getElem_cons hi;have h1:=hb i hi
  cases hq:bad l[i] with
  | true=>
   rw[hq] at h1;refine⟨.ret false,by rw[BS,h1];rfl,λk=>?_⟩;rw[hd,List.any_cons,hq];rfl
  | false=>
   rw[hq] at h1;obtain⟨o,h2,h3⟩:=ih n (i+1) (by omega) (by omega);refine⟨o,by rw[BS,h1];exact h2,λk=>?_⟩;rw[h3 k,hd,List.any_cons,hq,Zn]
theorem MY {α:Type}{l:List α}{body:Int→Option (Stp Int (Out Bool Unit))}{bad:α→Bool}{F:Nat}(hF:l.length<F)(hb:∀(i:Nat) (h:i<l.length),body (i:Int)=some (bif bad l[i] then .out (.ret false) else .next ((i:Int)+1)))(he:body (l.length:Int)=some (.out (.go ())))(k:Option Bool) :
  B7 (BS body F 0) (BP λ_=>k)=bif l.any bad then some false else k:=by
 obtain⟨o,h1,h2⟩:=Wl hb he l.length F 0 (by omega) hF;have h1':BS body F 0=some o:=h1;rw[AZ h1',h2 k,List.drop_zero]
theorem GS {α:Type}(n:Nat)(f:List α):decide (((n:Nat):Int)<(f.length:Int))=decide (n<f.length):=by rw[Z7];simp
theorem Gg {α:Type}[Inhabited α]{l:List α}{i:Nat}(h:i<l.length):Ac l (i:Int)=l[i]:=by simp[Ac,h]
def TA (e:Ay):Bool:=decide (300<e.fID.length)||(decide (300<e.fTenant.length)||(decide (300<e.fSource.length)||(decide (300<e.fKey.length)||(decide (300<e.fCause.length)||decide (300<e.fBody.length)))))
def DT (e:Ay):Bool:=!TA e&&!e.fBody.any λc=>decide (5000<c.fStr.length)
theorem ML {F:Nat}(hF:300<F)(e:Ay):C8 F e=some (DT e):=by
 unfold C8 DT;have hbig:((decide (300<(e.fID.length:Int)))||((decide (300<(e.fTenant.length:Int)))||((decide (300<(e.fSource.length:Int)))||((decide (300<(e.fKey.length:Int)))||((decide (300<(e.fCause.length:Int)))||(decide (300<(e.fBody.length:Int))))))))=TA e:=by
  unfold TA;rw[← GS 300 e.fID,← GS 300 e.fTenant,← GS 300 e.fSource,← GS 300 e.fKey,← GS 300 e.fCause,← GS 300 e.fBody];rfl
 rw[hbig]
 cases hb:TA e with
 | true=>rfl
 | false=>
  have hl:e.fBody.length≤300:=by
   unfold TA at hb;simp only[Z3,YZ] at hb;omega
  have h:=MY (l:=e.fBody) (F:=F) (body:=λσ=>Da e σ) (bad:=λc=>decide (5000<c.fStr.length)) (by omega) (λi h=>by
   unfold Da;rw[AQ (Zc (by omega)),Bu (by omega) (by omega),Gg h,AU (by omega) (by omega)];have:=GS 5000 (e.fBody[i]).fStr;rw[show decide ((5000:Int)<((e.fBody[i]).fStr.length:Int))=decide (5000<(e.fBody[i]).fStr.length) from this]
   cases decide (5000<(e.fBody[i]).fStr.length)<;>rfl) (by unfold Da;rw[AH (Ze (by omega))]) (some true)
  rw[AH rfl];exact h.trans (by cases e.fBody.any _<;>rfl)
def LQ (o:Bc):Bool:=!DT o.fEvent||decide (300<o.fReceipt.length)
def IN (l:List Bc):Bool:=!decide (300<l.length)&&!l.any LQ
theorem Qc {F:Nat}(hF:300<F)(l:List Bc):Jb F l=some (IN l):=by
 unfold Jb IN;rw[show decide ((300:Int)<(l.length:Int))=decide (300<l.length) from GS 300 l]
 cases hb:decide (300<l.length) with
 | true=>rfl
 | false=>
  simp only[YZ] at hb;have h:=MY (l:=l) (F:=F) (body:=λσ=>Ej F l σ) (bad:=LQ) (by omega) (λi h=>by
   unfold Ej;rw[AQ (Zc (by omega)),Bu (by omega) (by omega),Gg h,ML hF,Option.isSome_some,B1 rfl,AU (by omega) (by omega),show decide ((300:Int)<((l[i]).fReceipt.length:Int))=decide (300<(l[i]).fReceipt.length) from GS 300 _];have:((!(ov (some (DT (l[i]).fEvent))))||(decide (300<((l[i]).fReceipt).length)))=LQ l[i]:=rfl;rw[this]
   cases LQ l[i]<;>rfl) (by unfold Ej;rw[AH (Ze (by omega))]) (some true)
  rw[AH rfl];exact h.trans (by cases l.any _<;>rfl)
theorem QW {F:Nat}{a:List Au}(hF:a.length<F)(ha:a.length≤1000000000):LH F a a=some true:=by
 unfold LH;rw[AH (by simp)];have h:=MY (l:=a) (F:=F) (body:=λσ=>Hk a a σ) (bad:=λ_=>false) hF (λi h=>by
  unfold Hk;rw[AQ (Zc (by omega)),Bu (by omega) (by omega),Bu (by omega) (by omega),AU (by omega) (by omega)];simp[B0]) (by unfold Hk;rw[AH (Ze (by omega))]) (some true)
 rw[show a.any (λ_=>false)=false from by simp] at h;exact h
theorem KE {F:Nat}{e:Ay}(hF:e.fBody.length<F)(he:e.fBody.length≤1000000000):Ev F e e=some true:=by
 unfold Ev;rw[QW hF he];simp only[decide_true,Option.isSome_some,Ro,B1,Ew,Bool.and_self]
theorem MI:∀a:AE,Cz a a=false
 | []=>rfl
 | x::a=>by
  show Op.bytesLess (x::a) (x::a)=false;have h : ¬ x<x:=λh=>absurd h (by simp);have ih:Op.bytesLess a a=false:=MI a;simp[Op.bytesLess,h,ih]
theorem Ov (x y:UInt8)(a b:AE):Cz (x::a) (y::b)=(decide (x<y)||(decide (x=y)&&Cz a b)):=by
 show Op.bytesLess (x::a) (y::b)=_;simp only[Op.bytesLess]
 by_cases h:x<y
 ·simp[h]
 ·by_cases e:x=y
  ·subst e;simp[h]
  ·have:y<x:=by
    rcases Nat.lt_trichotomy x.toNat y.toNat with h1 | h1 | h1
    ·exact absurd (UInt8.lt_iff_toNat_lt.2 h1) h
    ·exact absurd (UInt8.toNat_inj.1 h1) e
    ·exact UInt8.lt_iff_toNat_lt.2 h1
   simp[h,e,this]
theorem MH:∀{a b c:AE},Cz a b=true→Cz b c=true→Cz a c=true
 | [],[],_,h,_=>by cases h
 | [],_::_,[],_,h=>by cases h
 | [],_::_,_::_,_,_=>rfl
 | _::_,[],_,h,_=>by cases h
 | _::_,_::_,[],_,h=>by cases h
 | x::a,y::b,z::c,h,h'=>by
  rw[Ov] at h h' ⊢;simp only[Zz,Za,Zd] at h h' ⊢;have t:∀{u v:UInt8},u<v↔u.toNat<v.toNat:=UInt8.lt_iff_toNat_lt;rcases h with h | ⟨rfl,h⟩
  ·rcases h' with h' | ⟨rfl,h'⟩
   ·exact .inl (t.2 (Nat.lt_trans (t.1 h) (t.1 h')))
   ·exact .inl h
  ·rcases h' with h' | ⟨rfl,h'⟩
   ·exact .inl h'
   ·exact .inr ⟨rfl,MH h h'⟩
theorem P0:∀(a b:AE),Cz a b=true∨a=b∨Cz b a=true
 | [],[]=>.inr (.inl rfl)
 | [],_::_=>.inl rfl
 | _::_,[]=>.inr (.inr rfl)
 | x::a,y::b=>by
  rw[Ov,Ov];simp only[Zz,Za,Zd];rcases Nat.lt_trichotomy x.toNat y.toNat with h1 | h1 | h1
  ·exact .inl (.inl (UInt8.lt_iff_toNat_lt.2 h1))
  ·have e:=UInt8.toNat_inj.1 h1;subst e;rcases P0 a b with h | rfl | h
   ·exact .inl (.inr ⟨rfl,h⟩)
   ·exact .inr (.inl rfl)
   ·exact .inr (.inr (.inr ⟨rfl,h⟩))
  ·exact .inr (.inr (.inl (UInt8.lt_iff_toNat_lt.2 h1)))
theorem XV {a b:AE}(h:Cz a b=true):a≠b:=λe=>by subst e;rw[MI] at h;cases h
section
variable {T : Type}
def Ms (xs:List (AE×T)):Prop:=xs.Pairwise λp q=>Cz p.1 q.1=true
theorem Ms.nil:Ms ([]:List (AE×T)):=List.Pairwise.nil
theorem Ms.nodup {xs:List (AE×T)}(h:Ms xs):(xs.map (·.1)).Nodup:=by
 rw[List.Nodup,List.pairwise_map];exact h.imp λhpq=>XV hpq
theorem KN {xs:List (AE×T)}{k:AE}:mget xs k=none↔∀p∈xs,p.1≠k:=by
 induction xs with
 | nil=>simp[mget]
 | cons p r ih=>
  rw[mget]
  by_cases h:p.1=k
  ·rw[Zc h];simp[h]
  ·rw[Ze h];simp[h,ih]
theorem JI {xs:List (AE×T)}{k:AE}{v:T}(h:mget xs k=some v):(k,v)∈xs:=by
 induction xs with
 | nil=>cases h
 | cons p r ih=>
  rw[mget] at h
  by_cases e:p.1=k
  ·rw[Zc e] at h;cases h;subst e;exact List.mem_cons_self ..
  ·rw[Ze e] at h;exact List.mem_cons_of_mem _ (ih h)
theorem PY {k:AE}{v:T}{q:AE×T}:∀{xs:List (AE×T)},q∈mins k v xs→q=(k,v)∨q∈xs
 | [],h=>by simp[mins] at h;exact .inl h
 | p::r,h=>by
  rw[mins] at h
  cases hs:Cz k p.1 with
  | true=>rw[hs] at h;simpa using h
  | false=>
   rw[hs] at h;rcases List.mem_cons.1 h with h | h
   ·exact .inr (by rw[h];exact List.mem_cons_self ..)
   ·rcases PY h with h | h
    ·exact .inl h
    ·exact .inr (List.mem_cons_of_mem _ h)
theorem Ms.mins {k:AE}{v:T}:∀{xs:List (AE×T)},Ms xs→mget xs k=none→Ms (mins k v xs)
 | [],_,_=>List.pairwise_singleton ..
 | p::r,h,hk=>by
  obtain⟨h1,h2⟩:=List.pairwise_cons.1 h;rw[mget] at hk
  by_cases e:p.1=k
  ·rw[Zc e] at hk;cases hk
  ·rw[Ze e] at hk;rw[Proofs.YthbbedliepkakaaGreatDoor.mins]
   cases hs:Cz k p.1 with
   | true=>exact List.pairwise_cons.2 ⟨λq hq=>by
     rcases List.mem_cons.1 hq with rfl | hq
     ·exact hs
     ·exact MH hs (h1 q hq),h⟩
   | false=>
    have hp:Cz p.1 k=true:=by
     rcases P0 p.1 k with h | h | h
     ·exact h
     ·exact absurd h e
     ·rw[h] at hs;cases hs
    exact List.pairwise_cons.2 ⟨λq hq=>by
     rcases PY hq with rfl | hq
     ·exact hp
     ·exact h1 q hq,Ms.mins h2 hk⟩
theorem Ms.mput {xs:List (AE×T)}(h:Ms xs)(k:AE)(v:T):Ms (mput xs k v):=by
 unfold Proofs.YthbbedliepkakaaGreatDoor.mput;unfold Ms;rw[List.pairwise_map];refine h.imp fun {p q} hpq=>?_;have e:∀p:AE×T,(bif decide (p.1=k) then(k,v) else p).1=p.1:=λp=>by
  by_cases hp:p.1=k
  ·rw[Zc hp];exact hp.symm
  ·rw[Ze hp];rfl
 rw[e,e];exact hpq
theorem Ms.mset {xs:List (AE×T)}(h:Ms xs)(k:AE)(v:T):Ms (mset xs k v):=by
 unfold Proofs.YthbbedliepkakaaGreatDoor.mset Dh
 cases hk:mget xs k with
 | none=>exact h.mins hk
 | some w=>exact h.mput k v
theorem Ms.mdel {xs:List (AE×T)}(h:Ms xs)(k:AE):Ms (mdel xs k):=h.sublist (List.filter_sublist ..)
theorem Ms.ext:∀{xs ys:List (AE×T)},Ms xs→Ms ys→(∀k,mget xs k=mget ys k)→xs=ys
 | [],[],_,_,_=>rfl
 | [],q::s,_,_,h=>by
  have:=h q.1;rw[mget,mget,Zc rfl] at this;cases this
 | p::r,[],_,_,h=>by
  have:=h p.1;rw[mget,mget,Zc rfl] at this;cases this
 | p::r,q::s,hx,hy,h=>by
  obtain⟨x1,x2⟩:=List.pairwise_cons.1 hx;obtain⟨y1,y2⟩:=List.pairwise_cons.1 hy;have hpq:p.1=q.1:=by
   have a1:=h p.1;have a2:=h q.1;rw[mget,Zc rfl] at a1;rw[show mget (q::s) q.1=bif decide (q.1=q.1) then some q.2 else mget s q.1 from rfl,Zc rfl] at a2;simp only[Zl] at a1 a2;have m1:=JI a1.symm;have m2:=JI a2;rcases List.mem_cons.1 m1 with e | m1
   ·exact congrArg Prod.fst e
   ·rcases List.mem_cons.1 m2 with e | m2
    ·exact(congrArg Prod.fst e).symm
    ·have c1:=y1 _ m1;have c2:=x1 _ m2;have:=MH c1 c2;rw[MI] at this;cases this
  have e:p=q:=by
   have a1:=h p.1;rw[mget,Zc rfl,mget,Zc hpq.symm] at a1;simp only[Zl,Option.some.injEq] at a1;exact Prod.ext hpq a1
  subst e;rw[Ms.ext x2 y2 λk=>by
   have a1:=h k;rw[mget,mget] at a1
   by_cases e:p.1=k
   ·have n1:mget r k=none:=KN.2 λz hz e'=>by have:=x1 z hz;rw[e',← e,MI] at this;cases this
    have n2:mget s k=none:=KN.2 λz hz e'=>by have:=y1 z hz;rw[e',← e,MI] at this;cases this
    rw[n1,n2]
   ·rw[Ze e] at a1;exact a1]
end
section
variable {T : Type}
end
def I5 (ps:List Ad)(x y:Int):Bool:=DU (Ac ps x).fAt (Ac ps y).fAt (Ac ps x).fPlace (Ac ps y).fPlace
theorem Wj (ps:List Ad):V0 (I5 ps):=RS (λx:Int=>(Ac ps x).fAt) (λx=>(Ac ps x).fPlace)
theorem NA {T:Type}{lt:T→T→Bool}:∀{xs:List T},(xs.Pairwise λa b=>(lt a b||lt b a)=true)→E4 lt xs=true
 | [],_=>rfl
 | x::r,h=>by
  rw[List.pairwise_cons] at h;simp only[E4,Zd,ZD];exact⟨λy hy=>h.1 y hy,NA h.2⟩
theorem Kd {ps:List Ad}{xs:List Int}(h:xs.Pairwise λi j=>(Ac ps i).fPlace<(Ac ps j).fPlace):E4 (I5 ps) xs=true:=
 NA (h.imp fun {i j} hij=>by
  unfold I5 DU;simp only[Zz,Zd,Za];omega)
def EQ (ps:List Ad)(i:Int):Ay:=(Ac ps i).fEvent
def XS (e:Ay):Prop:=e.fID.length≤300∧e.fBody.length≤300∧E0 e.fID=true
structure QI (q:An) (ps:List Ad) (idx:List Int):Prop where
 vis:1≤q.fPolicy.fVisible∧q.fPolicy.fVisible≤1073741824
 rcs:1≤q.fPolicy.fReceives∧q.fPolicy.fReceives≤10
 pm:q.fWaiting.Perm (idx.map λi=>((Ac ps i).fEvent.fID,i))
 inr:∀i∈idx,C6 i (ps.length:Int)=true
 ord:idx.Pairwise λi j=>(Ac ps i).fPlace<(Ac ps j).fPlace
 plc:∀i∈idx,(Ac ps i).fPlace<q.fArrived
 ids:(idx.map (λi=>(Ac ps i).fEvent.fID)++q.fDead.map (·.fID)).Nodup
 now:0≤q.fNow∧q.fNow≤1073741824
 ats:∀i∈idx,0≤(Ac ps i).fAt∧(Ac ps i).fAt≤2147483648
 rcv:∀i∈idx,0≤(Ac ps i).fReceives∧(Ac ps i).fReceives≤q.fPolicy.fReceives
 cnt:idx.length+q.fDead.length≤256
 sm:∀i∈idx,XS (EQ ps i)
 smd:∀e∈q.fDead,XS e
theorem QI.wlen {q:An}{ps:List Ad}{idx:List Int}(h:QI q ps idx):q.fWaiting.length=idx.length:=by rw[h.pm.length_eq,Zt]
theorem XH {α:Type}{n:Nat}{x:Option α}(h:n≤1000000):Bn (IB 8 n) x=x:=B1 (Zc (by omega))
theorem PO {b:AE→Int→List Int→Option (Stp (List Int) (Out (List Int) (List Int)))}{holds:Int→Bool}{idx:List Int}(hb:∀(s:AE) (i:Int) (acc:List Int),i∈idx→acc.length≤100000→b s i acc=some (.next (bif holds i then acc++[i] else acc))) :
  ∀(o:List (AE×Int)) (s:List Int),s.length+o.length≤100000→(∀p∈o,p.2∈idx)→N1 (λpe τ=>b pe.1 pe.2 τ) o s=some (.go (s++(o.map (·.2)).filter holds))
 | [],s,_,_=>by simp[N1]
 | p::r,s,hl,h=>by
  simp only[Zj] at hl;have e:=hb p.1 p.2 s (h p (List.mem_cons_self ..)) (by omega);rw[N1,e];simp only;rw[PO hb r _ (by cases holds p.2<;>simp<;>omega) λq hq=>h q (List.mem_cons_of_mem _ hq)]
  cases hq:holds p.2<;>simp[hq]
theorem KG {ps:List Ad}{holds:Int→Bool}{ws:List (AE×Int)}{idx:List Int}{b:AE→Int→List Int→Option (Stp (List Int) (Out (List Int) (List Int)))}{k:List Int→Option (List Int)}
  (hpm:(ws.map (·.2)).Perm idx) (hl:idx.length≤256) (hin:∀i∈idx,C6 i (ps.length:Int)=true) (ho:idx.Pairwise λi j=>(Ac ps i).fPlace<(Ac ps j).fPlace)
  (hb:∀(s:AE) (i:Int) (acc:List Int),i∈idx→acc.length≤100000→b s i acc=some (.next (bif holds i then acc++[i] else acc)))
  (hk:∀acc,k acc=(Bn (acc.all (λi=>C6 i (ps.length:Int)))<|Bn (E4 (I5 ps) acc)<|Bn (Nat.blt acc.length 4611686018427387904)<|some (Gq (I5 ps) acc))) :
  OC ws (λord=>B7 (N1 (λpe τ=>b pe.1 pe.2 τ) ord ([]:List Int)) (BP λν=>k ν))=some (Gq (I5 ps) (idx.filter holds)):=by
 refine Xv λo hp=>?_;have hpo:(o.map (·.2)).Perm idx:=(hp.map _).trans hpm;have hlo:o.length=idx.length:=by rw[← hpo.length_eq,Zt]
 rw[PO hb o [] (by simp;omega) (λp hp'=>hpo.subset (List.mem_map_of_mem hp')),AZ rfl,CK,hk,ZV];have hpf:((o.map (·.2)).filter holds).Perm (idx.filter holds):=hpo.filter _;have hdf:E4 (I5 ps) (idx.filter holds)=true:=Kd (ho.filter _);have hall:((o.map (·.2)).filter holds).all (λi=>C6 i (ps.length:Int))=true:=by
  rw[ZD];exact λi hi=>hin i (hpo.subset (List.mem_filter.1 hi).1)
 have hle:((o.map (·.2)).filter holds).length≤256:=Nat.le_trans (List.length_filter_le _ _) (by rw[Zt];omega);rw[B1 hall,B1 (QT hdf hpf),B1 (by simp;omega),SH (Wj ps) hdf hpf]
theorem QI.vals {q:An}{ps:List Ad}{idx:List Int}(h:QI q ps idx):(q.fWaiting.map (·.2)).Perm idx:=by
 have:=h.pm.map (·.2)
 rwa [ZY,show((λp:AE×Int=>p.2) ∘ λi=>((Ac ps i).fEvent.fID,i))=id from rfl,List.map_id] at this
theorem QI.in' {q:An}{ps:List Ad}{idx:List Int}(h:QI q ps idx){i:Int}(hi:i∈idx):decide (0≤i)=true:=Zc (BD (h.inr i hi)).1
def Dd (q:An)(ps:List Ad)(now:Int)(i:Int):Bool:=decide ((Ac ps i).fAt≤now)&&decide (q.fPolicy.fReceives≤(Ac ps i).fReceives)
def DX (ps:List Ad)(now:Int)(i:Int):Bool:=decide ((Ac ps i).fAt≤now)
theorem Lb {b:Bool}{i:Int}{acc:List Int}(h:acc.length≤100000):B0 b (Bn (IB 8 (acc.length+([i]:List Int).length))<|some (Stp.next (acc++([i]:List Int)):Stp (List Int) (Out (List Int) (List Int)))) (some (.next acc))=some (.next (bif b then acc++[i] else acc)):=by
 cases b with
 | true=>rw[AQ rfl,XH (by simp;omega)];rfl
 | false=>rfl
theorem Pu {q:An}{ps:List Ad}{idx:List Int}(h:QI q ps idx)(q':An)(hw:q'.fWaiting=q.fWaiting)(hp:q'.fPolicy=q.fPolicy)(now:Int):IM q' ps now=some (Gq (I5 ps) (idx.filter (Dd q ps now))):=by
 unfold IM;rw[hw];refine KG h.vals (by have:=h.cnt;omega) h.inr h.ord (λs i acc hi ha=>?_) (λacc=>rfl);unfold G5 VQ N6;rw[B1 (h.in' hi),B1 (h.inr i hi),AZ rfl,AZ rfl];simp only[hp];exact Lb ha
theorem Pr {q:An}{ps:List Ad}{idx:List Int}(h:QI q ps idx)(now:Int):IJ q ps now=some (Gq (I5 ps) (idx.filter (DX ps now))):=by
 unfold IJ;refine KG h.vals (by have:=h.cnt;omega) h.inr h.ord (λs i acc hi ha=>?_) (λacc=>rfl);unfold G2 VL;rw[B1 (h.in' hi),B1 (h.inr i hi),AZ rfl];exact Lb ha
theorem Pt {q:An}{ps:List Ad}{idx:List Int}(h:QI q ps idx)(now:Int):IL q ps now=some (Gq (I5 ps) (idx.filter (DX ps now))):=by
 unfold IL;refine KG h.vals (by have:=h.cnt;omega) h.inr h.ord (λs i acc hi ha=>?_) (λacc=>rfl);unfold G4 VP;rw[B1 (h.in' hi),B1 (h.inr i hi),AZ rfl];exact Lb ha
theorem Ps {q:An}{ps:List Ad}{idx:List Int}(h:QI q ps idx)(now:Int):IK q ps now=some (Gq (I5 ps) (idx.filter (Dd q ps now))):=by
 unfold IK;refine KG h.vals (by have:=h.cnt;omega) h.inr h.ord (λs i acc hi ha=>?_) (λacc=>rfl);unfold G3 VO N6;rw[B1 (h.in' hi),B1 (h.inr i hi),AZ rfl,AZ rfl];exact Lb ha
theorem R9 {T:Type}(lt:T→T→Bool)(xs:List T):(Gq lt xs).length=xs.length:=(CZ lt xs).length_eq
theorem QM {q:An}{ps:List Ad}{idx:List Int}(h:QI q ps idx)(now:Int) :
  Jq q ps now=some (if q.fNow≤now∧now≤1073741824 then(((idx.filter (DX ps now)).length:Int)-((idx.filter (Dd q ps now)).length:Int),(idx.length:Int)-((idx.filter (DX ps now)).length:Int),(q.fDead.length:Int)+((idx.filter (Dd q ps now)).length:Int)) else(0,0,0)):=by
 unfold Jq K3 EK;have hc:=h.cnt;have l1:(idx.filter (DX ps now)).length≤idx.length:=List.length_filter_le _ _;have l2:(idx.filter (Dd q ps now)).length≤idx.length:=List.length_filter_le _ _
 by_cases h1:q.fNow≤now
 ·rw[AQ (Zc h1),AZ rfl]
  by_cases h2:now≤1073741824
  ·rw[Zc h2,AH (p:=!true) rfl,Pt h,AZ rfl,Ps h,AZ rfl,R9,R9,h.wlen,AU (by omega) (by omega),AU (by omega) (by omega),AU (by omega) (by omega),Z4 ⟨h1,h2⟩]
  ·rw[Ze h2,AQ (p:=!false) rfl,Zu (λe=>h2 e.2)]
 ·rw[AH (Ze h1),AZ rfl,AQ (p:=!false) rfl,Zu (λe=>h1 e.1)]
theorem MC (n:Int):MD n=some (decide (0≤n∧n≤1073741824)):=by
 unfold MD;rw[Bool.decide_and]
def Mc (ps:List Ad)(P:List Int)(ws:List (AE×Int)):List (AE×Int):=ws.filter λp=>!P.any λi=>decide (p.1=(EQ ps i).fID)
theorem T5 (ps:List Ad)(i:Int)(P:List Int)(ws:List (AE×Int)):Mc ps P (mdel ws (EQ ps i).fID)=Mc ps (i::P) ws:=by
 unfold Mc mdel;rw[List.filter_filter];refine List.filter_congr λp _=>?_;rw[List.any_cons]
 cases decide (p.1=(EQ ps i).fID)<;>simp
theorem La {α:Type}{n:Nat}{x:Option α}(h:n≤1000000):Bn (IB 112 n) x=x:=B1 (Zc (by omega))
theorem Vx {ps:List Ad}{P:List Int}(hin:∀i∈P,C6 i (ps.length:Int)=true)(hP:P.length≤256):∀(d n j:Nat) (D:List Ay) (ws:List (AE×Int)),j+d=P.length→d<n→D.length+d≤100000→
  BS (λσ=>Dt ps P σ.1 σ.2.1 σ.2.2) n ((j:Int),D,ws)=some (.go (D++(P.drop j).map (EQ ps),Mc ps (P.drop j) ws)):=by
 intro d
 induction d with
 | zero=>
  intro n j D ws h hn hD;obtain⟨n,rfl⟩:∃m,n=m+1:=⟨n-1,by omega⟩
  have hb:Dt ps P (j:Int) D ws=some (.out (.go (D,ws))):=by unfold Dt;rw[AH (Ze (by omega))]
  rw[BS];simp only[hb];rw[List.drop_of_length_le (by omega),List.map_nil,ZT,show Mc ps [] ws=ws from List.filter_eq_self.2 λ_ _=>rfl]
 | succ d ih=>
  intro n j D ws h hn hD;obtain⟨n,rfl⟩:∃m,n=m+1:=⟨n-1,by omega⟩
  have hj:j<P.length:=by omega
  have hi:=hin P[j] (List.getElem_mem hj);have hb:Dt ps P (j:Int) D ws=some (.next (((j+1:Nat):Int),D++[EQ ps P[j]],mdel ws (EQ ps P[j]).fID)):=by
   unfold Dt;rw[AQ (Zc (by omega)),Bu (by omega) (by omega),Gg hj,B1 (Zc (BD hi).1),B1 hi,La (by simp;omega),AU (by omega) (by omega)];rfl
  rw[BS];simp only[hb];rw[ih n (j+1) _ _ (by omega) (by omega) (by simp;omega),List.drop_eq_getElem_cons hj,T5,Z5];rfl
def Np (q:An)(ps:List Ad)(idx:List Int)(now:Int):List Int:=Gq (I5 ps) (idx.filter (Dd q ps now))
def BX (q:An)(ps:List Ad)(idx:List Int)(now:Int):An:=⟨q.fPolicy,Mc ps (Np q ps idx now) q.fWaiting,q.fDead++(Np q ps idx now).map (EQ ps),now,q.fArrived⟩
def Cf (q:An)(ps:List Ad)(idx:List Int)(now:Int):List Int:=idx.filter λi=>!Dd q ps now i
def DZ (q:An)(now:Int):Int:=if 0≤now∧now≤1073741824 then if now<q.fNow then 11 else 0 else 2
theorem L8 (q:An)(ps:List Ad)(idx:List Int)(now:Int):(Np q ps idx now).Perm (idx.filter (Dd q ps now)):=CZ _ _
theorem Im {F:Nat}(hF:300<F){q:An}{ps:List Ad}{idx:List Int}(h:QI q ps idx)(now:Int) :
  Hx F q ps now=some (DZ q now,if DZ q now=0 then BX q ps idx now else q,ps):=by
 unfold Hx DZ;rw[MC,AZ rfl]
 by_cases h1:0≤now∧now≤1073741824
 ·rw[Zc h1,AH (p:=!true) rfl,Z4 h1]
  by_cases h2:now<q.fNow
  ·rw[AQ (Zc h2),Z4 h2];rfl
  ·rw[AH (Ze h2),Zu h2,Pu h ⟨q.fPolicy,q.fWaiting,q.fDead,now,q.fArrived⟩ rfl rfl,AZ rfl];have hc:=h.cnt;have hpm:=L8 q ps idx now;have hl:(Np q ps idx now).length≤256:=by
    rw[hpm.length_eq];exact Nat.le_trans (List.length_filter_le _ _) (by omega)
   have hlop:=Vx (ps:=ps) (P:=Np q ps idx now) (λi hi=>h.inr i (List.mem_filter.1 (hpm.subset hi)).1) hl (Np q ps idx now).length F 0 q.fDead q.fWaiting (by omega) (by omega) (by omega);have hlop':BS (λσ=>Dt ps (Gq (I5 ps) (idx.filter (Dd q ps now))) σ.1 σ.2.1 σ.2.2) F ((0:Int),q.fDead,q.fWaiting)=_:=hlop;rw[hlop',AZ rfl,CK,List.drop_zero];rfl
 ·rw[Ze h1,AQ (p:=!false) rfl,Zu h1];rfl
theorem IY {ps:List Ad}{idx P:List Int}{over:Int→Bool}(hP:P.Perm (idx.filter over))(hids:(idx.map λi=>(EQ ps i).fID).Nodup) :
  Mc ps P (idx.map λi=>((EQ ps i).fID,i))=(idx.filter λi=>!over i).map λi=>((EQ ps i).fID,i):=by
 unfold Mc;rw[List.filter_map]
 congr 1
 refine List.filter_congr λi hi=>?_;show(!P.any λk=>decide ((EQ ps i).fID=(EQ ps k).fID)) = !over i
 congr 1
 rw[Z7,List.any_eq_true];constructor
 ·rintro⟨k,hk,he⟩;have hk':=List.mem_filter.1 (hP.subset hk);have e:i=k:=(KH (R:=λa b=>(EQ ps a).fID≠(EQ ps b).fID) (λx y h e=>h e.symm) (List.pairwise_map.1 hids) i k hi hk'.1).resolve_right (λhne=>hne (ZQ he));rw[e];exact hk'.2
 ·intro ho;exact⟨i,hP.symm.subset (List.mem_filter.2 ⟨hi,ho⟩),Zc rfl⟩
theorem NX {ps:List Ad}{P:List Int}{a b:List (AE×Int)}(h:a.Perm b):(Mc ps P a).Perm (Mc ps P b):=h.filter _
theorem Gh {q:An}{ps:List Ad}{idx:List Int}(h:QI q ps idx){now:Int}(hn:0≤now∧now≤1073741824):QI (BX q ps idx now) ps (Cf q ps idx now):=by
 have hpm:=L8 q ps idx now;have hids:(idx.map λi=>(EQ ps i).fID).Nodup:=(List.nodup_append.1 h.ids).1;have hsub:∀i∈Cf q ps idx now,i∈idx:=λi hi=>(List.mem_filter.1 hi).1;refine⟨h.vis,h.rcs,?_,λi hi=>h.inr i (hsub i hi),h.ord.filter _,λi hi=>h.plc i (hsub i hi),?_,hn,λi hi=>h.ats i (hsub i hi),λi hi=>h.rcv i (hsub i hi),?_,λi hi=>h.sm i (hsub i hi),λe he=>?_⟩
 ·have h1:=NX (ps:=ps) (P:=Np q ps idx now) h.pm;have h2:=IY (ps:=ps) hpm hids;exact h1.trans (List.Perm.of_eq h2)
 ·have h3:((Cf q ps idx now).map (λi=>(EQ ps i).fID)++(q.fDead++(Np q ps idx now).map (EQ ps)).map (·.fID)).Perm (idx.map (λi=>(EQ ps i).fID)++q.fDead.map (·.fID)):=by
   rw[ZO,ZY];have h4:(idx.map λi=>(EQ ps i).fID).Perm ((Np q ps idx now).map (λi=>(EQ ps i).fID)++(Cf q ps idx now).map λi=>(EQ ps i).fID):=by
    rw[← ZO];exact((List.filter_append_perm (Dd q ps now) idx).symm.trans (hpm.symm.append_right _)).map _
   refine List.Perm.symm ?_;refine(h4.append_right _).trans ?_;rw[Z5];refine(List.perm_append_comm).trans ?_;rw[Z5];exact Zb _
  exact h3.symm.nodup h.ids
 ·have h5:=(List.filter_append_perm (Dd q ps now) idx).length_eq;have h6:=hpm.length_eq;have hc:=h.cnt;show(Cf q ps idx now).length+(q.fDead++(Np q ps idx now).map (EQ ps)).length≤256;rw[Zs] at h5;rw[Zs,Zt,h6];unfold Cf;omega
 ·rcases List.mem_append.1 he with h7 | h7
  ·exact h.smd e h7
  ·obtain⟨i,hi,rfl⟩:=List.mem_map.1 h7;exact h.sm i (List.mem_filter.1 (hpm.subset hi)).1
theorem HG {ps:List Ad}{i j:Int}{y:Ad}(hi:C6 i (ps.length:Int)=true)(hj:C6 j (ps.length:Int)=true):Ac (ps.set i.toNat y) j=if j=i then y else Ac ps j:=by
 have h1:=BD hi;have h2:=BD hj;have l1:i.toNat<ps.length:=by omega
 have l2:j.toNat<ps.length:=by omega
 by_cases e:j=i
 ·subst e;rw[Z4 rfl];simp[Ac,l1]
 ·rw[Zu e];have:i.toNat≠j.toNat:=by omega
  simp[Ac,l2,List.getElem_set,this]
theorem QI.congr {q:An}{ps ps':List Ad}{idx:List Int}(h:QI q ps idx)(hl:ps'.length=ps.length)(he:∀i∈idx,(Ac ps' i).fEvent=(Ac ps i).fEvent∧(Ac ps' i).fPlace=(Ac ps i).fPlace)
  (ha:∀i∈idx,0≤(Ac ps' i).fAt∧(Ac ps' i).fAt≤2147483648) (hr:∀i∈idx,0≤(Ac ps' i).fReceives∧(Ac ps' i).fReceives≤q.fPolicy.fReceives):QI q ps' idx:=by
 have hids:idx.map (λi=>(Ac ps' i).fEvent.fID)=idx.map (λi=>(Ac ps i).fEvent.fID):=List.map_congr_left λi hi=>by rw[(he i hi).1]
 refine⟨h.vis,h.rcs,?_,λi hi=>by rw[hl];exact h.inr i hi,?_,λi hi=>by rw[(he i hi).2];exact h.plc i hi,by rw[hids];exact h.ids,h.now,ha,hr,h.cnt,λi hi=>?_,h.smd⟩
 ·rw[show(idx.map λi=>((Ac ps' i).fEvent.fID,i))=idx.map λi=>((Ac ps i).fEvent.fID,i) from List.map_congr_left λi hi=>by rw[(he i hi).1]];exact h.pm
 ·exact h.ord.imp_of_mem fun {i j} hi hj hij=>by rw[(he i hi).2,(he j hj).2];exact hij
 ·unfold EQ;rw[(he i hi).1];exact h.sm i hi
theorem QI.set {q:An}{ps:List Ad}{idx:List Int}(h:QI q ps idx){i:Int}(hi:i∈idx){y:Ad}(he:y.fEvent=(Ac ps i).fEvent)(hp:y.fPlace=(Ac ps i).fPlace)(ha:0≤y.fAt∧y.fAt≤2147483648)(hr:0≤y.fReceives∧y.fReceives≤q.fPolicy.fReceives) :
  QI q (ps.set i.toNat y) idx:=by
 refine h.congr (ZP ..) (λj hj=>?_) (λj hj=>?_) (λj hj=>?_)<;>rw[HG (h.inr i hi) (h.inr j hj)]<;>split
 ·rename_i e;subst e;exact⟨he,hp⟩
 ·exact⟨rfl,rfl⟩
 ·exact ha
 ·exact h.ats j hj
 ·exact hr
 ·exact h.rcv j hj
theorem IW {T:Type}:∀{m:List (AE×T)} {k:AE} {v:T},mget m k=some v→(k,v)∈m
 | [],k,v,h=>by simp[mget] at h
 | p::r,k,v,h=>by
  unfold mget at h
  cases hk:decide (p.1=k) with
  | true=>
   rw[hk] at h;have e:=ZQ hk;have e2:p.2=v:=Option.some.inj h;rw[← e,← e2];exact List.mem_cons_self ..
  | false=>
   rw[hk] at h;exact List.mem_cons_of_mem _ (IW h)
theorem QI.get {q:An}{ps:List Ad}{idx:List Int}(h:QI q ps idx){k:AE}{i:Int}(hg:mget q.fWaiting k=some i):i∈idx∧(EQ ps i).fID=k:=by
 obtain⟨j,hj,e⟩:=List.mem_map.1 (h.pm.subset (IW hg));injection e with e1 e2
 subst e2;exact⟨hj,e1⟩
def Ma (q:An)(ps:List Ad)(id count:AE)(now:Int):Int×Int:=
 match mget q.fWaiting id with
 | none=>(-1,5)
 | some i=>if Cb count≠0∨B3 count<1∨(Ac ps i).fReceives<B3 count then(-1,5)
  else if B3 count<(Ac ps i).fReceives∨(Ac ps i).fHeld=false∨(Ac ps i).fAt≤now then(-1,18) else(i,0)
theorem XB {q:An}{ps:List Ad}{id count:AE}{now:Int}(h:(Ma q ps id count now).2=0):mget q.fWaiting id=some (Ma q ps id count now).1:=by
 unfold Ma at *
 cases hg:mget q.fWaiting id with
 | none=>rw[hg] at h;simp at h
 | some i=>
  rw[hg] at h;simp only at h ⊢
  split at h
  ·simp at h
  ·split at h
   ·simp at h
   ·rename_i h1 h2;rw[Zu h1,Zu h2]
theorem TV {q:An}{ps:List Ad}{idx:List Int}(h:QI q ps idx){s:AE}{now:Int}{a b:AE}{c:Bool}(hc:SM s=some (a,b,c))(hb:b.length≤1000000):Py q ps s now=some (Ma q ps a b now):=by
 unfold Py Ma;rw[hc,AZ rfl];simp only;rw[B1 (show IB 1 b.length=true from Zc (by omega))]
 cases hg:mget q.fWaiting a with
 | none=>
  have e1:Dh q.fWaiting a=false:=by unfold Dh;rw[hg];rfl
  rw[e1];rfl
 | some i=>
  have e1:Dh q.fWaiting a=true:=by unfold Dh;rw[hg];rfl
  have e2:Dl q.fWaiting a (-1)=i:=by unfold Dl;rw[hg];rfl
  obtain⟨hi,_⟩:=h.get hg;have hin:=h.inr i hi;have h0:=h.in' hi;rw[e1,e2,h0,hin];simp only[Ro,Zi,Zp,Zn];rw[B1 (by cases(!(!decide (Cb b=0)))<;>cases(!decide (B3 b<1))<;>rfl),B1 (by cases(!(!decide (Cb b=0)))<;>cases(!decide (B3 b<1))<;>rfl),B1 rfl,B1 rfl]
  by_cases h1:Cb b=0
  ·by_cases h2:B3 b<1
   ·simp[h1,h2,B0]
   ·by_cases h3:(Ac ps i).fReceives<B3 b
    ·simp[h1,h2,h3,B0]
    ·by_cases h4:B3 b<(Ac ps i).fReceives
     ·simp[h1,h2,h3,h4,B0]
     ·by_cases h5:(Ac ps i).fHeld=true
      ·by_cases h6:(Ac ps i).fAt≤now<;>simp[h1,h2,h3,h4,h5,h6,B0]
      ·simp[h1,h2,h3,h4,h5,B0]
  ·simp[h1,B0]
def RX (s:AE):Int:=bif decide (([35]:AE)=s) then 0 else Lib.indexByte s 35
def En (s:AE):AE×AE×Bool:=bif decide (0≤RX s) then(s.take (RX s).toNat,s.drop (RX s+1).toNat,true) else(s,[],false)
theorem X3 (s:AE):RX s<s.length:=by
 unfold RX
 by_cases h:([35]:AE)=s
 ·subst h;decide
 ·rw[Ze h];exact(X6 s 35).2
theorem VT {s:AE}(hs:s.length≤1000000):SM s=some (En s):=by
 have hi:Qg s=some (RX s):=by
  unfold Qg RX
  cases decide (([35]:AE)=s) with
  | true=>rfl
  | false=>rfl
 have hb:=X3 s;unfold SM RA En;rw[hi,AZ rfl]
 by_cases h:0≤RX s
 ·rw[AQ (Zc h),Gf h (by omega),AU (by omega) (by omega),Gf (by omega) (by omega),AZ rfl,Zc h];rfl
 ·rw[AH (Ze h),AZ rfl,Ze h];rfl
theorem Vm (s:AE):(En s).2.1.length≤s.length:=by
 unfold En
 cases decide (0≤RX s) with
 | true=>show(s.drop (RX s+1).toNat).length≤s.length;rw[ZX];exact Nat.sub_le _ _
 | false=>exact ZN _
def QO (n:Int):Bool:=decide (0≤n∧n≤1073741824)
def CY (q:An)(ps:List Ad)(idx:List Int)(s:AE)(now ticks:Int):Int×Int:=
 bif QO ticks then if DZ q now=0 then Ma (BX q ps idx now) ps (En s).1 (En s).2.1 now else(-1,DZ q now) else(-1,2)
def G0 (q:An)(ps:List Ad)(idx:List Int)(now ticks:Int):An:=if QO ticks=true∧DZ q now=0 then BX q ps idx now else q
def Dx (q:An)(ps:List Ad)(idx:List Int)(now ticks:Int):List Int:=if QO ticks=true∧DZ q now=0 then Cf q ps idx now else idx
theorem CO {q:An}{now:Int}(h:DZ q now=0):0≤now∧now≤1073741824∧q.fNow≤now:=by
 unfold DZ at h
 split at h
 ·split at h
  ·simp at h
  ·rename_i h1 h2;exact⟨h1.1,h1.2,by omega⟩
 ·simp at h
theorem Li {q:An}{ps:List Ad}{idx:List Int}(h:QI q ps idx)(now ticks:Int):QI (G0 q ps idx now ticks) ps (Dx q ps idx now ticks):=by
 unfold G0 Dx
 split
 ·rename_i h1;have:=CO h1.2;exact Gh h ⟨this.1,this.2.1⟩
 ·exact h
theorem Oo {F:Nat}(hF:300<F){q:An}{ps:List Ad}{idx:List Int}(h:QI q ps idx){s:AE}(hs:s.length≤1000000)(now ticks:Int) :
  Q9 F q ps s now ticks=some ((CY q ps idx s now ticks).1,(CY q ps idx s now ticks).2,G0 q ps idx now ticks,ps):=by
 unfold Q9 CY G0;rw[MC,AZ rfl]
 cases ht:QO ticks with
 | false=>
  have ht':decide (0≤ticks∧ticks≤1073741824)=false:=ht;rw[ht',AQ (p:=!false) rfl];simp
 | true=>
  have ht':decide (0≤ticks∧ticks≤1073741824)=true:=ht;rw[ht',AH (p:=!true) rfl,Im hF h,AZ rfl]
  by_cases ha:DZ q now=0
  ·have hn:=CO ha;simp only[ha,decide_true,Zi,ZG,and_self,Zl];rw[AH rfl,TV (a:=(En s).1) (b:=(En s).2.1) (c:=(En s).2.2) (Gh h ⟨hn.1,hn.2.1⟩) (VT hs) (Nat.le_trans (Vm s) hs),AZ rfl]
  ·simp only[ha,decide_false,Zp,Z8,and_false,Zl];rw[AQ rfl]
theorem IH {q:An}{ps:List Ad}{idx:List Int}(h:QI q ps idx){s:AE}{now ticks:Int}(he:(CY q ps idx s now ticks).2=0) :
  (0≤ticks∧ticks≤1073741824)∧DZ q now=0∧G0 q ps idx now ticks=BX q ps idx now∧Dx q ps idx now ticks=Cf q ps idx now∧(CY q ps idx s now ticks).1∈Cf q ps idx now:=by
 unfold CY at he ⊢
 cases ht:QO ticks with
 | false=>rw[ht] at he;simp at he
 | true=>
  rw[ht] at he;simp only[Zl] at he ⊢
  by_cases ha:DZ q now=0
  ·rw[Z4 ha] at he ⊢;have hn:=CO ha;refine⟨ZQ ht,ha,?_,?_,((Gh h ⟨hn.1,hn.2.1⟩).get (XB he)).1⟩
   ·unfold G0;rw[Z4 ⟨ht,ha⟩]
   ·unfold Dx;rw[Z4 ⟨ht,ha⟩]
  ·rw[Zu ha] at he;exact absurd he ha
def Yz (q:An)(ps:List Ad)(i:Int):An:=⟨q.fPolicy,mdel q.fWaiting (EQ ps i).fID,q.fDead,q.fNow,q.fArrived⟩
def XP (idx:List Int)(i:Int):List Int:=idx.filter λj=>!decide (j=i)
theorem WT {q:An}{ps:List Ad}{idx:List Int}(h:QI q ps idx){i:Int}(hi:i∈idx):QI (Yz q ps i) ps (XP idx i):=by
 have hids:(idx.map λi=>(EQ ps i).fID).Nodup:=(List.nodup_append.1 h.ids).1;have hnd:idx.Nodup:=h.ord.imp fun {a b} hab e=>by subst e;omega
 have hsub:∀j∈XP idx i,j∈idx:=λj hj=>(List.mem_filter.1 hj).1;have hP:([i]:List Int).Perm (idx.filter λj=>decide (j=i)):=by
  have:idx.filter (λj=>decide (j=i))=[i]:=by
   have h1:=hnd.filter (p:=λj=>decide (j=i));have h2:∀j∈idx.filter (λj=>decide (j=i)),j=i:=λj hj=>ZQ (List.mem_filter.1 hj).2;have h3:i∈idx.filter (λj=>decide (j=i)):=List.mem_filter.2 ⟨hi,Zc rfl⟩
   match hl:idx.filter (λj=>decide (j=i)) with
   | []=>rw[hl] at h3;cases h3
   | [a]=>rw[hl] at h2;rw[h2 a (by simp)]
   | a::b::r=>
    rw[hl] at h1 h2;have e1:=h2 a (by simp);have e2:=h2 b (by simp);have h4:=(List.pairwise_cons.1 h1).1 b (by simp);exact absurd (e1.trans e2.symm) h4
  rw[this]
 have hdel:mdel q.fWaiting (EQ ps i).fID=Mc ps [i] q.fWaiting:=by
  unfold mdel Mc;exact List.filter_congr λp _=>by simp
 refine⟨h.vis,h.rcs,?_,λj hj=>h.inr j (hsub j hj),h.ord.filter _,λj hj=>h.plc j (hsub j hj),?_,h.now,λj hj=>h.ats j (hsub j hj),λj hj=>h.rcv j (hsub j hj),?_,λj hj=>h.sm j (hsub j hj),h.smd⟩
 ·show(mdel q.fWaiting (EQ ps i).fID).Perm _;rw[hdel];exact(NX h.pm).trans (List.Perm.of_eq (IY hP hids))
 ·exact h.ids.sublist (((List.filter_sublist).map _).append_right _)
 ·have:(XP idx i).length≤idx.length:=List.length_filter_le _ _;have:=h.cnt;show(XP idx i).length+q.fDead.length≤256;omega
theorem QL {F:Nat}(hF:300<F){q:An}{ps:List Ad}{idx:List Int}(h:QI q ps idx){s:AE}(hs:s.length≤1000000)(now:Int) :
  Ik F q ps s now=some ((CY q ps idx s now 0).2,if (CY q ps idx s now 0).2=0 then Yz (G0 q ps idx now 0) ps (CY q ps idx s now 0).1 else G0 q ps idx now 0,ps):=by
 unfold Ik;rw[Oo hF h hs,AZ rfl];simp only
 by_cases he:(CY q ps idx s now 0).2=0
 ·obtain⟨_,ha,e1,e2,hi⟩:=IH h he;have hn:=CO ha;have hq:=Gh h ⟨hn.1,hn.2.1⟩;rw[AQ (Zc he),B1 (hq.in' hi),B1 (hq.inr _ hi),Z4 he];rfl
 ·rw[AH (Ze he),Zu he]
def VV (x:Ad)(t:Int):Ad:=⟨x.fEvent,t,x.fReceives,false,x.fPlace⟩
def Wz (x:Ad)(t:Int):Ad:=⟨x.fEvent,t,x.fReceives,x.fHeld,x.fPlace⟩
theorem Uf {ps:List Ad}{i:Nat}{a b:Ad}:(ps.set i a).set i b=ps.set i b:=List.set_set ..
theorem QA {F:Nat}(hF:300<F){q:An}{ps:List Ad}{idx:List Int}(h:QI q ps idx){s:AE}(hs:s.length≤1000000)(now d:Int) :
  Ky F q ps s now d=some ((CY q ps idx s now d).2,G0 q ps idx now d,if (CY q ps idx s now d).2=0 then ps.set (CY q ps idx s now d).1.toNat (VV (Ac ps (CY q ps idx s now d).1) (now+d)) else ps):=by
 unfold Ky;rw[Oo hF h hs,AZ rfl];simp only
 by_cases he:(CY q ps idx s now d).2=0
 ·obtain⟨ht,ha,e1,e2,hi⟩:=IH h he;have hn:=CO ha;have hq:=Gh h ⟨hn.1,hn.2.1⟩;have hin:=hq.inr _ hi;rw[AQ (Zc he),AU (by omega) (by omega),B1 (hq.in' hi),B1 hin,Z4 he];simp only[Mw];rw[ZP,B1 hin,HG hin hin,Z4 rfl,Uf];rfl
 ·rw[AH (Ze he),Zu he]
theorem QK {F:Nat}(hF:300<F){q:An}{ps:List Ad}{idx:List Int}(h:QI q ps idx){s:AE}(hs:s.length≤1000000)(now d:Int) :
  K1 F q ps s now d=some ((CY q ps idx s now d).2,G0 q ps idx now d,if (CY q ps idx s now d).2=0 then ps.set (CY q ps idx s now d).1.toNat (Wz (Ac ps (CY q ps idx s now d).1) (now+d)) else ps):=by
 unfold K1;rw[Oo hF h hs,AZ rfl];simp only
 by_cases he:(CY q ps idx s now d).2=0
 ·obtain⟨ht,ha,e1,e2,hi⟩:=IH h he;have hn:=CO ha;have hq:=Gh h ⟨hn.1,hn.2.1⟩;have hin:=hq.inr _ hi;rw[AQ (Zc he),AU (by omega) (by omega),B1 (hq.in' hi),B1 hin,Z4 he];rfl
 ·rw[AH (Ze he),Zu he]
def QB (n:Nat)(q:An)(ps:List Ad):Prop:=0≤q.fArrived∧q.fArrived≤(n:Int)∧ps.length≤n
theorem HD {T:Type}:∀{m:List (AE×T)} {k:AE},Dh m k=false→∀p∈m,p.1≠k
 | [],k,_,p,hp=>by cases hp
 | a::r,k,h,p,hp=>by
  unfold Dh mget at h
  cases hk:decide (a.1=k) with
  | true=>rw[hk] at h;cases h
  | false=>
   rw[hk] at h;rcases List.mem_cons.1 hp with e | hp
   ·subst e;exact of_decide_eq_false hk
   ·exact HD (m:=r) h p hp
def Jh (e:Ay)(t:Int)(arr:Int):Ad:=⟨e,t,0,false,arr⟩
def Qx (q:An)(ps:List Ad)(D:List Ay)(e:Ay):An:=⟨q.fPolicy,mset q.fWaiting e.fID (ps.length:Int),D,q.fNow,q.fArrived+1⟩
theorem Nn {ps:List Ad}{y:Ad}{i:Int}(hi:C6 i (ps.length:Int)=true):Ac (ps++[y]) i=Ac ps i:=by
 have h1:=BD hi;have l1:i.toNat<ps.length:=by omega
 simp[Ac,ZS l1]
theorem Lc {ps:List Ad}{y:Ad}:Ac (ps++[y]) (ps.length:Int)=y:=by simp[Ac]
theorem Vv {q:An}{ps:List Ad}{idx:List Int}(h:QI q ps idx){D:List Ay}{e:Ay}{t:Int}(hs:XS e)(ht:0≤t∧t≤2147483648)
  (hid:(e.fID::(idx.map (λi=>(Ac ps i).fEvent.fID)++D.map (·.fID))).Nodup) (hD:∀x∈D,XS x) (hc:idx.length+1+D.length≤256) :
  QI (Qx q ps D e) (ps++[Jh e t q.fArrived]) (idx++[(ps.length:Int)]):=by
 have hold:∀i∈idx,Ac (ps++[Jh e t q.fArrived]) i=Ac ps i:=λi hi=>Nn (h.inr i hi);have hnew:=Lc (ps:=ps) (y:=Jh e t q.fArrived);have hnot:e.fID ∉ idx.map (λi=>(Ac ps i).fEvent.fID):=λhm=>(List.nodup_cons.1 hid).1 (List.mem_append_left _ hm);have hh:Dh q.fWaiting e.fID=false:=by
  cases hx:Dh q.fWaiting e.fID with
  | false=>rfl
  | true=>
   unfold Dh at hx;obtain⟨i,hi⟩:=Option.isSome_iff_exists.1 hx;obtain⟨h1,h2⟩:=h.get hi;exact absurd (List.mem_map.2 ⟨i,h1,h2⟩) hnot
 have hms:(mset q.fWaiting e.fID (ps.length:Int)).Perm ((e.fID,(ps.length:Int))::q.fWaiting):=by
  unfold mset;rw[hh];exact Ly _ _ _
 have hmap:(idx++[(ps.length:Int)]).map (λi=>((Ac (ps++[Jh e t q.fArrived]) i).fEvent.fID,i))=idx.map (λi=>((Ac ps i).fEvent.fID,i))++[(e.fID,(ps.length:Int))]:=by
  rw[ZO,ZK,List.map_nil,hnew]
  congr 1
  exact List.map_congr_left λi hi=>by rw[hold i hi]
 have hids:(idx++[(ps.length:Int)]).map (λi=>(Ac (ps++[Jh e t q.fArrived]) i).fEvent.fID)=idx.map (λi=>(Ac ps i).fEvent.fID)++[e.fID]:=by
  rw[ZO,ZK,List.map_nil,hnew]
  congr 1
  exact List.map_congr_left λi hi=>by rw[hold i hi]
 have hmem:∀i∈idx++[(ps.length:Int)],i∈idx∨i=(ps.length:Int):=λi hi=>by simpa using hi
 refine⟨h.vis,h.rcs,?_,?_,?_,?_,?_,h.now,?_,?_,?_,?_,hD⟩
 ·rw[hmap];exact hms.trans ((YY _ h.pm).trans (List.perm_append_comm (l₁:=[(e.fID,(ps.length:Int))])))
 ·intro i hi;rcases hmem i hi with h1 | h1
  ·have:=BD (h.inr i h1);exact Rn (by omega) (by simp;omega)
  ·subst h1;exact Rn (by omega) (by simp;omega)
 ·rw[List.pairwise_append];refine⟨h.ord.imp_of_mem fun {i j} hi hj hij=>by rw[hold i hi,hold j hj];exact hij,List.pairwise_singleton _ _,λi hi j hj=>?_⟩;rw[List.mem_singleton.1 hj,hold i hi,hnew];exact h.plc i hi
 ·intro i hi;rcases hmem i hi with h1 | h1
  ·rw[hold i h1];have:=h.plc i h1;show _<q.fArrived+1;omega
  ·subst h1;rw[hnew];show q.fArrived<q.fArrived+1;omega
 ·rw[hids,Z5];exact(List.perm_middle (a:=e.fID) (l₁:=idx.map λi=>(Ac ps i).fEvent.fID) (l₂:=D.map (·.fID))).symm.nodup hid
 ·intro i hi;rcases hmem i hi with h1 | h1
  ·rw[hold i h1];exact h.ats i h1
  ·subst h1;rw[hnew];exact ht
 ·intro i hi;rcases hmem i hi with h1 | h1
  ·rw[hold i h1];exact h.rcv i h1
  ·subst h1;rw[hnew];have:=h.rcs;show(0:Int)≤0∧(0:Int)≤q.fPolicy.fReceives;omega
 ·show(idx++[(ps.length:Int)]).length+D.length≤256;simp;omega
 ·intro i hi;rcases hmem i hi with h1 | h1
  ·unfold EQ;rw[hold i h1];exact h.sm i h1
  ·subst h1;unfold EQ;rw[hnew];exact hs
theorem R6 {n:Nat}{q:An}{ps:List Ad}(hb:QB n q ps)(hn:n≤1000000)(e:Ay)(t:Int):SC q ps e t=some (Qx q ps q.fDead e,ps++[Jh e t q.fArrived]):=by
 unfold SC;obtain⟨h1,h2,_⟩:=hb;rw[AU (by omega) (by omega)];rfl
theorem UT {F:Nat}{ys:List Ay}{id:AE}(hF:ys.length<F)(hl:ys.length≤1000000):∃k,Qf F ys id=some k∧decide (0≤k)=ys.any λe=>decide (e.fID=id):=by
 have key:∀(d n i:Nat),i+d=ys.length→d<n→∃o,BS (λσ=>DK ys id σ) n (i:Int)=some o∧∃k,BP (λ_=>Jc) o=some k∧decide (0≤k)=(ys.drop i).any λe=>decide (e.fID=id):=by
  intro d
  induction d with
  | zero=>
   intro n i h hn;obtain⟨n,rfl⟩:∃m,n=m+1:=⟨n-1,by omega⟩
   have hb:DK ys id (i:Int)=some (.out (.go ())):=by unfold DK;rw[AH (Ze (by omega))]
   refine⟨.go (),by rw[BS];simp only[hb],-1,rfl,?_⟩;rw[List.drop_of_length_le (by omega)];rfl
  | succ d ih=>
   intro n i h hn;obtain⟨n,rfl⟩:∃m,n=m+1:=⟨n-1,by omega⟩
   have hi:i<ys.length:=by omega
   have hd:=List.drop_eq_getElem_cons hi
   cases hq:decide (ys[i].fID=id) with
   | true=>
    have hb:DK ys id (i:Int)=some (.out (.ret (i:Int))):=by
     unfold DK Px;rw[AQ (Zc (by omega)),Bu (by omega) (by omega),Gg hi,AZ rfl,AQ hq]
    refine⟨.ret (i:Int),by rw[BS];simp only[hb],(i:Int),rfl,?_⟩;rw[hd,List.any_cons,hq,Z1];exact Zc (by omega)
   | false=>
    have hb:DK ys id (i:Int)=some (.next ((i+1:Nat):Int)):=by
     unfold DK Px;rw[AQ (Zc (by omega)),Bu (by omega) (by omega),Gg hi,AZ rfl,AH hq,AU (by omega) (by omega)];rfl
    obtain⟨o,h1,k,h2,h3⟩:=ih n (i+1) (by omega) (by omega);refine⟨o,by rw[BS];simp only[hb];exact h1,k,h2,?_⟩;rw[h3,hd,List.any_cons,hq,Zn]
 obtain⟨o,h1,k,h2,h3⟩:=key ys.length F 0 (by omega) hF;refine⟨k,?_,by rw[h3,List.drop_zero]⟩;unfold Qf;have h1':BS (λσ=>DK ys id σ) F 0=some o:=h1;rw[AZ h1',h2]
def Ez (q:An)(id:AE):Bool:=Dh q.fWaiting id||q.fDead.any λe=>decide (e.fID=id)
theorem R4 {F:Nat}(hF:300<F){q:An}{ps:List Ad}{idx:List Int}(h:QI q ps idx)(id:AE):SA F q ps id=some (Ez q id):=by
 have hc:=h.cnt;obtain⟨k,h1,h2⟩:=UT (F:=F) (ys:=q.fDead) (id:=id) (by omega) (by omega);unfold SA Ez Jp Sj
 cases Dh q.fWaiting id with
 | true=>rfl
 | false=>rw[AH rfl,h1,AZ rfl,AZ rfl,h2];rfl
theorem Ix {q:An}{ps:List Ad}{idx:List Int}(h:QI q ps idx)(id:AE):Ez q id=true↔id∈idx.map (λi=>(Ac ps i).fEvent.fID)++q.fDead.map (·.fID):=by
 unfold Ez;rw[Zz,List.mem_append];refine or_congr ⟨λhx=>?_,λhx=>?_⟩ ⟨λhx=>?_,λhx=>?_⟩
 ·unfold Dh at hx;obtain⟨i,hi⟩:=Option.isSome_iff_exists.1 hx;obtain⟨h1,h2⟩:=h.get hi;exact List.mem_map.2 ⟨i,h1,h2⟩
 ·obtain⟨i,hi,e⟩:=List.mem_map.1 hx
  cases hm:Dh q.fWaiting id with
  | true=>rfl
  | false=>exact absurd e (HD hm _ (h.pm.symm.subset (List.mem_map.2 ⟨i,hi,rfl⟩)))
 ·obtain⟨e,he,h1⟩:=List.any_eq_true.1 hx;exact List.mem_map.2 ⟨e,he,ZQ h1⟩
 ·obtain⟨e,he,h1⟩:=List.mem_map.1 hx;exact List.any_eq_true.2 ⟨e,he,Zc h1⟩
def WP (e:Ay):Prop:=∀c∈e.fBody,BZ .i64 c.fInt=true∧c.fN≤9223372036854775807
theorem Hy {e:Ay}(h:DT e=true):e.fID.length≤300∧e.fBody.length≤300:=by
 unfold DT TA at h;simp only[Zd,Zq,Z3,YZ] at h;exact⟨by omega,by omega⟩
theorem MG {e:Ay}(h:DT e=true)(ho:WP e):Nt 5000 e.fBody:=by
 have h1:=Hy h;unfold DT at h;simp only[Zd,Zq,List.any_eq_false,Za] at h;exact⟨by decide,by have:=h1.2;omega,λc hc=>⟨by have:=h.2 c hc;omega,(ho c hc).1,(ho c hc).2⟩⟩
theorem T4 {F:Nat}{e:Ay}(h:Jf F e=some 0):E0 e.fID=true:=by
 cases hi:E0 e.fID with
 | true=>rfl
 | false=>
  unfold Jf at h;rw[hi] at h;simp only[Zp,Z1] at h;rw[AQ rfl] at h;simp at h
theorem Or {e:Ay}(h:e.fBody.length≤300):Pv e=some e:=by
 unfold Pv OR;rw[B1 (show IB 40 (([]:List Au).length+e.fBody.length)=true from Zc (by simp;omega)),AZ rfl];rfl
def KT (q:An):Bool:=decide (256≤q.fWaiting.length+q.fDead.length)
def HL (q:An)(ps:List Ad)(idx:List Int)(e:Ay)(now d x:Int):Int×An×List Ad:=
 if QO d=true then if DZ q now=0 then
  if x=0 then if Ez (BX q ps idx now) e.fID=true then(6,BX q ps idx now,ps) else if KT (BX q ps idx now)=true then(3,BX q ps idx now,ps)
   else(0,Qx (BX q ps idx now) ps (BX q ps idx now).fDead e,ps++[Jh e (now+d) q.fArrived])
  else(x,BX q ps idx now,ps) else(DZ q now,q,ps) else(2,q,ps)
theorem TT {F n:Nat}(hF:5000<F){q:An}{ps:List Ad}{idx:List Int}(h:QI q ps idx)(hb:QB n q ps)(hn:n≤1000000){e:Ay}(hs:DT e=true)(ho:WP e)(now d:Int){x:Int}(hx:Jf F e=some x) :
  N5 F q ps e now d=some (HL q ps idx e now d x):=by
 unfold N5 HL;rw[MC,AZ rfl]
 cases ht:QO d with
 | false=>
  have ht':decide (0≤d∧d≤1073741824)=false:=ht;rw[ht',AQ (p:=!false) rfl];simp
 | true=>
  have ht':decide (0≤d∧d≤1073741824)=true:=ht;have htd:=ZQ ht';rw[ht',AH (p:=!true) rfl,Im (by omega) h,AZ rfl,Z4 rfl]
  by_cases ha:DZ q now=0
  ·have hnw:=CO ha;have hq:=Gh h ⟨hnw.1,hnw.2.1⟩;have hqb:QB n (BX q ps idx now) ps:=hb;simp only[ha,decide_true,Zi,ZG];rw[AH rfl,hx,AZ rfl]
   by_cases hx0:x=0
   ·rw[Z4 hx0,hx0,AH (p:=!decide ((0:Int)=0)) (by decide),R4 (by omega) hq,AZ rfl]
    cases hh:Ez (BX q ps idx now) e.fID with
    | true=>rw[AQ rfl,Z4 rfl]
    | false=>
     have hw:=hq.wlen;have hc:=hq.cnt;rw[AH rfl,Zu (by simp),AU (by omega) (by omega)];have hfu:decide ((256:Int)≤(((BX q ps idx now).fWaiting.length:Int)+((BX q ps idx now).fDead.length:Int)))=KT (BX q ps idx now):=by
      unfold KT;rw[Z7];simp only[Za];omega
     rw[hfu]
     cases KT (BX q ps idx now) with
     | true=>rw[AQ rfl,Z4 rfl]
     | false=>
      rw[AH rfl,Zu (by simp),Or (Hy hs).2,AZ rfl,AU (by omega) (by omega),R6 hqb hn,AZ rfl];rfl
   ·rw[Zu hx0,AQ (by simp[hx0])]
  ·simp only[ha,decide_false,Zp,Z8];rw[AQ rfl]
theorem WI {ps:List Ad}{i:Int}{y:Ad}(hi:C6 i (ps.length:Int)=true):Ac (ps.set i.toNat y) i=y:=by rw[HG hi hi,Z4 rfl]
theorem Vo {α:Type}{x:Option α}:Bn true x=x:=rfl
def Gr (x:Ad)(t:Int):Ad:=⟨x.fEvent,t,x.fReceives+1,true,x.fPlace⟩
def VW (x:Ad):AE:=(x.fEvent.fID++[35])++Lib.itoa x.fReceives
def Qr (x:Ad):AB:=⟨VW x,x.fEvent,x.fReceives⟩
theorem KZ {α:Type}{n:Nat}{x:Option α}(h:n≤1000000):Bn (IB 136 n) x=x:=B1 (Zc (by omega))
theorem Pq {ps:List Ad}{i:Int}(hi:C6 i (ps.length:Int)=true)(hs:(Ac ps i).fEvent.fID.length≤300)(hr:0≤(Ac ps i).fReceives∧(Ac ps i).fReceives≤1000):Hh i ps=some (VW (Ac ps i)):=by
 unfold Hh;have h1:=KS (Ac ps i).fReceives (by omega) (by omega);rw[B1 (Zc (BD hi).1),B1 hi,AU (by simp only[ZI];omega) (by simp only[ZI];omega),AU (by omega) (by omega),AU (by simp only[Zs,ZI];omega) (by simp only[Zs,ZI];omega)];rfl
theorem Uq {now most:Int}{r2:Int×An×List Ad}{P:List Int}{j:Nat}{out:List AB}{ps:List Ad}(hj:j<P.length)(hP:P.length≤256)(hi:C6 P[j] (ps.length:Int)=true)(hs:XS (EQ ps P[j]))(hr:0≤(Ac ps P[j]).fReceives∧(Ac ps P[j]).fReceives≤100)
  (ht : -10000000000≤now+r2.2.1.fPolicy.fVisible∧now+r2.2.1.fPolicy.fVisible≤10000000000) (ho:out.length≤256) :
  CR now most r2 P out (j:Int) ps=some (if most≤(out.length:Int) then .out (.go (out,ps)) else .next (out++[Qr (Gr (Ac ps P[j]) (now+r2.2.1.fPolicy.fVisible))],((j+1:Nat):Int),ps.set P[j].toNat (Gr (Ac ps P[j]) (now+r2.2.1.fPolicy.fVisible)))):=by
 unfold CR;rw[AQ (Zc (by omega)),Bu (by omega) (by omega),Gg hj]
 by_cases hm:most≤(out.length:Int)
 ·rw[AQ (Zc hm),Z4 hm]
 ·rw[AH (Ze hm),Zu hm];generalize P[j]=i at hi hs hr ⊢;have hself:∀(y:Ad),Ac (ps.set i.toNat y) i=y:=λy=>WI hi;rw[B1 (Zc (BD hi).1),B1 hi,AU (by omega) (by omega)];simp only[Mw,ZP,List.set_set,hself,hi,Vo];rw[AU (by omega) (by omega)];have hrc:Hh i (ps.set i.toNat (Gr (Ac ps i) (now+r2.2.1.fPolicy.fVisible)))=some (VW (Gr (Ac ps i) (now+r2.2.1.fPolicy.fVisible))):=by
   have:=Pq (ps:=ps.set i.toNat (Gr (Ac ps i) (now+r2.2.1.fPolicy.fVisible))) (i:=i) (by rw[ZP];exact hi) (by rw[hself];exact hs.1) (by rw[hself];show 0≤(Ac ps i).fReceives+1∧(Ac ps i).fReceives+1≤1000;omega);rw[hself] at this;exact this
  have hrc':Hh i (ps.set i.toNat ⟨(Ac ps i).fEvent,now+r2.2.1.fPolicy.fVisible,(Ac ps i).fReceives+1,true,(Ac ps i).fPlace⟩)=some (VW (Gr (Ac ps i) (now+r2.2.1.fPolicy.fVisible))):=hrc;have hown:Pv (Ac ps i).fEvent=some (Ac ps i).fEvent:=Or hs.2.1;rw[hrc',AZ rfl,hown,AZ rfl,KZ (by simp;omega),AU (by omega) (by omega)];rfl
def YO (a b now:Int):Prop:=b=a∨b=now∧0≤now∧now≤1073741824
theorem On (q:An)(ps:List Ad)(idx:List Int)(now t:Int):(G0 q ps idx now t).fPolicy=q.fPolicy∧YO q.fNow (G0 q ps idx now t).fNow now∧(G0 q ps idx now t).fArrived=q.fArrived:=by
 unfold G0
 split
 ·rename_i h;have:=CO h.2;exact⟨rfl,.inr ⟨rfl,this.1,this.2.1⟩,rfl⟩
 ·exact⟨rfl,.inl rfl,rfl⟩
theorem QI.upd {q:An}{ps:List Ad}{idx:List Int}(h:QI q ps idx){i:Int}(hi:i∈idx){t:Int}(b:Bool)(ht:0≤t∧t≤2147483648):QI q (ps.set i.toNat ⟨(Ac ps i).fEvent,t,(Ac ps i).fReceives,b,(Ac ps i).fPlace⟩) idx:=h.set hi rfl rfl ht (h.rcv i hi)
def I2 (t:Int):List Int→List Ad→List Ad
 | [],ps=>ps
 | i::L,ps=>I2 t L (ps.set i.toNat (Gr (Ac ps i) t))
def ED (t:Int)(ps:List Ad)(L:List Int):List AB:=L.map λi=>Qr (Gr (Ac ps i) t)
theorem SP {q:An}{idx P:List Int}{now most:Int}{r2:Int×An×List Ad}(hr2:r2.2.1.fPolicy=q.fPolicy)(hnd:P.Nodup)(hsub:∀i∈P,i∈idx)(hP:P.length≤256)(hnow:0≤now∧now≤1073741824) :
  ∀(d n j:Nat) (out:List AB) (ps:List Ad),j+d=P.length→d<n→QI q ps idx→out.length≤j→(∀i∈P.drop j,(Ac ps i).fReceives<q.fPolicy.fReceives)→
   BS (λσ=>CR now most r2 P σ.1 σ.2.1 σ.2.2) n (out,(j:Int),ps)=some (.go (out++ED (now+q.fPolicy.fVisible) ps ((P.drop j).take (most.toNat-out.length)),I2 (now+q.fPolicy.fVisible) ((P.drop j).take (most.toNat-out.length)) ps))∧QI q (I2 (now+q.fPolicy.fVisible) ((P.drop j).take (most.toNat-out.length)) ps) idx:=by
 intro d
 induction d with
 | zero=>
  intro n j out ps h hn hq ho hr;obtain⟨n,rfl⟩:∃m,n=m+1:=⟨n-1,by omega⟩
  have hb:CR now most r2 P out (j:Int) ps=some (.out (.go (out,ps))):=by unfold CR;rw[AH (Ze (by omega))]
  rw[List.drop_of_length_le (by omega),List.take_nil];exact⟨by rw[BS];simp only[hb];rw[show ED (now+q.fPolicy.fVisible) ps []=[] from rfl,ZT];rfl,hq⟩
 | succ d ih=>
  intro n j out ps h hn hq ho hr;obtain⟨n,rfl⟩:∃m,n=m+1:=⟨n-1,by omega⟩
  have hj:j<P.length:=by omega
  have hd:=List.drop_eq_getElem_cons hj;have hm:P[j]∈idx:=hsub _ (List.getElem_mem hj);have hrj:=hr P[j] (by rw[hd];exact List.mem_cons_self ..);have hrc:=hq.rcv _ hm;have hpol:=hq.rcs;have hvis:=hq.vis;have hb:=Uq (now:=now) (most:=most) (r2:=r2) (out:=out) hj hP (hq.inr _ hm) (hq.sm _ hm) ⟨hrc.1,by omega⟩ (by rw[hr2];omega) (by omega);rw[hr2] at hb
  by_cases hmo:most≤(out.length:Int)
  ·rw[Z4 hmo] at hb;rw[show most.toNat-out.length=0 from by omega,List.take_zero];exact⟨by rw[BS];simp only[hb];rw[show ED (now+q.fPolicy.fVisible) ps []=[] from rfl,ZT];rfl,hq⟩
  ·rw[Zu hmo] at hb;have hq':QI q (ps.set P[j].toNat (Gr (Ac ps P[j]) (now+q.fPolicy.fVisible))) idx:=hq.set hm rfl rfl (by show 0≤now+q.fPolicy.fVisible∧now+q.fPolicy.fVisible≤2147483648;omega) (by show 0≤(Ac ps P[j]).fReceives+1∧(Ac ps P[j]).fReceives+1≤q.fPolicy.fReceives;omega);have hsame:∀i∈P.drop (j+1),Ac (ps.set P[j].toNat (Gr (Ac ps P[j]) (now+q.fPolicy.fVisible))) i=Ac ps i:=λi hi=>by
    have hii:i∈P.drop j:=by rw[hd];exact List.mem_cons_of_mem _ hi
    have hne:i≠P[j]:=λe=>by
     have hnd':(P.drop j).Nodup:=hnd.sublist (List.drop_sublist _ _);rw[hd,List.nodup_cons] at hnd';exact hnd'.1 (e▸hi)
    rw[HG (hq.inr _ hm) (hq.inr i (hsub i (List.mem_of_mem_drop hii))),Zu hne]
   obtain⟨h1,h2⟩:=ih n (j+1) (out++[Qr (Gr (Ac ps P[j]) (now+q.fPolicy.fVisible))]) _ (by omega) (by omega) hq' (by simp;omega) (λi hi=>by
    rw[hsame i hi];exact hr i (by rw[hd];exact List.mem_cons_of_mem _ hi))
   have hk:most.toNat-out.length=(most.toNat-(out.length+1))+1:=by omega
   have hlen:(out++[Qr (Gr (Ac ps P[j]) (now+q.fPolicy.fVisible))]).length=out.length+1:=by simp
   rw[hlen] at h1 h2;have hout:ED (now+q.fPolicy.fVisible) (ps.set P[j].toNat (Gr (Ac ps P[j]) (now+q.fPolicy.fVisible))) ((P.drop (j+1)).take (most.toNat-(out.length+1)))=ED (now+q.fPolicy.fVisible) ps ((P.drop (j+1)).take (most.toNat-(out.length+1))):=
    List.map_congr_left λi hi=>by rw[hsame i (List.mem_of_mem_take hi)]
   rw[hk,hd,List.take_succ_cons];refine⟨?_,h2⟩;rw[BS];simp only[hb];rw[h1,hout,Z5];rfl
def QV (q:An)(ps:List Ad)(idx:List Int)(now most:Int):List Int:=(Gq (I5 ps) ((Cf q ps idx now).filter (DX ps now))).take most.toNat
theorem Pp {F:Nat}(hF:300<F){q:An}{ps:List Ad}{idx:List Int}(h:QI q ps idx)(now most:Int) :
  EX F q ps now most=some (if DZ q now=0 then(ED (now+q.fPolicy.fVisible) ps (QV q ps idx now most),BX q ps idx now,I2 (now+q.fPolicy.fVisible) (QV q ps idx now most) ps) else([],q,ps))∧
  (DZ q now=0→QI (BX q ps idx now) (I2 (now+q.fPolicy.fVisible) (QV q ps idx now most) ps) (Cf q ps idx now)):=by
 unfold EX;rw[Im hF h,AZ rfl]
 by_cases ha:DZ q now=0
 ·have hn:=CO ha;have hq:=Gh h ⟨hn.1,hn.2.1⟩;simp only[ha,decide_true,Zi,ZG];rw[AH rfl,Pr hq,AZ rfl];have hpm:=CZ (I5 ps) ((Cf q ps idx now).filter (DX ps now));have hsub:∀i∈Gq (I5 ps) ((Cf q ps idx now).filter (DX ps now)),i∈Cf q ps idx now:=λi hi=>(List.mem_filter.1 (hpm.subset hi)).1;have hnd:(Gq (I5 ps) ((Cf q ps idx now).filter (DX ps now))).Nodup:=hpm.symm.nodup ((hq.ord.imp fun {a b} hab e=>by subst e;omega:(Cf q ps idx now).Nodup).filter _);have hc:=hq.cnt;have hl:(Gq (I5 ps) ((Cf q ps idx now).filter (DX ps now))).length≤256:=by
   rw[hpm.length_eq];exact Nat.le_trans (List.length_filter_le _ _) (by omega)
  obtain⟨h1,h2⟩:=SP (q:=BX q ps idx now) (idx:=Cf q ps idx now) (now:=now) (most:=most) (r2:=(0,BX q ps idx now,ps)) rfl hnd hsub hl ⟨hn.1,hn.2.1⟩ (Gq (I5 ps) ((Cf q ps idx now).filter (DX ps now))).length F 0 [] ps (by omega) (by omega) hq (by simp) (λi hi=>by
   rw[List.drop_zero] at hi;have h4:=List.mem_filter.1 (hpm.subset hi);have h5:=(List.mem_filter.1 h4.1).2;have h6:DX ps now i=true:=h4.2;unfold Dd at h5;unfold DX at h6;rw[h6] at h5;simp only[Zr,Zq,YZ] at h5;show(Ac ps i).fReceives<q.fPolicy.fReceives;omega)
  rw[List.drop_zero] at h1 h2;have h1':BS (λσ=>CR now most (0,BX q ps idx now,ps) (Gq (I5 ps) ((Cf q ps idx now).filter (DX ps now))) σ.1 σ.2.1 σ.2.2) F (([]:List AB),0,ps)=_:=h1;rw[h1',AZ rfl,CK];exact⟨rfl,λ_=>h2⟩
 ·simp only[ha,decide_false,Zp,Z8];rw[AQ rfl];exact⟨rfl,λe=>absurd e (by simp)⟩
theorem RD (t:Int):∀(L:List Int) (ps:List Ad),(I2 t L ps).length=ps.length
 | [],ps=>rfl
 | i::L,ps=>by rw[I2,RD t L,ZP]
theorem QU {q:An}{ps:List Ad}{idx:List Int}(h:QI q ps idx)(now most:Int):(QV q ps idx now most).Nodup∧∀i∈QV q ps idx now most,i∈Cf q ps idx now∧DX ps now i=true:=by
 have hpm:=CZ (I5 ps) ((Cf q ps idx now).filter (DX ps now));have hnd:idx.Nodup:=h.ord.imp fun {a b} hab e=>by subst e;omega
 refine⟨(hpm.symm.nodup ((hnd.filter _).filter _)).sublist (List.take_sublist _ _),λi hi=>?_⟩;exact List.mem_filter.1 (hpm.subset (List.mem_of_mem_take hi))
theorem NS:∀(p r:AE),(35:UInt8) ∉ p→Lib.indexByte (p++35::r) 35=(p.length:Int)
 | [],r,_=>rfl
 | c::p,r,h=>by
  have hc:(c ==35)=false:=by
   rw[beq_eq_false_iff_ne];intro e;exact h (by rw[e];exact List.mem_cons_self ..)
  have ih:=NS p r λhm=>h (List.mem_cons_of_mem _ hm);show(if (c ==35)=true then(0:Int) else if (Lib.indexByte (p++35::r) 35 == -1)=true then -1 else Lib.indexByte (p++35::r) 35+1)=_;rw[hc,ih,Zu (by simp),Zu (by simp)];simp
theorem Wk {O:Type}{body:Int→Option (Stp Int O)}{m:Nat}{o:O}(hb:∀i:Nat,i<m→body (i:Int)=some (.next ((i:Int)+1)))(he:body (m:Int)=some (.out o)):∀(d n i:Nat),i+d=m→d<n→BS body n (i:Int)=some o:=by
 intro d
 induction d with
 | zero=>
  intro n i h hn;obtain⟨n,rfl⟩:∃k,n=k+1:=⟨n-1,by omega⟩
  obtain rfl:i=m:=by omega
  rw[BS,he]
 | succ d ih=>
  intro n i h hn;obtain⟨n,rfl⟩:∃k,n=k+1:=⟨n-1,by omega⟩
  rw[BS,hb i (by omega)];exact ih n (i+1) (by omega) (by omega)
theorem HZ {O:Type}{body:Int→Option (Stp Int O)}{m F:Nat}{o:O}(hF:m<F)(hb:∀i:Nat,i<m→body (i:Int)=some (.next ((i:Int)+1)))(he:body (m:Int)=some (.out o)):BS body F 0=some o:=Wk hb he m F 0 (by omega) hF
theorem QI.nodup {q:An}{ps:List Ad}{idx:List Int}(h:QI q ps idx):idx.Nodup:=h.ord.imp fun {a b} hab e=>by subst e;omega
theorem QI.idne {q:An}{ps:List Ad}{idx:List Int}(h:QI q ps idx){i j:Int}(hi:i∈idx)(hj:j∈idx)(he:(EQ ps i).fID=(EQ ps j).fID):i=j:=by
 have hids:(idx.map λi=>(EQ ps i).fID).Nodup:=(List.nodup_append.1 h.ids).1;exact(KH (R:=λa b=>(EQ ps a).fID≠(EQ ps b).fID) (λx y h e=>h e.symm) (List.pairwise_map.1 hids) i j hi hj).resolve_right (λhne=>hne he)
theorem QI.mget {q:An}{ps:List Ad}{idx:List Int}(h:QI q ps idx){i:Int}(hi:i∈idx):mget q.fWaiting (EQ ps i).fID=some i:=by
 have hm:((EQ ps i).fID,i)∈q.fWaiting:=h.pm.symm.subset (List.mem_map.2 ⟨i,hi,rfl⟩)
 cases hg:Go.Proofs.YthbbedliepkakaaGreatDoor.mget q.fWaiting (EQ ps i).fID with
 | none=>exact absurd rfl (HD (by unfold Dh;rw[hg];rfl) _ hm)
 | some j=>
  obtain⟨hj,he⟩:=h.get hg;rw[h.idne hj hi he]
def Ii (x:Ad):Aq:=⟨x.fEvent,x.fAt,x.fReceives,x.fHeld⟩
def Cp (ps:List Ad)(idx:List Int):List Aq:=idx.map λi=>Ii (Ac ps i)
def BA (q:An)(ps:List Ad)(idx:List Int):Aw:=⟨true,q.fPolicy,q.fNow,Cp ps idx,q.fDead⟩
theorem DI (ps:List Ad)(idx:List Int):(Cp ps idx).length=idx.length:=by unfold Cp;rw[Zt]
theorem Hv {ps:List Ad}{idx:List Int}{k:Nat}(h:k<idx.length):Ac (Cp ps idx) (k:Int)=Ii (Ac ps idx[k]):=by
 show Ac (idx.map λi=>Ii (Ac ps i)) (k:Int)=_;rw[Gg (by rw[Zt];exact h),List.getElem_map]
theorem Uc {T:Type}{lt:T→T→Bool}(L:V0 lt){xs ys:List T}{m:T}(hd:E4 lt xs=true)(hp:(m::ys).Perm xs)(hm:∀y∈ys,lt y m=false):Gq lt xs=m::Gq lt ys:=by
 refine(Ou L hd (((CZ lt ys).cons m).trans hp) (List.pairwise_cons.2 ⟨λy hy=>hm y ((CZ lt ys).subset hy),Hi L ys⟩)).symm
theorem O8 {idx:List Int}(hn:idx.Nodup){P:Int→Bool}{m:Int}(hm:m∈idx)(hP:P m=true):(m::(idx.filter λj=>!decide (j=m)).filter P).Perm (idx.filter P):=by
 refine(List.perm_ext_iff_of_nodup ?_ (hn.filter _)).2 λj=>?_
 ·refine List.nodup_cons.2 ⟨λh=>?_,(hn.filter _).filter _⟩;have:=(List.mem_filter.1 (List.mem_filter.1 h).1).2;simp at this
 ·simp only[ZU,List.mem_filter,Zq,YZ];constructor
  ·rintro(rfl | ⟨⟨h1,h2⟩,h3⟩)
   ·exact⟨hm,hP⟩
   ·exact⟨h1,h3⟩
  ·rintro⟨h1,h3⟩
   by_cases e:j=m
   ·exact .inl e
   ·exact .inr ⟨⟨h1,e⟩,h3⟩
def Gt (q:Aw)(now:Int)(ex:Bool)(w:Aq):Bool:=decide (w.fVisible≤now)&&((decide (q.fPolicy.fReceives≤w.fCount)) ==ex)
def Vz (ws:List Aq)(P:Aq→Bool)(k:Nat)(a:Int):Prop:=
 (a = -1∧∀j:Nat,j<k→P (Ac ws (j:Int))=false)∨∃m:Nat,a=(m:Int)∧m<k∧P (Ac ws (m:Int))=true∧∀j:Nat,j<k→P (Ac ws (j:Int))=true→(Ac ws (m:Int)).fVisible<(Ac ws (j:Int)).fVisible∨((Ac ws (m:Int)).fVisible=(Ac ws (j:Int)).fVisible∧m≤j)
theorem UG {ws:List Aq}{P:Aq→Bool}{k:Nat}{a:Int}(h:Vz ws P k a) :
  Vz ws P (k+1) (if P (Ac ws (k:Int))=true∧(a<0∨(Ac ws (k:Int)).fVisible<(Ac ws a).fVisible) then(k:Int) else a):=by
 have hk:∀{j:Nat},j<k+1→j<k∨j=k:=fun {j} h=>by omega
 rcases h with⟨rfl,h0⟩ | ⟨m,rfl,hm,h1,h2⟩
 ·by_cases hp:P (Ac ws (k:Int))=true
  ·rw[Z4 ⟨hp,.inl (by omega)⟩];refine .inr ⟨k,rfl,by omega,hp,λj hj hpj=>?_⟩;rcases hk hj with h3 | rfl
   ·rw[h0 j h3] at hpj;cases hpj
   ·exact .inr ⟨rfl,Z6 _⟩
  ·rw[Zu (λe=>hp e.1)];refine .inl ⟨rfl,λj hj=>?_⟩;rcases hk hj with h3 | rfl
   ·exact h0 j h3
   ·simpa using hp
 ·by_cases hp:P (Ac ws (k:Int))=true∧(Ac ws (k:Int)).fVisible<(Ac ws (m:Int)).fVisible
  ·rw[Z4 ⟨hp.1,.inr hp.2⟩];refine .inr ⟨k,rfl,by omega,hp.1,λj hj hpj=>?_⟩;rcases hk hj with h3 | rfl
   ·have:=h2 j h3 hpj;exact .inl (by omega)
   ·exact .inr ⟨rfl,Z6 _⟩
  ·rw[Zu (λe=>by rcases e with⟨e1,e2⟩;rcases e2 with e2 | e2;omega;exact hp ⟨e1,e2⟩)];refine .inr ⟨m,rfl,by omega,h1,λj hj hpj=>?_⟩;rcases hk hj with h3 | rfl
   ·exact h2 j h3 hpj
   ·have : ¬ (Ac ws (j:Int)).fVisible<(Ac ws (m:Int)).fVisible:=λe=>hp ⟨hpj,e⟩
    by_cases e:(Ac ws (m:Int)).fVisible=(Ac ws (j:Int)).fVisible
    ·exact .inr ⟨e,by omega⟩
    ·exact .inl (by omega)
theorem SU {F:Nat}{q:Aw}(hF:q.fWaiting.length<F)(hl:q.fWaiting.length≤1000000)(now:Int)(ex:Bool):∃a,Gb F q now ex=some a∧Vz q.fWaiting (Gt q now ex) q.fWaiting.length a:=by
 have key:∀(d n k:Nat) (a:Int),k+d=q.fWaiting.length→d<n→Vz q.fWaiting (Gt q now ex) k a→∃a',BS (λσ=>DO q now ex σ.1 σ.2) n (a,(k:Int))=some (.go a')∧Vz q.fWaiting (Gt q now ex) q.fWaiting.length a':=by
  intro d
  induction d with
  | zero=>
   intro n k a h hn hi;obtain⟨n,rfl⟩:∃m,n=m+1:=⟨n-1,by omega⟩
   obtain rfl:k=q.fWaiting.length:=by omega
   have hb:DO q now ex a (q.fWaiting.length:Int)=some (.out (.go a)):=by unfold DO;rw[AH (Ze (by omega))]
   exact⟨a,by rw[BS];simp only[hb],hi⟩
  | succ d ih=>
   intro n k a h hn hi;obtain⟨n,rfl⟩:∃m,n=m+1:=⟨n-1,by omega⟩
   have hia:a = -1∨(0≤a∧a<(k:Int)):=by
    rcases hi with⟨h1,_⟩ | ⟨m,h1,h2,_⟩
    ·exact .inl h1
    ·exact .inr (by omega)
   have hb:DO q now ex a (k:Int)=some (.next ((if Gt q now ex (Ac q.fWaiting (k:Int))=true∧(a<0∨(Ac q.fWaiting (k:Int)).fVisible<(Ac q.fWaiting a).fVisible) then(k:Int) else a),((k+1:Nat):Int))):=by
    unfold DO GW;have hc:imp (decide (((Ac q.fWaiting (k:Int)).fVisible)≤now)) (imp ((decide (q.fPolicy.fReceives≤((Ac q.fWaiting (k:Int)).fCount))) ==ex) (imp (!(decide (a<0))) (C6 a (q.fWaiting.length:Int))))=true:=by
     rcases hia with h1 | h1
     ·rw[Zc (show a<0 by omega)];simp[imp]
     ·rw[Rn h1.1 (by omega)];simp[imp]
    rw[AQ (Zc (by omega)),Bu (by omega) (by omega),B1 hc,AU (by omega) (by omega),AU (by omega) (by omega)]
    by_cases hp:Gt q now ex (Ac q.fWaiting (k:Int))=true∧(a<0∨(Ac q.fWaiting (k:Int)).fVisible<(Ac q.fWaiting a).fVisible)
    ·rw[Z4 hp];have h1:=hp.1;unfold Gt at h1;rw[Zd] at h1;rw[h1.1,h1.2,AQ (by simp only[Zr,Zz,Za];exact hp.2)];rfl
    ·rw[Zu hp];have h1:(((decide (((Ac q.fWaiting (k:Int)).fVisible)≤now))&&(((decide (q.fPolicy.fReceives≤((Ac q.fWaiting (k:Int)).fCount))) ==ex)&&((decide (a<0))||(decide (((Ac q.fWaiting (k:Int)).fVisible)<((Ac q.fWaiting a).fVisible)))))))=false:=by
      rw[Bool.eq_false_iff];intro e;rw[← Bool.and_assoc,Zd] at e;refine hp ⟨e.1,?_⟩;simpa using e.2
     rw[AH h1];rfl
   obtain⟨a',h1,h2⟩:=ih n (k+1) _ (by omega) (by omega) (UG hi);exact⟨a',by rw[BS];simp only[hb];exact h1,h2⟩
 obtain⟨a,h1,h2⟩:=key q.fWaiting.length F 0 (-1) (by omega) hF (.inl ⟨rfl,λj hj=>by omega⟩);refine⟨a,?_,h2⟩;unfold Gb;have h1':BS (λσ=>DO q now ex σ.1 σ.2) F (-1,0)=some (.go a):=h1;rw[h1',AZ rfl,CK];rfl
theorem Ha {F:Nat}{ps:List Ad}{idx:List Int}{q:Aw}(hw:q.fWaiting=Cp ps idx)(hF:300<F)(hl:idx.length≤256)(ho:idx.Pairwise λi j=>(Ac ps i).fPlace<(Ac ps j).fPlace)(now:Int)(ex:Bool) :
  let P:=λi=>Gt q now ex (Ii (Ac ps i))
  (Gb F q now ex=some (-1)∧idx.filter P=[])∨∃k:Nat,∃h:k<idx.length,Gb F q now ex=some (k:Int)∧P idx[k]=true∧Gq (I5 ps) (idx.filter P)=idx[k]::Gq (I5 ps) ((idx.filter λj=>!decide (j=idx[k])).filter P):=by
 intro P;have hlw:q.fWaiting.length=idx.length:=by rw[hw,DI]
 obtain⟨a,h1,h2⟩:=SU (F:=F) (q:=q) (by omega) (by omega) now ex;have hat:∀{j:Nat},(hj:j<idx.length)→Ac q.fWaiting (j:Int)=Ii (Ac ps idx[j]):=fun {j} hj=>by rw[hw,Hv hj]
 have hnd:idx.Nodup:=ho.imp fun {a b} hab e=>by subst e;omega
 rw[hlw] at h2;rcases h2 with⟨rfl,h3⟩ | ⟨m,rfl,hm,h3,h4⟩
 ·refine .inl ⟨h1,?_⟩;rw[List.filter_eq_nil_iff];intro i hi;obtain⟨j,hj,rfl⟩:=List.getElem_of_mem hi;have:=h3 j hj;rw[hat hj] at this;simpa[P] using this
 ·refine .inr ⟨m,hm,h1,by rw[hat hm] at h3;exact h3,?_⟩;have hPm:P idx[m]=true:=by rw[hat hm] at h3;exact h3
  have hperm:=O8 hnd (List.getElem_mem hm) hPm;refine Uc (Wj ps) (Kd (ho.filter _)) hperm λy hy=>?_;obtain⟨hy1,hy2⟩:=List.mem_filter.1 hy;obtain⟨hy3,hy4⟩:=List.mem_filter.1 hy1;obtain⟨j,hj,rfl⟩:=List.getElem_of_mem hy3;have h5:=h4 j hj (by rw[hat hj];exact hy2);rw[hat hm,hat hj] at h5;have hjm:j≠m:=λe=>by subst e;simp at hy4
  unfold I5;rw[Jz];have h5':(Ac ps idx[m]).fAt<(Ac ps idx[j]).fAt∨(Ac ps idx[m]).fAt=(Ac ps idx[j]).fAt∧m≤j:=h5;refine⟨by omega,λe=>?_⟩;have hmj:m<j:=by omega
  have:=List.pairwise_iff_getElem.1 ho m j hm hj hmj;omega
theorem O0:∀{idx:List Int} {k:Nat} (h:k<idx.length),idx.Nodup→(idx.filter λj=>!decide (j=idx[k]))=idx.take k++idx.drop (k+1)
 | a::r,0,h,hn=>by
  rw[List.nodup_cons] at hn;have:r.filter (λj=>!decide (j=a))=r:=List.filter_eq_self.2 λj hj=>by
   have:j≠a:=λe=>hn.1 (e▸hj);simp[this]
  simp[this]
 | a::r,k+1,h,hn=>by
  rw[List.nodup_cons] at hn;have hk:k<r.length:=by simpa using h
  have ih:=O0 hk hn.2;have hne:a≠r[k]:=λe=>hn.1 (e▸List.getElem_mem hk);simp only[List.getElem_cons_succ,List.take_succ_cons,List.drop_succ_cons,ZR];rw[List.filter_cons,Z4 (by simp[hne]),ih]
theorem LI {q:Aw}{ps:List Ad}{idx:List Int}(hw:q.fWaiting=Cp ps idx)(hl:idx.length≤256)(hn:idx.Nodup){k:Nat}(hk:k<idx.length) :
  HN q (k:Int)=some ⟨q.fMade,q.fPolicy,q.fNow,Cp ps (idx.filter λj=>!decide (j=idx[k])),q.fDead⟩:=by
 have hlw:q.fWaiting.length=idx.length:=by rw[hw,DI]
 unfold HN;rw[Gf (by omega) (by omega),B1 (show IB 136 _=true from Zc (by simp only[ZM,ZZ];omega)),AU (by omega) (by omega),Gf (by omega) (by omega),
  B1 (show IB 136 _=true from Zc (by simp only[ZV,ZZ,ZX];omega))]
 rw[O0 hk hn,hw,ZV,show((k:Int)).toNat=k from by omega,show((k:Int)+1).toNat=k+1 from by omega];unfold Cp;rw[ZO,List.map_take,List.map_drop]
def PP (q:Aw)(ps:List Ad)(now:Int)(i:Int):Bool:=Gt q now true (Ii (Ac ps i))
theorem Vw {F:Nat}(hF:300<F){ps:List Ad}{now v c:Int}{nw:Int}{P:Int→Bool}(hP:P=λi=>PP ⟨true,⟨v,c⟩,nw,[],[]⟩ ps now i):∀(n:Nat) (idx:List Int) (D:List Ay) (m:Nat),(idx.filter P).length=n→n<m→idx.length≤256→idx.Pairwise (λi j=>(Ac ps i).fPlace<(Ac ps j).fPlace)→D.length+idx.length≤100000→
  ∀a,Gb F ⟨true,⟨v,c⟩,nw,Cp ps idx,D⟩ now true=some a→
  BS (λσ=>CU F now σ.1 σ.2.1 σ.2.2.1 σ.2.2.2.1 σ.2.2.2.2.1 σ.2.2.2.2.2.1 σ.2.2.2.2.2.2) m (a,true,v,c,nw,Cp ps idx,D)=some (.go (true,v,c,nw,Cp ps (idx.filter λi=>!P i),D++(Gq (I5 ps) (idx.filter P)).map (EQ ps))):=by
 intro n
 induction n with
 | zero=>
  intro idx D m hn hm hl ho hD a ha;obtain⟨m,rfl⟩:∃k,m=k+1:=⟨m-1,by omega⟩
  have h0:idx.filter P=[]:=List.length_eq_zero_iff.1 hn;have hself:idx.filter (λi=>!P i)=idx:=List.filter_eq_self.2 λi hi=>by
   have:=List.filter_eq_nil_iff.1 h0 i hi;simpa using this
  rcases Ha (F:=F) (q:=⟨true,⟨v,c⟩,nw,Cp ps idx,D⟩) rfl hF hl ho now true with⟨h1,_⟩ | ⟨k,hk,h1,h2,_⟩
  ·rw[ha] at h1;obtain rfl:=Option.some.inj h1;have hb:CU F now (-1) true v c nw (Cp ps idx) D=some (.out (.go (true,v,c,nw,Cp ps idx,D))):=by unfold CU;rw[AH (by decide)]
   rw[BS];simp only[hb];rw[h0,hself];simp[Gq]
  ·exfalso;have h3:P idx[k]=true:=by subst hP;exact h2
   have:=List.filter_eq_nil_iff.1 h0 idx[k] (List.getElem_mem hk);exact this h3
 | succ n ih=>
  intro idx D m hn hm hl ho hD a ha;obtain⟨m,rfl⟩:∃k,m=k+1:=⟨m-1,by omega⟩
  have hnd:idx.Nodup:=ho.imp fun {a b} hab e=>by subst e;omega
  rcases Ha (F:=F) (q:=⟨true,⟨v,c⟩,nw,Cp ps idx,D⟩) rfl hF hl ho now true with⟨h1,h0⟩ | ⟨k,hk,h1,h2,h3⟩
  ·exfalso;have h0':idx.filter P=[]:=by subst hP;exact h0
   rw[h0'] at hn;cases hn
  ·rw[ha] at h1;obtain rfl:=Option.some.inj h1;have hPk:P idx[k]=true:=by subst hP;exact h2
   have h3':Gq (I5 ps) (idx.filter P)=idx[k]::Gq (I5 ps) ((idx.filter λj=>!decide (j=idx[k])).filter P):=by subst hP;exact h3
   have hperm:=O8 hnd (List.getElem_mem hk) hPk;have hlen:=hperm.length_eq;rw[Zj,hn] at hlen;have hl1:(idx.filter λj=>!decide (j=idx[k])).length+1=idx.length:=by
    rw[O0 hk hnd,Zs,ZZ,ZX];omega
   have ho1:=ho.filter (λj=>!decide (j=idx[k]));obtain⟨a1,ha1⟩:∃a1,Gb F ⟨true,⟨v,c⟩,nw,Cp ps (idx.filter λj=>!decide (j=idx[k])),D++[EQ ps idx[k]]⟩ now true=some a1:=by
    rcases Ha (F:=F) (q:=⟨true,⟨v,c⟩,nw,Cp ps (idx.filter λj=>!decide (j=idx[k])),D++[EQ ps idx[k]]⟩) rfl hF (by omega) ho1 now true with⟨h,_⟩ | ⟨k',_,h,_⟩
    ·exact⟨_,h⟩
    ·exact⟨_,h⟩
   have hb:CU F now (k:Int) true v c nw (Cp ps idx) D=some (.next (a1,true,v,c,nw,Cp ps (idx.filter λj=>!decide (j=idx[k])),D++[EQ ps idx[k]])):=by
    unfold CU;rw[AQ (Zc (by omega)),DI,Bu (by omega) (by omega),Hv hk,La (by simp;omega)];have hev:(Ii (Ac ps idx[k])).fEvent=EQ ps idx[k]:=rfl;rw[hev,LI (ps:=ps) (idx:=idx) rfl hl hnd hk,AZ rfl];simp only;rw[ha1,AZ rfl]
   rw[BS];simp only[hb];rw[ih _ _ m (by omega) (by omega) (by omega) ho1 (by simp;omega) a1 ha1,h3',ZK,Z5];have hfil:(idx.filter λj=>!decide (j=idx[k])).filter (λi=>!P i)=idx.filter λi=>!P i:=by
    rw[List.filter_filter];refine List.filter_congr λj _=>?_
    by_cases e:j=idx[k]
    ·rw[e,hPk];rfl
    ·simp[e]
   rw[hfil];rfl
theorem H4 {F:Nat}(hF:300<F){q:An}{ps:List Ad}{idx:List Int}(h:QI q ps idx)(now:Int) :
  GA F (BA q ps idx) now=some (DZ q now,if DZ q now=0 then BA (BX q ps idx now) ps (Cf q ps idx now) else BA q ps idx):=by
 have hc:=h.cnt;unfold GA DZ
 by_cases h1:0≤now∧now≤1073741824
 ·rw[AH (by simp only[Z3,YZ];omega),Z4 h1]
  by_cases h2:now<q.fNow
  ·rw[AQ (Zc (show now<(BA q ps idx).fNow from h2)),Z4 h2,Zu (by decide)]
  ·rw[AH (Ze (show ¬ now<(BA q ps idx).fNow from h2)),Zu h2,Z4 rfl];obtain⟨a,ha⟩:∃a,Gb F ⟨true,⟨q.fPolicy.fVisible,q.fPolicy.fReceives⟩,now,Cp ps idx,q.fDead⟩ now true=some a:=by
    rcases Ha (F:=F) (q:=⟨true,⟨q.fPolicy.fVisible,q.fPolicy.fReceives⟩,now,Cp ps idx,q.fDead⟩) rfl hF (by omega) h.ord now true with⟨h,_⟩ | ⟨k',_,h,_⟩
    ·exact⟨_,h⟩
    ·exact⟨_,h⟩
   have ha':Gb F ⟨(BA q ps idx).fMade,(BA q ps idx).fPolicy,now,(BA q ps idx).fWaiting,(BA q ps idx).fDead⟩ now true=some a:=ha;rw[ha',AZ rfl];have hlop:=Vw (F:=F) hF (ps:=ps) (now:=now) (v:=q.fPolicy.fVisible) (c:=q.fPolicy.fReceives) (nw:=now) rfl (idx.filter λi=>PP ⟨true,⟨q.fPolicy.fVisible,q.fPolicy.fReceives⟩,now,[],[]⟩ ps now i).length idx q.fDead F rfl (by have:=List.length_filter_le (λi=>PP ⟨true,⟨q.fPolicy.fVisible,q.fPolicy.fReceives⟩,now,[],[]⟩ ps now i) idx;omega) (by omega) h.ord (by omega) a ha;have hPe:∀i,PP ⟨true,⟨q.fPolicy.fVisible,q.fPolicy.fReceives⟩,now,[],[]⟩ ps now i=Dd q ps now i:=by
    intro i;unfold PP Gt Dd;show(decide ((Ac ps i).fAt≤now)&&(decide (q.fPolicy.fReceives≤(Ac ps i).fReceives) ==true))=_
    cases decide (q.fPolicy.fReceives≤(Ac ps i).fReceives)<;>rfl
   simp only[hPe] at hlop;have hlop':BS (λσ=>CU F now σ.1 σ.2.1 σ.2.2.1 σ.2.2.2.1 σ.2.2.2.2.1 σ.2.2.2.2.2.1 σ.2.2.2.2.2.2) F (a,(BA q ps idx).fMade,(BA q ps idx).fPolicy.fVisible,(BA q ps idx).fPolicy.fReceives,now,(BA q ps idx).fWaiting,(BA q ps idx).fDead)=_:=hlop;rw[hlop',AZ rfl,CK];rfl
 ·rw[AQ (by simp only[Zz,Za];omega),Zu h1,Zu (by decide)]
theorem Ot {T:Type}{lt lt':T→T→Bool}(L:V0 lt)(L':V0 lt'){xs:List T}(hd:E4 lt' xs=true)(h:∀x∈xs,∀y∈xs,lt x y=lt' x y):Gq lt xs=Gq lt' xs:=by
 refine Ou L' hd (CZ lt xs) ?_;refine(Hi L xs).imp_of_mem fun {a b} ha hb hab=>?_;rw[← h b ((CZ lt xs).subset hb) a ((CZ lt xs).subset ha)];exact hab
theorem M5 {ps:List Ad}{idx:List Int}(hn:idx.Nodup)(hin:∀i∈idx,C6 i (ps.length:Int)=true){k:Nat}(hk:k<idx.length)(y:Ad):Cp (ps.set (idx[k]).toNat y) idx=(Cp ps idx).set k (Ii y):=by
 unfold Cp;refine List.ext_getElem (by simp) λj h1 h2=>?_;have hj:j<idx.length:=by simpa using h1
 rw[List.getElem_map,List.getElem_set,HG (hin _ (List.getElem_mem hk)) (hin _ (List.getElem_mem hj))]
 by_cases e:k=j
 ·subst e;rw[Z4 rfl,Z4 rfl]
 ·rw[Zu e,Zu (λe2=>e ((List.getElem_inj hn).1 e2).symm),List.getElem_map]
theorem OU {α β:Type}{a:α}{k:α→Option β}{y:Option β}(h:k a=y):Mw a k=y:=h
theorem SO {F:Nat}{now most v c nw:Int}{D:List Ay}{idx:List Int}{ps:List Ad}{out:List AB}{k:Nat}(hmo:(out.length:Int)<most)(hk:k<idx.length)(hnd:idx.Nodup)(hin:∀i∈idx,C6 i (ps.length:Int)=true)
  (hid:(Ac ps idx[k]).fEvent.fID.length≤300) (hr:0≤(Ac ps idx[k]).fReceives∧(Ac ps idx[k]).fReceives≤100) (hv : -1000000000000≤now+v) (hv2:now+v≤1000000000000) (hl:idx.length≤256) (ho:out.length≤256)
  (h1:Gb F ⟨true,⟨v,c⟩,nw,Cp ps idx,D⟩ now false=some (k:Int)) :
  BU F now most true v c nw D out (Cp ps idx)=some (.next (out++[Qr (Gr (Ac ps idx[k]) (now+v))],Cp (ps.set (idx[k]).toNat (Gr (Ac ps idx[k]) (now+v))) idx)):=by
 have hto:=KS ((Ac ps idx[k]).fReceives+1) (by omega) (by omega);unfold BU;rw[AQ (Zc hmo),h1,AZ rfl,AH (Ze (by omega)),DI,Bu (by omega) (by omega),Hv hk];have e1:(Ii (Ac ps idx[k])).fCount=(Ac ps idx[k]).fReceives:=rfl;have e2:(Ii (Ac ps idx[k])).fEvent=(Ac ps idx[k]).fEvent:=rfl;rw[e1,e2,AU (by omega) (by omega),AU (by omega) (by omega),M5 hnd hin hk];have e3:([35]:AE).length=1:=rfl;have e4:List.length ((Ac ps idx[k]).fEvent.fID++([35]:AE))=(Ac ps idx[k]).fEvent.fID.length+1:=by rw[Zs,e3]
 refine OU ?_;rw[e3,e4,AU (by omega) (by omega),AU (by omega) (by omega),KZ (by simp;omega)];rfl
theorem Un {F:Nat}(hF:300<F){now most v c nw:Int}{D:List Ay}(hcc:c≤10)(hv:1≤v∧v≤1073741824)(hnow:0≤now∧now≤1073741824){idx:List Int}(hl:idx.length≤256) :
  ∀(n:Nat) (ps:List Ad) (out:List AB) (m:Nat),(idx.filter λi=>Gt ⟨true,⟨v,c⟩,nw,[],[]⟩ now false (Ii (Ac ps i))).length=n→n<m→idx.Pairwise (λi j=>(Ac ps i).fPlace<(Ac ps j).fPlace)→(∀i∈idx,C6 i (ps.length:Int)=true)→
   (∀i∈idx,XS (EQ ps i)∧0≤(Ac ps i).fReceives∧(Ac ps i).fReceives≤c)→out.length+n≤256→
   let L:=(Gq (I5 ps) (idx.filter λi=>Gt ⟨true,⟨v,c⟩,nw,[],[]⟩ now false (Ii (Ac ps i)))).take (most.toNat-out.length)
   ∃o,BS (λσ=>BU F now most true v c nw D σ.1 σ.2) m (out,Cp ps idx)=some o∧BP (λν=>DF true v c nw D ν.1 ν.2) o=some (out++ED (now+v) ps L,⟨true,⟨v,c⟩,nw,Cp (I2 (now+v) L ps) idx,D⟩):=by
 intro n
 induction n with
 | zero=>
  intro ps out m hn hm ho hin hsm hol L;obtain⟨m,rfl⟩:∃k,m=k+1:=⟨m-1,by omega⟩
  have h0:=List.length_eq_zero_iff.1 hn;have hL:L=[]:=by show List.take _ (Gq (I5 ps) _)=[];rw[h0];simp[Gq]
  rw[hL]
  by_cases hmo:(out.length:Int)<most
  ·rcases Ha (F:=F) (q:=⟨true,⟨v,c⟩,nw,Cp ps idx,D⟩) rfl hF hl ho now false with⟨h1,_⟩ | ⟨k,hk,h1,h2,_⟩
   ·have hb:BU F now most true v c nw D out (Cp ps idx)=some (.out (.ret (out,⟨true,⟨v,c⟩,nw,Cp ps idx,D⟩))):=by
     unfold BU;rw[AQ (Zc hmo),h1,AZ rfl,AQ (by decide)]
    refine⟨.ret (out,⟨true,⟨v,c⟩,nw,Cp ps idx,D⟩),by rw[BS];simp only[hb],?_⟩;simp[BP,ED,I2]
   ·exact absurd h2 (List.filter_eq_nil_iff.1 h0 idx[k] (List.getElem_mem hk))
  ·have hb:BU F now most true v c nw D out (Cp ps idx)=some (.out (.go (out,Cp ps idx))):=by
    unfold BU;rw[AH (Ze hmo)]
   refine⟨.go (out,Cp ps idx),by rw[BS];simp only[hb],?_⟩;simp[BP,DF,ED,I2]
 | succ n ih=>
  intro ps out m hn hm ho hin hsm hol L;obtain⟨m,rfl⟩:∃k,m=k+1:=⟨m-1,by omega⟩
  have hnd:idx.Nodup:=ho.imp fun {a b} hab e=>by subst e;omega
  by_cases hmo:(out.length:Int)<most
  ·rcases Ha (F:=F) (q:=⟨true,⟨v,c⟩,nw,Cp ps idx,D⟩) rfl hF hl ho now false with⟨h1,h0⟩ | ⟨k,hk,h1,h2,h3⟩
   ·exfalso;have h0':(idx.filter λi=>Gt ⟨true,⟨v,c⟩,nw,[],[]⟩ now false (Ii (Ac ps i)))=[]:=h0;rw[h0'] at hn;cases hn
   ·have hi:=List.getElem_mem hk;have hPk:Gt ⟨true,⟨v,c⟩,nw,[],[]⟩ now false (Ii (Ac ps idx[k]))=true:=h2;have h3':Gq (I5 ps) (idx.filter λi=>Gt ⟨true,⟨v,c⟩,nw,[],[]⟩ now false (Ii (Ac ps i)))=idx[k]::Gq (I5 ps) ((idx.filter λj=>!decide (j=idx[k])).filter λi=>Gt ⟨true,⟨v,c⟩,nw,[],[]⟩ now false (Ii (Ac ps i))):=h3;have hperm:=O8 hnd hi (P:=λi=>Gt ⟨true,⟨v,c⟩,nw,[],[]⟩ now false (Ii (Ac ps i))) hPk;have hlen:=hperm.length_eq;rw[Zj,hn] at hlen;obtain⟨hs1,hs2,hs3⟩:=hsm _ hi;have hik:=hin _ hi;have hid:(Ac ps idx[k]).fEvent.fID.length≤300:=hs1.1;have hto:=KS ((Ac ps idx[k]).fReceives+1) (by omega) (by omega);have hb:BU F now most true v c nw D out (Cp ps idx)=some (.next (out++[Qr (Gr (Ac ps idx[k]) (now+v))],Cp (ps.set (idx[k]).toNat (Gr (Ac ps idx[k]) (now+v))) idx)):=by
     exact SO hmo hk hnd hin hs1.1 ⟨hs2,by omega⟩ (by omega) (by omega) hl (by omega) h1
    rw[BS];simp only[hb];have hat:∀j∈idx,Ac (ps.set (idx[k]).toNat (Gr (Ac ps idx[k]) (now+v))) j=if j=idx[k] then Gr (Ac ps idx[k]) (now+v) else Ac ps j:=λj hj=>HG hik (hin j hj)
    have hplace:∀j∈idx,(Ac (ps.set (idx[k]).toNat (Gr (Ac ps idx[k]) (now+v))) j).fPlace=(Ac ps j).fPlace:=λj hj=>by
     rw[hat j hj];split
     ·rename_i e;rw[e];rfl
     ·rfl
    have hfil:(idx.filter λi=>Gt ⟨true,⟨v,c⟩,nw,[],[]⟩ now false (Ii (Ac (ps.set (idx[k]).toNat (Gr (Ac ps idx[k]) (now+v))) i)))=(idx.filter λj=>!decide (j=idx[k])).filter λi=>Gt ⟨true,⟨v,c⟩,nw,[],[]⟩ now false (Ii (Ac ps i)):=by
     rw[List.filter_filter];refine List.filter_congr λj hj=>?_;rw[hat j hj]
     by_cases e:j=idx[k]
     ·rw[Z4 e,Zc e,Zi,Zv];unfold Gt;rw[Ze (show ¬ (Ii (Gr (Ac ps idx[k]) (now+v))).fVisible≤now from by show ¬ now+v≤now;omega),Zw]
     ·rw[Zu e,Ze e,Zp,Zx]
    have hrest:∀j∈(idx.filter λj=>!decide (j=idx[k])).filter (λi=>Gt ⟨true,⟨v,c⟩,nw,[],[]⟩ now false (Ii (Ac ps i))),j∈idx∧j≠idx[k]:=λj hj=>by
     have h5:=List.mem_filter.1 (List.mem_filter.1 hj).1;exact⟨h5.1,by simpa using h5.2⟩
    have hsrt:Gq (I5 (ps.set (idx[k]).toNat (Gr (Ac ps idx[k]) (now+v)))) ((idx.filter λj=>!decide (j=idx[k])).filter λi=>Gt ⟨true,⟨v,c⟩,nw,[],[]⟩ now false (Ii (Ac ps i)))=Gq (I5 ps) ((idx.filter λj=>!decide (j=idx[k])).filter λi=>Gt ⟨true,⟨v,c⟩,nw,[],[]⟩ now false (Ii (Ac ps i))):=by
     refine Ot (Wj _) (Wj _) (Kd ((ho.filter _).filter _)) λx hx y hy=>?_;have hx':=hrest x hx;have hy':=hrest y hy;unfold I5;rw[hat x hx'.1,hat y hy'.1,Zu hx'.2,Zu hy'.2]
    have hlen1:(out++[Qr (Gr (Ac ps idx[k]) (now+v))]).length=out.length+1:=by simp
    obtain⟨o,g1,g2⟩:=ih (ps.set (idx[k]).toNat (Gr (Ac ps idx[k]) (now+v))) (out++[Qr (Gr (Ac ps idx[k]) (now+v))]) m (by rw[hfil];omega) (by omega) (ho.imp_of_mem fun {i j} hi' hj' hij=>by rw[hplace i hi',hplace j hj'];exact hij) (λi hi'=>by rw[ZP];exact hin i hi') (λi hi'=>by
     obtain⟨q1,q2,q3⟩:=hsm i hi';unfold EQ;rw[hat i hi']
     split
     ·rename_i e
      refine⟨hs1,?_,?_⟩
      ·show 0≤(Ac ps idx[k]).fReceives+1;omega
      ·show(Ac ps idx[k]).fReceives+1≤c;have hh:=hPk;unfold Gt at hh;rw[Zd] at hh;have h6:=hh.2;rw[beq_iff_eq,YZ] at h6;have h7 : ¬ c≤(Ac ps idx[k]).fReceives:=h6;omega
     ·exact⟨q1,q2,q3⟩) (by rw[hlen1];omega)
    refine⟨o,g1,?_⟩;rw[g2];rw[hfil,hsrt,hlen1];have hLe:L=idx[k]::(Gq (I5 ps) ((idx.filter λj=>!decide (j=idx[k])).filter λi=>Gt ⟨true,⟨v,c⟩,nw,[],[]⟩ now false (Ii (Ac ps i)))).take (most.toNat-(out.length+1)):=by
     show List.take (most.toNat-out.length) (Gq (I5 ps) _)=_;rw[h3',show most.toNat-out.length=(most.toNat-(out.length+1))+1 from by omega,List.take_succ_cons]
    rw[hLe];have hout:ED (now+v) (ps.set (idx[k]).toNat (Gr (Ac ps idx[k]) (now+v))) ((Gq (I5 ps) ((idx.filter λj=>!decide (j=idx[k])).filter λi=>Gt ⟨true,⟨v,c⟩,nw,[],[]⟩ now false (Ii (Ac ps i)))).take (most.toNat-(out.length+1)))=ED (now+v) ps ((Gq (I5 ps) ((idx.filter λj=>!decide (j=idx[k])).filter λi=>Gt ⟨true,⟨v,c⟩,nw,[],[]⟩ now false (Ii (Ac ps i)))).take (most.toNat-(out.length+1))):=
     List.map_congr_left λj hj=>by
      have hj':=hrest j ((CZ _ _).subset (List.mem_of_mem_take hj));rw[hat j hj'.1,Zu hj'.2]
    rw[hout,Z5];rfl
  ·have hb:BU F now most true v c nw D out (Cp ps idx)=some (.out (.go (out,Cp ps idx))):=by
    unfold BU;rw[AH (Ze hmo)]
   have hL:L=[]:=by show List.take (most.toNat-out.length) _=[];rw[show most.toNat-out.length=0 from by omega,List.take_zero]
   rw[hL];refine⟨.go (out,Cp ps idx),by rw[BS];simp only[hb],?_⟩;simp[BP,DF,ED,I2]
theorem O2 {F:Nat}(hF:300<F){q:An}{ps:List Ad}{idx:List Int}(h:QI q ps idx)(now most:Int) :
  Gs F (BA q ps idx) now most=some (if DZ q now=0 then(ED (now+q.fPolicy.fVisible) ps (QV q ps idx now most),BA (BX q ps idx now) (I2 (now+q.fPolicy.fVisible) (QV q ps idx now most) ps) (Cf q ps idx now)) else([],BA q ps idx)):=by
 unfold Gs CD;rw[AZ rfl,AH (p:=!(BA q ps idx).fMade) rfl,H4 hF h,AZ rfl];simp only;unfold Eq
 by_cases hE:DZ q now=0
 ·have hn:=CO hE;have hq:=Gh h ⟨hn.1,hn.2.1⟩;have hcnt:=hq.cnt;rw[Z4 hE,Z4 hE,AH (p:=!decide (DZ q now=0)) (by rw[hE];rfl)];have hfe:((Cf q ps idx now).filter λi=>Gt ⟨true,⟨q.fPolicy.fVisible,q.fPolicy.fReceives⟩,now,[],[]⟩ now false (Ii (Ac ps i)))=(Cf q ps idx now).filter (DX ps now):=by
   refine List.filter_congr λi hi=>?_;have ho:=(List.mem_filter.1 hi).2;unfold Dd at ho;show(decide ((Ac ps i).fAt≤now)&&(decide (q.fPolicy.fReceives≤(Ac ps i).fReceives) ==false))=decide ((Ac ps i).fAt≤now)
   cases h1:decide ((Ac ps i).fAt≤now) with
   | false=>rfl
   | true=>
    rw[h1,Zr,Zq] at ho;rw[ho];rfl
  have hll:((Cf q ps idx now).filter (DX ps now)).length≤(Cf q ps idx now).length:=List.length_filter_le _ _;obtain⟨o,h1,h2⟩:=Un (F:=F) hF (now:=now) (most:=most) (v:=q.fPolicy.fVisible) (c:=q.fPolicy.fReceives) (nw:=now) (D:=(BX q ps idx now).fDead) h.rcs.2 h.vis ⟨hn.1,hn.2.1⟩ (idx:=Cf q ps idx now) (by omega) _ ps [] F rfl (by rw[hfe];omega) hq.ord hq.inr (λi hi=>⟨hq.sm i hi,hq.rcv i hi⟩) (by rw[hfe];simp;omega);have h1':BS (λσ=>BU F now most (BA (BX q ps idx now) ps (Cf q ps idx now)).fMade (BA (BX q ps idx now) ps (Cf q ps idx now)).fPolicy.fVisible (BA (BX q ps idx now) ps (Cf q ps idx now)).fPolicy.fReceives (BA (BX q ps idx now) ps (Cf q ps idx now)).fNow (BA (BX q ps idx now) ps (Cf q ps idx now)).fDead σ.1 σ.2) F (([]:List AB),(BA (BX q ps idx now) ps (Cf q ps idx now)).fWaiting)=some o:=h1;rw[h1',AZ rfl];refine h2.trans ?_;rw[hfe,ZV,ZM,Nat.sub_zero]
  first | done | rfl
 ·rw[Zu hE,Zu hE,AQ (p:=!decide (DZ q now=0)) (by simp[hE])]
  first | done | rfl
theorem Nd:∀(s:AE),(35:UInt8) ∉ s→Lib.indexByte s 35 = -1
 | [],_=>rfl
 | c::p,h=>by
  have hc:(c ==35)=false:=by
   rw[beq_eq_false_iff_ne];intro e;exact h (by rw[e];exact List.mem_cons_self ..)
  have ih:=Nd p λhm=>h (List.mem_cons_of_mem _ hm);show(if (c ==35)=true then(0:Int) else if (Lib.indexByte p 35 == -1)=true then -1 else Lib.indexByte p 35+1)=_;rw[hc,ih];rfl
theorem Se:∀(s:AE),(35:UInt8) ∉ s∨∃p r,s=p++35::r∧(35:UInt8) ∉ p
 | []=>.inl (by simp)
 | c::s=>by
  by_cases hc:c=35
  ·exact .inr ⟨[],s,by rw[hc];rfl,by simp⟩
  ·rcases Se s with h | ⟨p,r,h1,h2⟩
   ·exact .inl (λhm=>by rcases List.mem_cons.1 hm with e | hm;exact hc e.symm;exact h hm)
   ·exact .inr ⟨c::p,r,by rw[h1];rfl,λhm=>by rcases List.mem_cons.1 hm with e | hm;exact hc e.symm;exact h2 hm⟩
theorem XG {p r:AE}(h:(35:UInt8) ∉ p):En (p++35::r)=(p,r,true):=by
 have hix:RX (p++35::r)=(p.length:Int):=by
  unfold RX
  by_cases hne:([35]:AE)=p++35::r
  ·cases p with
   | nil=>rw[Zc hne];rfl
   | cons c p=>
    simp only[ZR,List.cons.injEq] at hne;exact absurd (by rw[← hne.1];exact List.mem_cons_self ..) h
  ·rw[Ze hne,NS p r h];rfl
 unfold En;rw[hix,Zc (by omega)];show((p++35::r).take ((p.length:Int)).toNat,(p++35::r).drop ((p.length:Int)+1).toNat,true)=_;rw[show((p.length:Int)).toNat=p.length from by omega,show((p.length:Int)+1).toNat=p.length+1 from by omega,List.take_left' rfl,List.drop_append];simp
theorem XF {s:AE}(h:(35:UInt8) ∉ s):En s=(s,[],false):=by
 have hix:RX s = -1:=by
  unfold RX;have hne : ¬ ([35]:AE)=s:=λe=>h (by rw[← e];simp);rw[Ze hne,Nd s h];rfl
 unfold En;rw[hix];rfl
theorem Vs {s:AE}{i:Nat}(h:i<s.length):decide (Cr s (i:Int)=35)=decide (s[i]=35):=by
 rw[Kg (Zg h),Z7];simp only[Za];constructor
 ·intro e;have:(s[i]).toNat=35:=by omega
  exact UInt8.toNat_inj.1 this
 ·intro e;rw[e];rfl
def SQ (s:AE):AE×Int:=if Cb (En s).2.1=0∧1≤B3 (En s).2.1 then((En s).1,B3 (En s).2.1) else([],0)
theorem P6 {F:Nat}{s:AE}(hF:s.length<F)(hs:s.length≤1000000):IO F s=some (SQ s):=by
 unfold IO SQ;rcases Se s with h | ⟨p,r,rfl,h⟩
 ·have hl:BS (λσ=>CS s σ) F 0=some (.go ()):=by
   refine HZ hF (λi hi=>?_) ?_
   ·unfold CS;have hne : ¬ s[i]=35:=λe=>h (e▸List.getElem_mem hi);rw[AQ (Zc (by omega)),Bu (by omega) (by omega),Vs hi,AH (Ze hne),AU (by omega) (by omega)]
   ·unfold CS;rw[AH (Ze (by omega))]
  rw[hl,AZ rfl,CK,XF h];rfl
 ·rw[XG h];have hlen:(p++35::r).length=p.length+1+r.length:=by simp;omega
  have hp:p.length<(p++35::r).length:=by omega
  have hget:(p++35::r)[p.length]=35:=by simp
  have hdrop:(p++35::r).drop (p.length+1)=r:=by rw[List.drop_append];simp
  have htake:(p++35::r).take p.length=p:=List.take_left' rfl;have hl:BS (λσ=>CS (p++35::r) σ) F 0=some (.ret (if Cb r=0∧1≤B3 r then(p,B3 r) else([],0))):=by
   refine HZ (m:=p.length) (by omega) (λi hi=>?_) ?_
   ·unfold CS;have hil:i<(p++35::r).length:=by omega
    have hg:(p++35::r)[i]=p[i]:=List.getElem_append_left hi;have hne : ¬ (p++35::r)[i]=35:=λe=>h (by rw[← e,hg];exact List.getElem_mem hi);rw[AQ (Zc (by omega)),Bu (by omega) (by omega),Vs hil,AH (Ze hne),AU (by omega) (by omega)]
   ·unfold CS;rw[AQ (Zc (by omega)),Bu (by omega) (by omega),Vs hp,AQ (Zc hget),AU (by omega) (by omega),Gf (by omega) (by omega),show((p.length:Int)+1).toNat=p.length+1 from by omega,hdrop,
     B1 (show IB 1 r.length=true from Zc (by omega))]
    by_cases hc:Cb r=0∧1≤B3 r
    ·rw[Z4 hc,AH (by rw[Z3];exact⟨by rw[Zc hc.1];rfl,Ze (by omega)⟩),Gf (by omega) (by omega),show((p.length:Int)).toNat=p.length from by omega,htake]
    ·rw[Zu hc,AQ (by
      rw[Zz]
      by_cases e:Cb r=0
      ·exact .inr (Zc (by omega))
      ·exact .inl (by rw[Ze e];rfl))]
  rw[hl,AZ rfl];rfl
theorem Lr {F:Nat}(hF:300<F){q:An}{ps:List Ad}{idx:List Int}(h:QI q ps idx)(id:AE) :
  (mget q.fWaiting id=none∧Iq F (BA q ps idx) id=some (-1))∨∃k:Nat,∃hk:k<idx.length,mget q.fWaiting id=some idx[k]∧(EQ ps idx[k]).fID=id∧Iq F (BA q ps idx) id=some (k:Int):=by
 have hc:=h.cnt;have hlw:(BA q ps idx).fWaiting.length=idx.length:=DI ps idx;have hat:∀{j:Nat},(hj:j<idx.length)→(Ac (BA q ps idx).fWaiting (j:Int)).fEvent.fID=(EQ ps idx[j]).fID:=fun {j} hj=>by
  show(Ac (Cp ps idx) (j:Int)).fEvent.fID=_;rw[Hv hj];rfl
 have hstep:∀{j:Nat},(hj:j<idx.length)→¬ (EQ ps idx[j]).fID=id→DP (BA q ps idx) id (j:Int)=some (.next ((j:Int)+1)):=fun {j} hj hne=>by
  unfold DP;rw[AQ (Zc (by omega)),Bu (by omega) (by omega),hat hj,AH (Ze hne),AU (by omega) (by omega)]
 cases hg:mget q.fWaiting id with
 | none=>
  refine .inl ⟨rfl,?_⟩;have hl:BS (λσ=>DP (BA q ps idx) id σ) F 0=some (.go ()):=by
   refine HZ (m:=idx.length) (by omega) (λi hi=>hstep hi λe=>?_) ?_
   ·have:=h.mget (List.getElem_mem hi);rw[e,hg] at this;cases this
   ·unfold DP;rw[AH (Ze (by omega))]
  unfold Iq;rw[hl,AZ rfl,CK];rfl
 | some i=>
  obtain⟨hi,he⟩:=h.get hg;obtain⟨k,hk,rfl⟩:=List.getElem_of_mem hi;refine .inr ⟨k,hk,rfl,he,?_⟩;have hl:BS (λσ=>DP (BA q ps idx) id σ) F 0=some (.ret (k:Int)):=by
   refine HZ (m:=k) (by omega) (λj hj=>hstep (by omega) λe=>?_) ?_
   ·have h1:=h.idne (List.getElem_mem (show j<idx.length by omega)) (List.getElem_mem hk) (e.trans he.symm);have:=(List.getElem_inj h.nodup).1 h1;omega
   ·unfold DP;rw[AQ (Zc (by omega)),Bu (by omega) (by omega),hat hk,AQ (Zc he)]
  unfold Iq;rw[hl,AZ rfl];rfl
theorem K8 (n:Int):Di n=some (QO n):=by
 unfold Di QO;rw[Bool.decide_and]
theorem JU {F:Nat}{q:An}{ps:List Ad}{idx:List Int}(h:QI q ps idx){s:AE}(hs:s.length≤300)(hF:300<F)(now t:Int) :
  ∃pos,Ip F (BA q ps idx) s now t=some (pos,(CY q ps idx s now t).2,BA (G0 q ps idx now t) ps (Dx q ps idx now t))∧
   ((CY q ps idx s now t).2=0→∃k:Nat,∃hk:k<(Dx q ps idx now t).length,pos=(k:Int)∧(Dx q ps idx now t)[k]=(CY q ps idx s now t).1):=by
 have hnow:=h.now;unfold Ip;rw[K8,K8,Option.isSome_some,Option.isSome_some,B1 rfl,B1 (by unfold imp;simp),Ew,Ew];unfold CY G0 Dx
 cases ht:QO t with
 | false=>
  rw[AQ (by simp)];exact⟨0,rfl,λe=>absurd (show(2:Int)=0 from e) (by decide)⟩
 | true=>
  by_cases hnw:QO now=true
  ·rw[hnw,AH (by rfl),H4 hF h,AZ rfl]
   by_cases hE:DZ q now=0
   ·have hn:=CO hE;have hq:=Gh h ⟨hn.1,hn.2.1⟩;have hc:=hq.cnt;have hlw:(BA (BX q ps idx now) ps (Cf q ps idx now)).fWaiting.length=(Cf q ps idx now).length:=DI _ _;simp only[hE,ZG,Zl,true_and];rw[AH (by rfl),P6 (by omega) (by omega),AZ rfl]
    by_cases hc1:Cb (En s).2.1=0∧1≤B3 (En s).2.1
    ·have hrc:SQ s=((En s).1,B3 (En s).2.1):=by unfold SQ;rw[Z4 hc1]
     rw[hrc];rcases Lr hF hq (En s).1 with⟨hg,hf⟩ | ⟨k,hk,hg,hid,hf⟩
     ·have hfn:Ma (BX q ps idx now) ps (En s).1 (En s).2.1 now=(-1,5):=by unfold Ma;rw[hg]
      rw[hf,AZ rfl,hfn,B1 (by simp[imp]),AQ (by simp)];exact⟨0,rfl,λe=>absurd e (by decide)⟩
     ·have hcnt:(Ac (BA (BX q ps idx now) ps (Cf q ps idx now)).fWaiting (k:Int))=Ii (Ac ps (Cf q ps idx now)[k]):=Hv hk;rw[hf,AZ rfl];simp only;rw[hcnt,B1 (by rw[Rn (by omega) (by omega)];simp[imp])];have hfn:Ma (BX q ps idx now) ps (En s).1 (En s).2.1 now=if Cb (En s).2.1≠0∨B3 (En s).2.1<1∨(Ac ps (Cf q ps idx now)[k]).fReceives<B3 (En s).2.1 then(-1,5)
        else if B3 (En s).2.1<(Ac ps (Cf q ps idx now)[k]).fReceives∨(Ac ps (Cf q ps idx now)[k]).fHeld=false∨(Ac ps (Cf q ps idx now)[k]).fAt≤now then(-1,18) else((Cf q ps idx now)[k],0):=by unfold Ma;rw[hg]
      have e1:(Ii (Ac ps (Cf q ps idx now)[k])).fCount=(Ac ps (Cf q ps idx now)[k]).fReceives:=rfl;have e2:(Ii (Ac ps (Cf q ps idx now)[k])).fHeld=(Ac ps (Cf q ps idx now)[k]).fHeld:=rfl;have e3:(Ii (Ac ps (Cf q ps idx now)[k])).fVisible=(Ac ps (Cf q ps idx now)[k]).fAt:=rfl;rw[hfn,e1,e2,e3]
      by_cases g1:(Ac ps (Cf q ps idx now)[k]).fReceives<B3 (En s).2.1
      ·rw[Z4 (.inr (.inr g1)),AQ (by simp[g1])];exact⟨0,rfl,λe=>absurd e (by decide)⟩
      ·rw[Zu (by omega),AH (by simp only[Z3,YZ];omega),Bu (by omega) (by omega)]
       by_cases g2:B3 (En s).2.1<(Ac ps (Cf q ps idx now)[k]).fReceives∨(Ac ps (Cf q ps idx now)[k]).fHeld=false∨(Ac ps (Cf q ps idx now)[k]).fAt≤now
       ·rw[Z4 g2,AQ (by simp only[Zz,Za,Zq];exact g2)];exact⟨0,rfl,λe=>absurd e (by decide)⟩
       ·rw[Zu g2,AH (by
         rw[Bool.eq_false_iff];intro e;simp only[Zz,Za,Zq] at e;exact g2 e)]
        exact⟨(k:Int),rfl,λ_=>⟨k,hk,rfl,rfl⟩⟩
    ·have hrc:SQ s=([],0):=by unfold SQ;rw[Zu hc1]
     have hfn:(Ma (BX q ps idx now) ps (En s).1 (En s).2.1 now)=(-1,5):=by
      unfold Ma
      cases mget (BX q ps idx now).fWaiting (En s).1 with
      | none=>rfl
      | some i=>simp only;rw[Z4 (by omega)]
     rw[hrc,hfn];obtain⟨a,ha⟩:∃a,Iq F (BA (BX q ps idx now) ps (Cf q ps idx now)) []=some a:=by
      rcases Lr hF hq [] with⟨_,hf⟩ | ⟨k,_,_,_,hf⟩
      ·exact⟨_,hf⟩
      ·exact⟨_,hf⟩
     rw[ha,AZ rfl];rw[B1 (by simp[imp]),AQ (by simp)];exact⟨0,rfl,λe=>absurd e (by decide)⟩
   ·simp only[hE,Z8,Zl,and_false];rw[AQ (by simp[hE])];exact⟨0,rfl,λe=>absurd e (by simp)⟩
  ·have hE:DZ q now=2:=by
    unfold DZ;rw[Zu (λe=>hnw (Zc e))]
   rw[Bool.not_eq_true] at hnw;rw[hnw,AQ (by rfl)];simp only[hE,Zl];exact⟨0,rfl,λe=>absurd (show(2:Int)=0 from e) (by decide)⟩
theorem Ya {R V:Type}(K:V→Option R)(v:V):BP K (.go v)=K v:=rfl
theorem Xr {R V:Type}(K:V→Option R)(r:R):BP K (.ret r)=some r:=rfl
theorem UM {α R U:Type}[Inhabited α](l:List α)(P:α→Prop)(B:R→Prop)(u:U)(body:Int→Option (Stp Int (Out R U)))
  (h1:∀(x:Int) (c:α),0≤x→x<(l.length:Int)→c∈l→Ac l x=c→(body x=some (.next (x+1))∧P c)∨∃q,body x=some (.out (.ret q))∧B q)
  (h2:body (l.length:Int)=some (.out (.go u))) {F:Nat} (hF:l.length<F) :
  ∃o,BS body F 0=some o∧((∃q,o = .ret q∧B q)∨(o = .go u∧∀c∈l,P c)):=by
 refine H6 (λx=>0≤x∧x≤(l.length:Int)∧∀c∈l.take x.toNat,P c) (λx=>l.length-x.toNat) _ (λx ⟨h0,hl,ha⟩=>?_) F 0 ⟨ZF 0,by omega,by simp⟩ (by show l.length-0<F;omega)
 by_cases hx:x<(l.length:Int)
 ·obtain⟨c,hc⟩:∃c,l[x.toNat]? =some c:=⟨l[x.toNat]'(by omega),Zg (by omega)⟩
  have hat:Ac l x=c:=by simp[Ac,hc]
  rcases h1 x c h0 hx (Zk hc) hat with⟨hb,hp⟩ | ⟨q,hb,hq⟩
  ·refine .inl ⟨x+1,hb,⟨by omega,by omega,λd hd=>?_⟩,by omega⟩;rw[show(x+1).toNat=x.toNat+1 from by omega,List.take_add_one,hc] at hd;simp only[Option.toList_some,List.mem_append,ZU,List.not_mem_nil,or_false] at hd;rcases hd with hd | rfl
   ·exact ha d hd
   ·exact hp
  ·exact .inr ⟨.ret q,hb,.inl ⟨q,rfl,hq⟩⟩
 ·have e:x=(l.length:Int):=by omega
  subst e;refine .inr ⟨.go u,h2,.inr ⟨rfl,λc hc=>ha c ?_⟩⟩;rw[show((l.length:Int)).toNat=l.length from by omega,List.take_length];exact hc
theorem Xq:∀a b d e f g h i j:Bool,(B7 (some a) λha=>B0 ha (some true) (B0 d (B0 e (some true) (B7 (some b) λhb=>B0 hb (some true) (B0 f (some true) (B0 g (some true) (B0 h (some true) (B0 i (some true) (some j))))))) (B7 (some b) λhd=>B0 hd (some true) (B0 f (some true) (B0 g (some true) (B0 h (some true) (B0 i (some true) (some j))))))))=some (a||b||(d&&e)||f||g||h||i||j):=by decide
theorem Tw (c:Int):OJ c=some (Do c):=Xq (decide (97≤c)&&decide (c≤122)) (decide (48≤c)&&decide (c≤57)) (decide (65≤c)) (decide (c≤90)) (decide (c=45)) (decide (c=95)) (decide (c=46)) (decide (c=58)) (decide (c=47))
theorem LS:∀(s:AE) (k:Nat),Bs L3 k s=s.all λu=>Do u.toNat
 | [],k=>rfl
 | u::r,k=>by rw[Bs,LS r (k+1),List.all_cons];rfl
theorem Mt {F:Nat}(hF:64<F)(s:AE):DL F s=some (E0 s):=by
 unfold DL E0;rw[LS]
 by_cases hl:(s.length:Int)<1∨(64:Int)<(s.length:Int)
 ·rw[AQ (by simpa using hl)];have:(decide (1≤s.length)&&decide (s.length≤64))=false:=by
   simp only[ZE,YZ];omega
  rw[Bool.and_assoc,this,Zv]
 ·rw[AH (by simpa using hl)];have hb:(decide (1≤s.length)&&decide (s.length≤64))=true:=by
   simp only[Zd,Za];omega
  rw[Bool.and_assoc,hb,Zx];obtain⟨o,h1,h2⟩:=UM s (λu=>Do u.toNat=true) (λq=>q=false∧(s.all λu=>Do u.toNat)=false) () (λσ=>GP s σ) (λx c h0 hx hc hat=>by
   have hb:Cr s x=(c.toNat:Int):=by rw[← hat];rfl
   have e:GP s x=B0 (!Do c.toNat) (some (.out (.ret false))) (some (.next (x+1))):=by
    unfold GP;rw[AQ (Zc hx),Bu h0 hx,hb,Tw,AZ rfl,AU (by omega) (by omega)]
   cases hL:Do c.toNat with
   | true=>exact .inl ⟨by rw[hL] at e;exact e,rfl⟩
   | false=>exact .inr ⟨false,by rw[hL] at e;exact e,rfl,List.all_eq_false.2 ⟨c,hc,by simp[hL]⟩⟩) (by
   show GP s _=_;unfold GP;rw[AH (Ze (by omega))]) (F:=F) (by omega)
  rw[AZ h1];rcases h2 with⟨q,rfl,rfl,ha⟩ | ⟨rfl,h⟩
  ·rw[Xr,ha]
  ·rw[Ya,List.all_eq_true.2 h];rfl
def Iu (s:AE):Bool:=decide (s=[])||E0 s
theorem IU {F:Nat}(hF:64<F)(s:AE):BR F s=some (Iu s):=by
 unfold BR Iu;rw[Mt hF,Option.isSome_some,B1 (by unfold imp;simp),Ew]
def Kc (e:Ay):Bool:=E0 e.fID&&(E0 e.fTenant&&(E0 e.fSource&&(Iu e.fKey&&Iu e.fCause)))
def HF (e:Ay):Int:=bif !Kc e then 4 else bif decide (e.fAt<0)||decide (1073741824<e.fAt) then 2 else Vi e.fBody
theorem Qq {F:Nat}(hF:30000≤F){e:Ay}(h:DT e=true)(ho:WP e):Jf F e=some (HF e):=by
 unfold Jf HF;rw[S8 (MG h ho) (by decide) (by omega)];have key:((!(E0 e.fID))||((!(E0 e.fTenant))||((!(E0 e.fSource))||(bif !decide (e.fKey=([]:AE)) then((!(E0 e.fKey))||((!decide (e.fCause=([]:AE)))&&(!(E0 e.fCause)))) else((!decide (e.fCause=([]:AE)))&&(!(E0 e.fCause))))))) = !Kc e:=by
  unfold Kc Iu
  cases E0 e.fID<;>cases E0 e.fTenant<;>cases E0 e.fSource<;>cases decide (e.fKey=[])<;>cases E0 e.fKey<;>cases decide (e.fCause=[])<;>cases E0 e.fCause<;>rfl
 rw[key]
 cases Kc e with
 | false=>rfl
 | true=>
  rw[AH (p:=!true) rfl]
  cases(decide (e.fAt<0)||decide (1073741824<e.fAt))<;>rfl
theorem DH (a:Bool){b:Bool}(h:b=true):imp a b=true:=by subst h;exact Ro a
theorem PK {F:Nat}(hF:30000≤F){e:Ay}(h:DT e=true)(ho:WP e):IV F e=some (HF e):=by
 unfold IV HF;rw[Tc (MG h ho) (by decide) (by omega),IU (by omega),IU (by omega),Mt (by omega),Mt (by omega),Mt (by omega)];simp only[Option.isSome_some];rw[B1 rfl,B1 (DH _ rfl),B1 (DH _ (DH _ rfl)),B1 (DH _ (DH _ (DH _ rfl))),B1 (DH _ (DH _ (DH _ (DH _ rfl))))];have key:((!(ov (some (E0 e.fID))))||((!(ov (some (E0 e.fTenant))))||((!(ov (some (E0 e.fSource))))||((!(ov (some (Iu e.fKey))))||(!(ov (some (Iu e.fCause)))))))) = !Kc e:=by
  unfold Kc;rw[Ew,Ew,Ew,Ew,Ew]
  cases E0 e.fID<;>cases E0 e.fTenant<;>cases E0 e.fSource<;>cases Iu e.fKey<;>cases Iu e.fCause<;>rfl
 rw[key]
 cases Kc e with
 | false=>rfl
 | true=>
  rw[AH (p:=!true) rfl]
  cases(decide (e.fAt<0)||decide (1073741824<e.fAt))<;>rfl
theorem PB {F:Nat}(hF:300<F){q:An}{ps:List Ad}{idx:List Int}(h:QI q ps idx)(id:AE):ND F (BA q ps idx) id=some (Ez q id):=by
 have hc:=h.cnt;unfold ND CD;rw[AZ rfl,AH (p:=!(BA q ps idx).fMade) rfl];have hk:G8 F (BA q ps idx) id=some (Dh q.fWaiting id):=by
  unfold G8 Dh;rcases Lr hF h id with⟨hg,hf⟩ | ⟨k,hk,hg,_,hf⟩
  ·rw[hf,AZ rfl,hg];rfl
  ·rw[hf,AZ rfl,hg,Zc (by omega)];rfl
 obtain⟨o,h1,h2⟩:=H6 (body:=λσ=>G9 (BA q ps idx) id σ) (λx=>∃i:Nat,x=(i:Int)∧i≤q.fDead.length∧(q.fDead.any λe=>decide (e.fID=id))=((q.fDead.drop i).any λe=>decide (e.fID=id))) (λx=>q.fDead.length-x.toNat)
  (λo=>BP (λ_=>G8 F (BA q ps idx) id) o=some (Ez q id)) (λx ⟨i,hx,hi,ha⟩=>by
   subst hx
   by_cases hlt:i<q.fDead.length
   ·have hd:=List.drop_eq_getElem_cons hlt;have hbody:G9 (BA q ps idx) id (i:Int)=B0 (decide (q.fDead[i].fID=id)) (some (.out (.ret true))) (some (.next ((i:Int)+1))):=by
     unfold G9;show B0 (decide ((i:Int)<(q.fDead.length:Int))) (Bn (C6 (i:Int) (q.fDead.length:Int))<|B0 (decide ((Ac q.fDead (i:Int)).fID=id)) _ _) _=_;rw[AQ (Zc (by omega)),Bu (by omega) (by omega),Gg hlt,AU (by omega) (by omega)]
    cases hq:decide (q.fDead[i].fID=id) with
    | true=>
     refine .inr ⟨.ret true,by rw[hbody,hq];rfl,?_⟩;unfold Ez;rw[ha,hd,List.any_cons,hq,Z1,Z2];rfl
    | false=>
     refine .inl ⟨(i:Int)+1,by rw[hbody,hq];rfl,⟨i+1,by omega,by omega,?_⟩,by omega⟩;rw[ha,hd,List.any_cons,hq,Zn]
   ·obtain rfl:i=q.fDead.length:=by omega
    refine .inr ⟨.go (),by
     unfold G9;show B0 (decide ((q.fDead.length:Int)<(q.fDead.length:Int))) _ _=_;rw[AH (Ze (by omega))],?_⟩
    rw[List.drop_length] at ha;show G8 F (BA q ps idx) id=_;unfold Ez;rw[hk,ha];simp) F 0 ⟨0,rfl,by omega,by rw[List.drop_zero]⟩ (by show q.fDead.length-0<F;omega)
 rw[AZ h1,h2]
theorem SV {q:An}{ps:List Ad}{idx:List Int}(h:QI q ps idx):MP (BA q ps idx)=some q.fDead:=by
 have hc:=h.cnt;unfold MP CD;rw[AZ rfl,AH (p:=!(BA q ps idx).fMade) rfl,La (by show([]:List Ay).length+q.fDead.length≤1000000;rw[ZM];omega),ZV];rfl
theorem TW {F:Nat}(hF:300<F){q:An}{ps:List Ad}{idx:List Int}(h:QI q ps idx):Pz F q ps=some q.fDead:=by
 have hc:=h.cnt;have key:∀(d n j:Nat),j+d=q.fDead.length→d<n→BS (λσ=>E3 q σ.1 σ.2) n (q.fDead.take j,(j:Int))=some (.go q.fDead):=by
  intro d
  induction d with
  | zero=>
   intro n j hj hn;obtain⟨n,rfl⟩:∃k,n=k+1:=⟨n-1,by omega⟩
   have hb:E3 q (q.fDead.take j) (j:Int)=some (.out (.go (q.fDead.take j))):=by unfold E3;rw[AH (Ze (by omega))]
   rw[BS];simp only[hb];rw[List.take_of_length_le (by omega)]
  | succ d ih=>
   intro n j hj hn;obtain⟨n,rfl⟩:∃k,n=k+1:=⟨n-1,by omega⟩
   have hlt:j<q.fDead.length:=by omega
   have hs:=h.smd _ (List.getElem_mem hlt);have hb:E3 q (q.fDead.take j) (j:Int)=some (.next (q.fDead.take (j+1),((j+1:Nat):Int))):=by
    unfold E3;rw[AQ (Zc (by omega)),Bu (by omega) (by omega),Gg hlt,Or hs.2.1,AZ rfl,La (by simp;omega),AU (by omega) (by omega),List.take_succ_eq_append_getElem hlt];rfl
   rw[BS];simp only[hb];exact ih n (j+1) (by omega) (by omega)
 have h1:=key q.fDead.length F 0 (by omega) (by omega);unfold Pz;have h1':BS (λσ=>E3 q σ.1 σ.2) F (([]:List Ay),0)=some (.go q.fDead):=h1;rw[h1',AZ rfl,CK];rfl
theorem Lo {F:Nat}(hF:1000<F){l:List Ay}(hl:l.length≤500)(hs:∀e∈l,e.fBody.length≤300):G6 F l l=some true:=by
 unfold G6;have h1:BS (λσ=>Db F l l σ) F 0=some (.go ()):=by
  refine HZ (m:=l.length) (by omega) (λi hi=>?_) ?_
  ·unfold Db;have:=hs _ (List.getElem_mem hi);rw[AQ (Zc (by omega)),Bu (by omega) (by omega),Bu (by omega) (by omega),Gg hi,KE (by omega) (by omega),AZ rfl,AH (by rfl),AU (by omega) (by omega)]
  ·unfold Db;rw[AH (Ze (by omega))]
 rw[AH (by simp),h1,AZ rfl,CK];rfl
theorem G7 {F:Nat}(hF:1000<F){l:List AB}(hl:l.length≤500)(hs:∀e∈l,e.fEvent.fBody.length≤300):Dm F l l=some true:=by
 unfold Dm;have h1:BS (λσ=>Cq F l l σ) F 0=some (.go ()):=by
  refine HZ (m:=l.length) (by omega) (λi hi=>?_) ?_
  ·unfold Cq;have:=hs _ (List.getElem_mem hi);rw[AQ (Zc (by omega)),Bu (by omega) (by omega),Bu (by omega) (by omega),Gg hi,KE (by omega) (by omega),Option.isSome_some,B1 (by simp[imp]),Ew,AH (by simp),AU (by omega) (by omega)]
  ·unfold Cq;rw[AH (Ze (by omega))]
 rw[AH (by simp),h1,AZ rfl,CK];rfl
theorem PG {F:Nat}(hF:300<F){q:An}{ps:List Ad}{idx:List Int}(h:QI q ps idx)(now:Int) :
  IS F (BA q ps idx) now=some (if q.fNow≤now∧now≤1073741824 then(((idx.filter (DX ps now)).length:Int)-((idx.filter (Dd q ps now)).length:Int),(idx.length:Int)-((idx.filter (DX ps now)).length:Int),(q.fDead.length:Int)+((idx.filter (Dd q ps now)).length:Int)) else(0,0,0)):=by
 have hc:=h.cnt;unfold IS CD;rw[AZ rfl,AH (p:=!(BA q ps idx).fMade) rfl];unfold Ef
 by_cases h1:now<q.fNow
 ·rw[AQ (Zc (show now<(BA q ps idx).fNow from h1)),AQ rfl,Zu (by omega)]
 ·rw[AH (Ze (show ¬ now<(BA q ps idx).fNow from h1))]
  by_cases h2:1073741824<now
  ·rw[AQ (Zc h2),Zu (by omega)]
  ·rw[AH (Ze h2),Z4 (by omega)];have key:∀(d n j:Nat),j+d=idx.length→d<n→∀(a b c:Int),0≤a∧a≤j→0≤b∧b≤j→0≤c∧c≤256+j→a=(((idx.take j).filter (DX ps now)).length:Int)-(((idx.take j).filter (Dd q ps now)).length:Int)→b=(j:Int)-(((idx.take j).filter (DX ps now)).length:Int)→c=(q.fDead.length:Int)+(((idx.take j).filter (Dd q ps now)).length:Int)→
     BS (λσ=>CT (BA q ps idx) now σ.1 σ.2.1 σ.2.2.1 σ.2.2.2) n (a,b,c,(j:Int))=some (.go (((idx.filter (DX ps now)).length:Int)-((idx.filter (Dd q ps now)).length:Int),(idx.length:Int)-((idx.filter (DX ps now)).length:Int),(q.fDead.length:Int)+((idx.filter (Dd q ps now)).length:Int))):=by
    intro d
    induction d with
    | zero=>
     intro n j hj hn a b c _ _ _ ea eb ec;obtain⟨n,rfl⟩:∃k,n=k+1:=⟨n-1,by omega⟩
     have hb:CT (BA q ps idx) now a b c (j:Int)=some (.out (.go (a,b,c))):=by
      unfold CT;rw[AH (Ze (by show ¬ (j:Int)<((Cp ps idx).length:Int);rw[DI];omega))]
     rw[BS];simp only[hb];rw[List.take_of_length_le (by omega)] at ea eb ec;rw[ea,eb,ec,show(j:Int)=(idx.length:Int) from by omega]
    | succ d ih=>
     intro n j hj hn a b c ha hb0 hc0 ea eb ec;obtain⟨n,rfl⟩:∃k,n=k+1:=⟨n-1,by omega⟩
     have hlt:j<idx.length:=by omega
     have htk:idx.take (j+1)=idx.take j++[idx[j]]:=List.take_succ_eq_append_getElem hlt;have hat:Ac (BA q ps idx).fWaiting (j:Int)=Ii (Ac ps idx[j]):=Hv hlt;have hwl:(BA q ps idx).fWaiting.length=idx.length:=DI ps idx;have hbody:CT (BA q ps idx) now a b c (j:Int)=some (.next ((bif DX ps now idx[j] then(bif Dd q ps now idx[j] then a else a+1) else a),(bif DX ps now idx[j] then b else b+1),(bif Dd q ps now idx[j] then c+1 else c),((j+1:Nat):Int))):=by
      unfold CT;rw[hwl,hat,AQ (Zc (by omega)),Bu (by omega) (by omega),Jd (by omega) (by omega),Jd (by omega) (by omega),Jd (by omega) (by omega),B1 (DH _ rfl),B1 (DH _ (DH _ rfl)),B1 (DH _ (DH _ rfl)),AU (by omega) (by omega)];have e1:decide (now<(Ii (Ac ps idx[j])).fVisible) = !DX ps now idx[j]:=by
       unfold DX;rw[Z7,Zq,YZ,Za];show now<(Ac ps idx[j]).fAt↔_;omega
      have e2:Dd q ps now idx[j]=(DX ps now idx[j]&&decide ((BA q ps idx).fPolicy.fReceives≤(Ii (Ac ps idx[j])).fCount)):=rfl;rw[e1,e2]
      cases DX ps now idx[j]<;>cases decide ((BA q ps idx).fPolicy.fReceives≤(Ii (Ac ps idx[j])).fCount)<;>rfl
     rw[BS];simp only[hbody];have e3:Dd q ps now idx[j]=true→DX ps now idx[j]=true:=λe=>by
      unfold Dd at e;unfold DX;rw[Zd] at e;exact e.1
     refine ih n (j+1) (by omega) (by omega) _ _ _ ?_ ?_ ?_ ?_ ?_ ?_
     ·cases DX ps now idx[j]<;>cases Dd q ps now idx[j]<;>simp only[Zl,Zh]<;>omega
     ·cases DX ps now idx[j]<;>simp only[Zl,Zh]<;>omega
     ·cases Dd q ps now idx[j]<;>simp only[Zl,Zh]<;>omega
     ·rw[htk,List.filter_append,List.filter_append,Zs,Zs,ea]
      cases h3:DX ps now idx[j]<;>cases h4:Dd q ps now idx[j]<;>simp[h3,h4]<;>first | omega | (rw[e3 h4] at h3;cases h3)
     ·rw[htk,List.filter_append,Zs,eb]
      cases h3:DX ps now idx[j]<;>simp[h3]<;>omega
     ·rw[htk,List.filter_append,Zs,ec]
      cases h4:Dd q ps now idx[j]<;>simp[h4]<;>omega
   have h3:=key idx.length F 0 (by omega) (by omega) 0 0 (q.fDead.length:Int) (by omega) (by omega) (by omega) (by simp) (by simp) (by simp);have h3':BS (λσ=>CT (BA q ps idx) now σ.1 σ.2.1 σ.2.2.1 σ.2.2.2) F (0,0,((BA q ps idx).fDead.length:Int),0)=_:=h3;rw[h3',AZ rfl,CK];rfl
theorem PE {F:Nat}(hF:300<F){q:An}{ps:List Ad}{idx:List Int}(h:QI q ps idx){s:AE}(hs:s.length≤300)(now:Int) :
  IR F (BA q ps idx) s now=some ((CY q ps idx s now 0).2,if (CY q ps idx s now 0).2=0 then BA (Yz (G0 q ps idx now 0) ps (CY q ps idx s now 0).1) ps (XP (Dx q ps idx now 0) (CY q ps idx s now 0).1) else BA (G0 q ps idx now 0) ps (Dx q ps idx now 0)):=by
 unfold IR CD;obtain⟨pos,h1,h2⟩:=JU h hs hF now 0;have hq:=Li h now 0;have hc:=hq.cnt;rw[AZ rfl,AH (p:=!(BA q ps idx).fMade) rfl,h1,AZ rfl];simp only
 by_cases he:(CY q ps idx s now 0).2=0
 ·obtain⟨k,hk,rfl,h3⟩:=h2 he;rw[AQ (Zc he),Z4 he,LI (ps:=ps) (idx:=Dx q ps idx now 0) rfl (by omega) hq.nodup hk,AZ rfl,h3];rfl
 ·rw[AH (Ze he),Zu he]
theorem WH {ws:List Aq}{k:Nat}(hk:k<ws.length)(y:Aq):Ac (ws.set k y) (k:Int)=y:=by simp[Ac,hk]
theorem P8 {F:Nat}(hF:300<F){q:An}{ps:List Ad}{idx:List Int}(h:QI q ps idx){s:AE}(hs:s.length≤300)(now d:Int) :
  IP F (BA q ps idx) s now d=some ((CY q ps idx s now d).2,BA (G0 q ps idx now d) (if (CY q ps idx s now d).2=0 then ps.set (CY q ps idx s now d).1.toNat (VV (Ac ps (CY q ps idx s now d).1) (now+d)) else ps) (Dx q ps idx now d)):=by
 unfold IP CD;obtain⟨pos,h1,h2⟩:=JU h hs hF now d;have hq:=Li h now d;have hc:=hq.cnt;rw[AZ rfl,AH (p:=!(BA q ps idx).fMade) rfl,h1,AZ rfl];simp only
 by_cases he:(CY q ps idx s now d).2=0
 ·obtain⟨k,hk,rfl,h3⟩:=h2 he;obtain⟨ht,ha,_,_,_⟩:=IH h he;have hn:=CO ha;have hlw:(BA (G0 q ps idx now d) ps (Dx q ps idx now d)).fWaiting.length=(Dx q ps idx now d).length:=DI _ _;have hat:Ac (BA (G0 q ps idx now d) ps (Dx q ps idx now d)).fWaiting (k:Int)=Ii (Ac ps (Dx q ps idx now d)[k]):=Hv hk;rw[AQ (Zc he),Z4 he,hlw,Bu (by omega) (by omega)];refine OU ?_;rw[AU (by omega) (by omega),ZP,hlw,Bu (by omega) (by omega)];refine OU ?_;have hkn:Int.toNat (k:Int)=k:=by omega
  rw[hkn,WH (by omega),List.set_set,hat,← h3];have hws:Cp (ps.set ((Dx q ps idx now d)[k]).toNat (VV (Ac ps (Dx q ps idx now d)[k]) (now+d))) (Dx q ps idx now d)=(Cp ps (Dx q ps idx now d)).set k (Ii (VV (Ac ps (Dx q ps idx now d)[k]) (now+d))):=M5 hq.nodup hq.inr hk _;unfold BA;rw[hws];rfl
 ·rw[AH (Ze he),Zu he]
theorem PD {F:Nat}(hF:300<F){q:An}{ps:List Ad}{idx:List Int}(h:QI q ps idx){s:AE}(hs:s.length≤300)(now d:Int) :
  IQ F (BA q ps idx) s now d=some ((CY q ps idx s now d).2,BA (G0 q ps idx now d) (if (CY q ps idx s now d).2=0 then ps.set (CY q ps idx s now d).1.toNat (Wz (Ac ps (CY q ps idx s now d).1) (now+d)) else ps) (Dx q ps idx now d)):=by
 unfold IQ CD;obtain⟨pos,h1,h2⟩:=JU h hs hF now d;have hq:=Li h now d;have hc:=hq.cnt;rw[AZ rfl,AH (p:=!(BA q ps idx).fMade) rfl,h1,AZ rfl];simp only
 by_cases he:(CY q ps idx s now d).2=0
 ·obtain⟨k,hk,rfl,h3⟩:=h2 he;obtain⟨ht,ha,_,_,_⟩:=IH h he;have hn:=CO ha;have hlw:(BA (G0 q ps idx now d) ps (Dx q ps idx now d)).fWaiting.length=(Dx q ps idx now d).length:=DI _ _;have hat:Ac (BA (G0 q ps idx now d) ps (Dx q ps idx now d)).fWaiting (k:Int)=Ii (Ac ps (Dx q ps idx now d)[k]):=Hv hk;rw[AQ (Zc he),Z4 he,AU (by omega) (by omega),hlw,Bu (by omega) (by omega)];refine OU ?_;have hkn:Int.toNat (k:Int)=k:=by omega
  rw[hkn,hat,← h3];have hws:Cp (ps.set ((Dx q ps idx now d)[k]).toNat (Wz (Ac ps (Dx q ps idx now d)[k]) (now+d))) (Dx q ps idx now d)=(Cp ps (Dx q ps idx now d)).set k (Ii (Wz (Ac ps (Dx q ps idx now d)[k]) (now+d))):=M5 hq.nodup hq.inr hk _;unfold BA;rw[hws];rfl
 ·rw[AH (Ze he),Zu he]
def XZ (t:Int):List Ay→An→List Ad→List Int→An×List Ad×List Int
 | [],q,ps,idx=>(q,ps,idx)
 | e::D,q,ps,idx=>XZ t D (Qx q ps D e) (ps++[Jh e t q.fArrived]) (idx++[(ps.length:Int)])
theorem SN {r1:Int×An×List Ad}{now:Int}(hnow:0≤now∧now≤1073741824)(hdl:r1.2.1.fDead.length≤256):∀(d n j m:Nat) (q:An) (ps:List Ad) (idx:List Int),j+d=r1.2.1.fDead.length→d<n→q.fDead=r1.2.1.fDead.drop j→QI q ps idx→QB m q ps→m+d≤1000000→
  ∃q' ps' idx',XZ now (r1.2.1.fDead.drop j) q ps idx=(q',ps',idx')∧BS (λσ=>CQ now r1 σ.1 σ.2.1 σ.2.2.1 σ.2.2.2.1 σ.2.2.2.2.1 σ.2.2.2.2.2.1 σ.2.2.2.2.2.2) n ((j:Int),q.fPolicy.fVisible,q.fPolicy.fReceives,q.fNow,q.fArrived,q.fWaiting,ps)=some (.go (q'.fPolicy.fVisible,q'.fPolicy.fReceives,q'.fNow,q'.fArrived,q'.fWaiting,ps'))∧QI q' ps' idx'∧QB (m+d) q' ps'∧q'.fDead=[]∧q'.fPolicy=q.fPolicy∧q'.fNow=q.fNow∧
   Cp ps' idx'=Cp ps idx++(r1.2.1.fDead.drop j).map λe=>⟨e,now,0,false⟩:=by
 intro d
 induction d with
 | zero=>
  intro n j m q ps idx h hn hd hq hb hm;obtain⟨n,rfl⟩:∃m,n=m+1:=⟨n-1,by omega⟩
  have hb1:CQ now r1 (j:Int) q.fPolicy.fVisible q.fPolicy.fReceives q.fNow q.fArrived q.fWaiting ps=some (.out (.go (q.fPolicy.fVisible,q.fPolicy.fReceives,q.fNow,q.fArrived,q.fWaiting,ps))):=by unfold CQ;rw[AH (Ze (by omega))]
  have hdr:r1.2.1.fDead.drop j=[]:=List.drop_of_length_le (by omega);rw[hdr] at hd ⊢;exact⟨q,ps,idx,rfl,by rw[BS];simp only[hb1],hq,hb,hd,rfl,rfl,by simp⟩
 | succ d ih=>
  intro n j m q ps idx h hn hd hq hb hm;obtain⟨n,rfl⟩:∃m,n=m+1:=⟨n-1,by omega⟩
  have hj:j<r1.2.1.fDead.length:=by omega
  have hdc:=List.drop_eq_getElem_cons hj;have hb':QB m ⟨⟨q.fPolicy.fVisible,q.fPolicy.fReceives⟩,q.fWaiting,r1.2.1.fDead,q.fNow,q.fArrived⟩ ps:=hb;have hb1:CQ now r1 (j:Int) q.fPolicy.fVisible q.fPolicy.fReceives q.fNow q.fArrived q.fWaiting ps=some (.next (((j+1:Nat):Int),q.fPolicy.fVisible,q.fPolicy.fReceives,q.fNow,q.fArrived+1,mset q.fWaiting (r1.2.1.fDead[j]).fID (ps.length:Int),ps++[Jh r1.2.1.fDead[j] now q.fArrived])):=by
   unfold CQ;rw[AQ (Zc (by omega)),Bu (by omega) (by omega),Gg hj,R6 hb' (by omega),AZ rfl,AU (by omega) (by omega)];rfl
  have hids:=hq.ids;have hcnt:=hq.cnt;have hsd:=hq.smd;rw[hd,hdc] at hids hcnt hsd;have hq':QI (Qx q ps (r1.2.1.fDead.drop (j+1)) r1.2.1.fDead[j]) (ps++[Jh r1.2.1.fDead[j] now q.fArrived]) (idx++[(ps.length:Int)]):=Vv hq (hsd _ (List.mem_cons_self ..)) ⟨by omega,by omega⟩ (List.perm_middle.nodup hids) (λx hx=>hsd x (List.mem_cons_of_mem _ hx)) (by simp only[Zj] at hcnt;omega);obtain⟨q',ps',idx',h0,h1,h2,h3,h4,h5,h6,h7⟩:=ih n (j+1) (m+1) _ _ _ (by omega) (by omega) rfl hq' ⟨by show 0≤q.fArrived+1;have:=hb.1;omega,by show q.fArrived+1≤((m+1:Nat):Int);have:=hb.2.1;omega,by simp;exact hb.2.2⟩ (by omega);refine⟨q',ps',idx',by rw[hdc];exact h0,?_,h2,by rw[show m+(d+1)=m+1+d from by omega];exact h3,h4,h5,h6,?_⟩
  ·rw[BS];simp only[hb1];exact h1
  ·rw[h7,hdc,ZK];have hws:Cp (ps++[Jh r1.2.1.fDead[j] now q.fArrived]) (idx++[(ps.length:Int)])=Cp ps idx++[⟨r1.2.1.fDead[j],now,0,false⟩]:=by
    unfold Cp;rw[ZO,ZK,List.map_nil,Lc]
    congr 1
    exact List.map_congr_left λi hi=>by rw[Nn (hq.inr i hi)]
   rw[hws,Z5];rfl
theorem Um {F n:Nat}(hF:300<F){q:An}{ps:List Ad}{idx:List Int}(h:QI q ps idx)(hb:QB n q ps)(hn:n+256≤1000000)(now:Int) :
  ∃k q' ps' idx',II F q ps now=some (k,q',ps')∧HO F (BA q ps idx) now=some (k,BA q' ps' idx')∧QI q' ps' idx'∧QB (n+256) q' ps'∧q'.fPolicy=q.fPolicy:=by
 unfold II HO CD;rw[Im hF h,AZ rfl,AZ rfl,AH (p:=!(BA q ps idx).fMade) rfl,H4 hF h,AZ rfl];have hbn:QB (n+256) q ps:=⟨hb.1,by have:=hb.2.1;omega,by have:=hb.2.2;omega⟩
 unfold Ep
 by_cases ha:DZ q now=0
 ·have hnw:=CO ha;have hq:=Gh h ⟨hnw.1,hnw.2.1⟩;simp only[ha,decide_true,Zi,ZG];have hc:=hq.cnt;obtain⟨q',ps',idx',h0,h1,h2,h3,h4,h5,h6,h7⟩:=SN (r1:=(0,BX q ps idx now,ps)) (now:=now) ⟨hnw.1,hnw.2.1⟩ (by show(BX q ps idx now).fDead.length≤256;omega) (BX q ps idx now).fDead.length F 0 n (BX q ps idx now) ps (Cf q ps idx now) (by simp) (by omega) rfl hq hb (by omega);have h1':BS (λσ=>CQ now (0,BX q ps idx now,ps) σ.1 σ.2.1 σ.2.2.1 σ.2.2.2.1 σ.2.2.2.2.1 σ.2.2.2.2.2.1 σ.2.2.2.2.2.2) F (0,(BX q ps idx now).fPolicy.fVisible,(BX q ps idx now).fPolicy.fReceives,(BX q ps idx now).fNow,(BX q ps idx now).fArrived,(BX q ps idx now).fWaiting,ps)=some (.go (q'.fPolicy.fVisible,q'.fPolicy.fReceives,q'.fNow,q'.fArrived,q'.fWaiting,ps')):=h1;rw[AH rfl,h1',AZ rfl,CK];have e:(⟨⟨q'.fPolicy.fVisible,q'.fPolicy.fReceives⟩,q'.fWaiting,[],q'.fNow,q'.fArrived⟩:An)=q':=by
   cases q';simp only at h4;subst h4;rfl
  have key:∀(d m j:Nat) (W:List Aq),j+d=(BX q ps idx now).fDead.length→d<m→W.length+d≤100000→BS (λσ=>C5 now (BX q ps idx now).fDead σ.1 σ.2) m ((j:Int),W)=some (.go (W++((BX q ps idx now).fDead.drop j).map λe=>⟨e,now,0,false⟩)):=by
   intro d
   induction d with
   | zero=>
    intro m j W hj hm hW;obtain⟨m,rfl⟩:∃k,m=k+1:=⟨m-1,by omega⟩
    have hb1:C5 now (BX q ps idx now).fDead (j:Int) W=some (.out (.go W)):=by unfold C5;rw[AH (Ze (by omega))]
    rw[BS];simp only[hb1];rw[List.drop_of_length_le (by omega)];simp
   | succ d ih=>
    intro m j W hj hm hW;obtain⟨m,rfl⟩:∃k,m=k+1:=⟨m-1,by omega⟩
    have hlt:j<(BX q ps idx now).fDead.length:=by omega
    have hb1:C5 now (BX q ps idx now).fDead (j:Int) W=some (.next (((j+1:Nat):Int),W++[⟨(BX q ps idx now).fDead[j],now,0,false⟩])):=by
     unfold C5;rw[AQ (Zc (by omega)),Bu (by omega) (by omega),Gg hlt,KZ (by simp;omega),AU (by omega) (by omega)];rfl
    rw[BS];simp only[hb1];rw[ih m (j+1) _ (by omega) (by omega) (by simp;omega),List.drop_eq_getElem_cons hlt,ZK,Z5];rfl
  have k1:=key (BX q ps idx now).fDead.length F 0 (Cp ps (Cf q ps idx now)) (by omega) (by omega) (by rw[DI];omega);have k1':BS (λσ=>C5 now (BA (BX q ps idx now) ps (Cf q ps idx now)).fDead σ.1 σ.2) F (0,(BA (BX q ps idx now) ps (Cf q ps idx now)).fWaiting)=_:=k1;refine⟨((BX q ps idx now).fDead.length:Int),q',ps',idx',?_,?_,h2,⟨h3.1,by have:=h3.2.1;omega,by have:=h3.2.2;omega⟩,h5⟩
  ·unfold G1;simp only;rw[e]
  ·rw[AH rfl,k1',AZ rfl,CK];unfold Ga BA;rw[h7,h4,h5,h6]
   first | done | rfl
 ·simp only[ha,decide_false,Zp,Z8];rw[AQ rfl,AQ rfl];exact⟨0,q,ps,idx,rfl,rfl,h,hbn,rfl⟩
theorem Sk {q:An}{ps:List Ad}{idx:List Int}(h:QI q ps idx){now:Int}(ha:DZ q now=0)(id:AE):Ez (BX q ps idx now) id=Ez q id:=by
 have hn:=CO ha;have hq:=Gh h ⟨hn.1,hn.2.1⟩;have hpm:=L8 q ps idx now;rw[Z7,Ix hq,Ix h];show id∈(Cf q ps idx now).map (λi=>(Ac ps i).fEvent.fID)++(q.fDead++(Np q ps idx now).map (EQ ps)).map (·.fID)↔_;simp only[ZO,ZY,List.mem_append,List.mem_map,Function.comp];constructor
 ·rintro(⟨i,hi,e⟩ | h1 | ⟨i,hi,e⟩)
  ·exact .inl ⟨i,(List.mem_filter.1 hi).1,e⟩
  ·exact .inr h1
  ·exact .inl ⟨i,(List.mem_filter.1 (hpm.subset hi)).1,e⟩
 ·rintro(⟨i,hi,e⟩ | h1)
  ·cases ho:Dd q ps now i with
   | true=>exact .inr (.inr ⟨i,hpm.symm.subset (List.mem_filter.2 ⟨hi,ho⟩),e⟩)
   | false=>exact .inl ⟨i,List.mem_filter.2 ⟨hi,by rw[ho];rfl⟩,e⟩
  ·exact .inr (.inl h1)
theorem EW {q:An}{ps:List Ad}{idx:List Int}(h:QI q ps idx)(now t:Int)(id:AE):Ez (G0 q ps idx now t) id=Ez q id:=by
 unfold G0
 split
 ·rename_i h1;exact Sk h h1.2 id
 ·rfl
theorem Jm {q:An}{ps:List Ad}{idx:List Int}{now t:Int}{i:Int}(hi:i∈Dx q ps idx now t):i∈idx:=by
 unfold Dx at hi
 split at hi
 ·exact(List.mem_filter.1 hi).1
 ·exact hi
theorem Xp {q:An}{ps:List Ad}{idx:List Int}(h:QI q ps idx){i:Int}(hi:i∈idx){id:AE}(hh:Ez (Yz q ps i) id=true):Ez q id=true:=by
 rw[Ix (WT h hi)] at hh;rw[Ix h];rcases List.mem_append.1 hh with h1 | h1
 ·obtain⟨j,hj,e⟩:=List.mem_map.1 h1;exact List.mem_append_left _ (List.mem_map.2 ⟨j,(List.mem_filter.1 hj).1,e⟩)
 ·exact List.mem_append_right _ h1
theorem WM {q:An}{ps:List Ad}{idx:List Int}(h:QI q ps idx){e:Ay}{t:Int}(h':QI (Qx q ps q.fDead e) (ps++[Jh e t q.fArrived]) (idx++[(ps.length:Int)]))(id:AE):Ez (Qx q ps q.fDead e) id=(Ez q id||decide (e.fID=id)):=by
 rw[Z7,Zz,Ix h',Ix h,Za];have hids:(idx++[(ps.length:Int)]).map (λi=>(Ac (ps++[Jh e t q.fArrived]) i).fEvent.fID)=idx.map (λi=>(Ac ps i).fEvent.fID)++[e.fID]:=by
  rw[ZO,ZK,List.map_nil,Lc]
  congr 1
  exact List.map_congr_left λi hi=>by rw[Nn (h.inr i hi)]
 rw[hids];show id∈_++q.fDead.map (·.fID)↔_;simp only[List.mem_append,ZC];constructor
 ·rintro((h1 | h1) | h1)
  ·exact .inl (.inl h1)
  ·exact .inr h1.symm
  ·exact .inl (.inr h1)
 ·rintro((h1 | h1) | h1)
  ·exact .inl (.inl h1)
  ·exact .inr h1
  ·exact .inl (.inr h1.symm)
def SJ (q:An)(ps:List Ad)(idx:List Int)(e:Ay)(now d x:Int):List Int:=
 if QO d=true then if DZ q now=0 then
  if x=0 then if Ez (BX q ps idx now) e.fID=true then Cf q ps idx now else if KT (BX q ps idx now)=true then Cf q ps idx now else Cf q ps idx now++[(ps.length:Int)]
  else Cf q ps idx now else idx else idx
theorem SI {q:An}{ps:List Ad}{idx:List Int}(h:QI q ps idx){e:Ay}(hs:DT e=true)(now d x:Int)(hid:x=0→E0 e.fID=true){n:Nat}(hb:QB n q ps) :
  QI (HL q ps idx e now d x).2.1 (HL q ps idx e now d x).2.2 (SJ q ps idx e now d x)∧QB (n+256) (HL q ps idx e now d x).2.1 (HL q ps idx e now d x).2.2∧(HL q ps idx e now d x).2.1.fPolicy=q.fPolicy∧
   (((HL q ps idx e now d x).1=0∧Ez q e.fID=false∧(∀id,Ez (HL q ps idx e now d x).2.1 id=(Ez q id||decide (e.fID=id)))∧∀i∈SJ q ps idx e now d x,((EQ (HL q ps idx e now d x).2.2 i).fID=e.fID∧(Ac (HL q ps idx e now d x).2.2 i).fReceives=0)∨(i∈idx∧Ac (HL q ps idx e now d x).2.2 i=Ac ps i))∨
    ((HL q ps idx e now d x).1≠0∧(∀id,Ez (HL q ps idx e now d x).2.1 id=Ez q id)∧∀i∈SJ q ps idx e now d x,i∈idx∧Ac (HL q ps idx e now d x).2.2 i=Ac ps i)):=by
 obtain⟨b1,b2,b3⟩:=hb;have hb':QB (n+256) q ps:=⟨b1,by omega,by omega⟩
 unfold HL SJ
 by_cases ht:QO d=true
 ·rw[Z4 ht,Z4 ht]
  by_cases ha:DZ q now=0
  ·rw[Z4 ha,Z4 ha];have hnw:=CO ha;have hq:=Gh h ⟨hnw.1,hnw.2.1⟩;have hqb:QB (n+256) (BX q ps idx now) ps:=hb';have hsub:∀i∈Cf q ps idx now,i∈idx∧Ac ps i=Ac ps i:=λi hi=>⟨(List.mem_filter.1 hi).1,rfl⟩
   have hhas:=Sk h ha
   by_cases hx0:x=0
   ·rw[Z4 hx0,Z4 hx0]
    by_cases hh:Ez (BX q ps idx now) e.fID=true
    ·rw[Z4 hh,Z4 hh];exact⟨hq,hqb,rfl,.inr ⟨by simp,hhas,hsub⟩⟩
    ·rw[Zu hh,Zu hh]
     by_cases hf:KT (BX q ps idx now)=true
     ·rw[Z4 hf,Z4 hf];exact⟨hq,hqb,rfl,.inr ⟨by simp,hhas,hsub⟩⟩
     ·rw[Zu hf,Zu hf];have htd:0≤d∧d≤1073741824:=ZQ ht;have hnot:e.fID ∉ (Cf q ps idx now).map (λi=>(Ac ps i).fEvent.fID)++(BX q ps idx now).fDead.map (·.fID):=λhm=>hh ((Ix hq e.fID).2 hm);have hfu : ¬ 256≤(BX q ps idx now).fWaiting.length+(BX q ps idx now).fDead.length:=by
       rw[Bool.not_eq_true] at hf;exact of_decide_eq_false hf
      have hw:=hq.wlen;have hnew:QI (Qx (BX q ps idx now) ps (BX q ps idx now).fDead e) (ps++[Jh e (now+d) q.fArrived]) (Cf q ps idx now++[(ps.length:Int)]):=Vv hq (t:=now+d) ⟨(Hy hs).1,(Hy hs).2,hid hx0⟩ ⟨by omega,by omega⟩ (List.nodup_cons.2 ⟨hnot,hq.ids⟩) hq.smd (by omega);refine⟨hnew,⟨?_,?_,?_⟩,rfl,.inl ⟨rfl,?_,λid=>?_,λi hi=>?_⟩⟩
      ·show 0≤q.fArrived+1;omega
      ·show q.fArrived+1≤((n+256:Nat):Int);omega
      ·simp;omega
      ·rw[← hhas];simpa using hh
      ·have:=WM hq hnew id;rw[hhas] at this;exact this
      ·rcases List.mem_append.1 hi with h1 | h1
       ·exact .inr ⟨(List.mem_filter.1 h1).1,Nn (hq.inr i h1)⟩
       ·rw[List.mem_singleton.1 h1]
        left
        show(Ac (ps++[Jh e (now+d) q.fArrived]) (ps.length:Int)).fEvent.fID=e.fID∧(Ac (ps++[Jh e (now+d) q.fArrived]) (ps.length:Int)).fReceives=0;rw[Lc];exact⟨rfl,rfl⟩
   ·rw[Zu hx0,Zu hx0];exact⟨hq,hqb,rfl,.inr ⟨hx0,hhas,hsub⟩⟩
  ·rw[Zu ha,Zu ha];exact⟨h,hb',rfl,.inr ⟨ha,λ_=>rfl,λi hi=>⟨hi,rfl⟩⟩⟩
 ·rw[Zu ht,Zu ht];exact⟨h,hb',rfl,.inr ⟨by simp,λ_=>rfl,λi hi=>⟨hi,rfl⟩⟩⟩
theorem ST {F n:Nat}(hF:30000≤F){q:An}{ps:List Ad}{idx:List Int}(h:QI q ps idx){e:Ay}(hs:DT e=true)(ho:WP e)(now d:Int) :
  MM F (BA q ps idx) e now d=some ((HL q ps idx e now d (HF e)).1,BA (HL q ps idx e now d (HF e)).2.1 (HL q ps idx e now d (HF e)).2.2 (SJ q ps idx e now d (HF e))):=by
 have hnow:=h.now;unfold MM CD;rw[AZ rfl,AH (p:=!(BA q ps idx).fMade) rfl,K8,K8,Option.isSome_some,Option.isSome_some,B1 rfl,B1 (by unfold imp;simp),Ew,Ew];unfold HL SJ
 cases ht:QO d with
 | false=>
  rw[AQ (by simp),Zu (by simp),Zu (by simp)]
 | true=>
  rw[Z4 rfl,Z4 rfl]
  by_cases hnw:QO now=true
  ·rw[hnw,AH (by rfl),H4 (by omega) h,AZ rfl];simp only
   by_cases ha:DZ q now=0
   ·rw[Z4 ha,Z4 ha,Z4 ha,AH (by simp[ha])];have hn:=CO ha;have hq:=Gh h ⟨hn.1,hn.2.1⟩;have hc:=hq.cnt;rw[PK hF hs ho,AZ rfl]
    by_cases hx:HF e=0
    ·rw[Z4 hx,Z4 hx,AH (by simp[hx]),PB (by omega) hq,AZ rfl]
     by_cases hh:Ez (BX q ps idx now) e.fID=true
     ·rw[Z4 hh,Z4 hh,AQ hh]
     ·rw[Zu hh,Zu hh,AH (by simpa using hh)];have hwl:(BA (BX q ps idx now) ps (Cf q ps idx now)).fWaiting.length=(Cf q ps idx now).length:=DI _ _;have hw:=hq.wlen;have hdl:(BA (BX q ps idx now) ps (Cf q ps idx now)).fDead=(BX q ps idx now).fDead:=rfl;rw[hwl,hdl,AU (by omega) (by omega)];have hfu:decide ((((Cf q ps idx now).length:Int)+((BX q ps idx now).fDead.length:Int))=256)=KT (BX q ps idx now):=by
       unfold KT;rw[Z7];simp only[Za];omega
      rw[hfu]
      by_cases hf:KT (BX q ps idx now)=true
      ·rw[Z4 hf,Z4 hf,AQ hf]
      ·have htd:0≤d∧d≤1073741824:=ZQ ht;rw[Zu hf,Zu hf,AH (by simpa using hf),AU (by omega) (by omega),KZ (by simp;omega)];unfold BA;have hws:Cp (ps++[Jh e (now+d) q.fArrived]) (Cf q ps idx now++[(ps.length:Int)])=Cp ps (Cf q ps idx now)++[⟨e,now+d,0,false⟩]:=by
        unfold Cp;rw[ZO,ZK,List.map_nil,Lc]
        congr 1
        exact List.map_congr_left λi hi=>by rw[Nn (hq.inr i hi)]
       rw[hws];rfl
    ·rw[Zu hx,Zu hx,AQ (by simp[hx])]
   ·rw[Zu ha,Zu ha,Zu ha,AQ (by simp[ha])]
  ·have hE:DZ q now=2:=by
    unfold DZ;rw[Zu (λe=>hnw (Zc e))]
   rw[Bool.not_eq_true] at hnw;rw[hnw,AQ (by rfl),Zu (by rw[hE];decide),Zu (by rw[hE];decide),hE]
theorem Wn {L idx:List Int}(hn:L.Nodup)(hi:idx.Nodup)(hs:∀i∈L,i∈idx):L.length≤idx.length:=by
 have h1:(idx.filter λi=>decide (i∈L)).Perm L:=(List.perm_ext_iff_of_nodup (hi.filter _) hn).2 λi=>by
  simp only[List.mem_filter,Za];exact⟨λh=>h.2,λh=>⟨hs i h,h⟩⟩
 rw[← h1.length_eq];exact List.length_filter_le _ _
theorem Uo (t:Int)(ps:List Ad)(L:List Int):(ED t ps L).length=L.length:=by unfold ED;rw[Zt]
theorem QR {l:List Bc}(hb:IN l=true):l.length≤300∧∀o∈l,LQ o=false:=by
 unfold IN at hb;simp only[Zd,Zq,YZ,List.any_eq_false] at hb;exact⟨by omega,λo h=>by simpa using hb.2 o h⟩
def Yv (o:Bc)(f:Int)(q:An)(ps:List Ad)(idx:List Int)(q':An)(ps':List Ad)(idx':List Int):Prop:=
 (o.fKind=0∧f=0∧Ez q o.fEvent.fID=false∧(∀id,Ez q' id=(Ez q id||decide (o.fEvent.fID=id)))∧∀i∈idx',((EQ ps' i).fID=o.fEvent.fID∧(Ac ps' i).fReceives=0)∨(i∈idx∧(EQ ps' i).fID=(EQ ps i).fID∧(Ac ps' i).fReceives=(Ac ps i).fReceives))∨
 (¬ (o.fKind=0∧f=0)∧(∀id,Ez q' id=true→Ez q id=true)∧(¬ (o.fKind=2∧f=0)→∀id,Ez q' id=Ez q id)∧∀i∈idx',i∈idx∧(EQ ps' i).fID=(EQ ps i).fID∧(Ac ps' i).fReceives=(Ac ps i).fReceives)
theorem NW {F n:Nat}(hF:30000≤F){q:An}{ps:List Ad}{idx:List Int}(h:QI q ps idx)(hb:QB n q ps)(hn:n+256≤1000000){o:Bc}(hs:LQ o=false)(ho:WP o.fEvent) :
  ∃k f q' ps' idx',H9 F q ps o=some (k,f,q',ps')∧H7 F (BA q ps idx) o=some (k,f,BA q' ps' idx')∧QI q' ps' idx'∧QB (n+256) q' ps'∧q'.fPolicy=q.fPolicy∧(o.fKind≠5→Yv o f q ps idx q' ps' idx'):=by
 obtain⟨b1,b2,b3⟩:=hb;have hb:QB n q ps:=⟨b1,b2,b3⟩
 have hsm:DT o.fEvent=true∧o.fReceipt.length≤300:=by
  unfold LQ at hs;simp only[Z3,ZL,YZ] at hs;exact⟨hs.1,by omega⟩
 have hbn:∀{q':An} {ps':List Ad},q'.fArrived=q.fArrived→ps'.length=ps.length→QB (n+256) q' ps':=λh1 h2=>⟨by rw[h1];omega,by rw[h1];omega,by rw[h2];omega⟩
 unfold H9 H7
 by_cases k0:o.fKind=0
 ·have hx:=Qq hF hsm.1 ho;obtain⟨h1,h2,h3,h4⟩:=SI h hsm.1 o.fNow o.fN (HF o.fEvent) (λe=>T4 (by rw[hx,e])) hb;rw[AQ (Zc k0),AQ (Zc k0),TT (by omega) h hb (by omega) hsm.1 ho _ _ hx,AZ rfl,ST (n:=n) hF h hsm.1 ho,AZ rfl];refine⟨0,_,_,_,_,rfl,rfl,h1,h2,h3,λ_=>?_⟩;rcases h4 with⟨e1,e2,e3,e4⟩ | ⟨e1,e2,e3⟩
  ·refine .inl ⟨k0,e1,e2,e3,λi hi=>?_⟩;rcases e4 i hi with g | ⟨g1,g2⟩
   ·exact .inl g
   ·exact .inr ⟨g1,by unfold EQ;rw[g2],by rw[g2]⟩
  ·exact .inr ⟨λe=>e1 e.2,λid hh=>by rw[e2] at hh;exact hh,λ_=>e2,λi hi=>⟨(e3 i hi).1,by unfold EQ;rw[(e3 i hi).2],by rw[(e3 i hi).2]⟩⟩
 ·rw[AH (Ze k0),AH (Ze k0)]
  by_cases k2:o.fKind=2
  ·rw[AQ (Zc k2),AQ (Zc k2),QL (by omega) h (by omega),AZ rfl,PE (by omega) h (by omega),AZ rfl];have hun:=On q ps idx o.fNow 0;have huq:=Li h o.fNow 0
   by_cases he:(CY q ps idx o.fReceipt o.fNow 0).2=0
   ·obtain⟨_,ha,e1,e2,hi⟩:=IH h he;have hi':(CY q ps idx o.fReceipt o.fNow 0).1∈Dx q ps idx o.fNow 0:=by rw[e2];exact hi
    simp only[Z4 he];refine⟨0,(CY q ps idx o.fReceipt o.fNow 0).2,_,_,XP (Dx q ps idx o.fNow 0) (CY q ps idx o.fReceipt o.fNow 0).1,rfl,rfl,WT huq hi',hbn hun.2.2 rfl,hun.1,λ_=>.inr ⟨λe=>k0 e.1,λid hh=>?_,λe=>absurd ⟨k2,he⟩ e,λi hi=>⟨Jm (List.mem_filter.1 hi).1,rfl,rfl⟩⟩⟩;have:=Xp huq hi' hh;rw[EW h] at this;exact this
   ·simp only[Zu he];refine⟨0,_,_,_,Dx q ps idx o.fNow 0,rfl,rfl,huq,hbn hun.2.2 rfl,hun.1,λ_=>.inr ⟨λe=>k0 e.1,λid hh=>by rw[EW h] at hh;exact hh,λ_ id=>EW h _ _ id,λi hi=>⟨Jm hi,rfl,rfl⟩⟩⟩
  ·rw[AH (Ze k2),AH (Ze k2)]
   by_cases k3:o.fKind=3
   ·rw[AQ (Zc k3),AQ (Zc k3),QA (by omega) h (by omega),AZ rfl,P8 (by omega) h (by omega),AZ rfl];have hun:=On q ps idx o.fNow o.fN;have huq:=Li h o.fNow o.fN
    by_cases he:(CY q ps idx o.fReceipt o.fNow o.fN).2=0
    ·obtain⟨ht,ha,e1,e2,hi⟩:=IH h he;have hn':=CO ha;have hi':(CY q ps idx o.fReceipt o.fNow o.fN).1∈Dx q ps idx o.fNow o.fN:=by rw[e2];exact hi
     simp only[Z4 he];refine⟨0,_,_,_,Dx q ps idx o.fNow o.fN,rfl,rfl,huq.upd hi' false ⟨by omega,by omega⟩,hbn hun.2.2 (ZP ..),hun.1,λ_=>.inr ⟨λe=>k0 e.1,λid hh=>by rw[EW h] at hh;exact hh,λ_ id=>EW h _ _ id,λi hi2=>⟨Jm hi2,?_,?_⟩⟩⟩
     ·unfold EQ;rw[HG (huq.inr _ hi') (huq.inr i hi2)]
      split
      ·rename_i e;rw[e];rfl
      ·rfl
     ·rw[HG (huq.inr _ hi') (huq.inr i hi2)]
      split
      ·rename_i e;rw[e];rfl
      ·rfl
    ·simp only[Zu he];refine⟨0,_,_,_,Dx q ps idx o.fNow o.fN,rfl,rfl,huq,hbn hun.2.2 rfl,hun.1,λ_=>.inr ⟨λe=>k0 e.1,λid hh=>by rw[EW h] at hh;exact hh,λ_ id=>EW h _ _ id,λi hi=>⟨Jm hi,rfl,rfl⟩⟩⟩
   ·rw[AH (Ze k3),AH (Ze k3)]
    by_cases k4:o.fKind=4
    ·rw[AQ (Zc k4),AQ (Zc k4),QK (by omega) h (by omega),AZ rfl,PD (by omega) h (by omega),AZ rfl];have hun:=On q ps idx o.fNow o.fN;have huq:=Li h o.fNow o.fN
     by_cases he:(CY q ps idx o.fReceipt o.fNow o.fN).2=0
     ·obtain⟨ht,ha,e1,e2,hi⟩:=IH h he;have hn':=CO ha;have hi':(CY q ps idx o.fReceipt o.fNow o.fN).1∈Dx q ps idx o.fNow o.fN:=by rw[e2];exact hi
      simp only[Z4 he];refine⟨0,_,_,_,Dx q ps idx o.fNow o.fN,rfl,rfl,huq.upd hi' _ ⟨by omega,by omega⟩,hbn hun.2.2 (ZP ..),hun.1,λ_=>.inr ⟨λe=>k0 e.1,λid hh=>by rw[EW h] at hh;exact hh,λ_ id=>EW h _ _ id,λi hi2=>⟨Jm hi2,?_,?_⟩⟩⟩
      ·unfold EQ;rw[HG (huq.inr _ hi') (huq.inr i hi2)]
       split
       ·rename_i e;rw[e];rfl
       ·rfl
      ·rw[HG (huq.inr _ hi') (huq.inr i hi2)]
       split
       ·rename_i e;rw[e];rfl
       ·rfl
     ·simp only[Zu he];refine⟨0,_,_,_,Dx q ps idx o.fNow o.fN,rfl,rfl,huq,hbn hun.2.2 rfl,hun.1,λ_=>.inr ⟨λe=>k0 e.1,λid hh=>by rw[EW h] at hh;exact hh,λ_ id=>EW h _ _ id,λi hi=>⟨Jm hi,rfl,rfl⟩⟩⟩
    ·rw[AH (Ze k4),AH (Ze k4)]
     by_cases k5:o.fKind=5
     ·obtain⟨k,q',ps',idx',h1,h2,h3,h4,h5⟩:=Um (F:=F) (by omega) h hb hn o.fNow;rw[AQ (Zc k5),AQ (Zc k5),h1,AZ rfl,h2,AZ rfl];exact⟨k,0,q',ps',idx',rfl,rfl,h3,h4,h5,λe=>absurd k5 e⟩
     ·rw[AH (Ze k5),AH (Ze k5)];exact⟨0,0,q,ps,idx,rfl,rfl,h,hbn rfl rfl,rfl,λ_=>.inr ⟨λe=>k0 e.1,λ_ hh=>hh,λ_ _=>rfl,λi hi=>⟨hi,rfl,rfl⟩⟩⟩
theorem R7 {F:Nat}(hF:30000≤F){q:An}{ps:List Ad}{idx:List Int}(h:QI q ps idx)(o:Bc):J1 F q ps (BA q ps idx) o=some true:=by
 have hc:=h.cnt;unfold J1 DG;rw[QM h,AZ rfl,PG (by omega) h,AZ rfl,AQ (Zc rfl),AQ (Zc rfl),AQ (Zc rfl),TW (by omega) h,AZ rfl,SV h,AZ rfl,Lo (by omega) (by omega) (λe he=>(h.smd e he).2.1),AZ rfl,AQ rfl,
  R4 (by omega) h,AZ rfl,PB (by omega) h,AZ rfl,beq_self_eq_true]
theorem Ur {F n:Nat}(hF:30000≤F){q:An}{ps:List Ad}{idx:List Int}(h:QI q ps idx)(hb:QB n q ps)(now most:Int) :
  ∃out q' ps' idx',EX F q ps now most=some (out,q',ps')∧Gs F (BA q ps idx) now most=some (out,BA q' ps' idx')∧QI q' ps' idx'∧QB n q' ps'∧q'.fPolicy=q.fPolicy∧Dm F out out=some true:=by
 obtain⟨h1,h2⟩:=Pp (F:=F) (by omega) h now most;have h3:=O2 (F:=F) (by omega) h now most
 by_cases hE:DZ q now=0
 ·rw[Z4 hE] at h1 h3;obtain⟨hn,hm⟩:=QU h now most;have hq:=h2 hE;have hc:=h.cnt;have hl:=Wn hn h.nodup λi hi=>(List.mem_filter.1 (hm i hi).1).1;refine⟨_,_,_,_,h1,h3,hq,⟨hb.1,hb.2.1,by rw[RD];exact hb.2.2⟩,rfl,G7 (by omega) (by rw[Uo];omega) λe he=>?_⟩;obtain⟨i,hi,rfl⟩:=List.mem_map.1 he;exact(h.sm i (List.mem_filter.1 (hm i hi).1).1).2.1
 ·rw[Zu hE] at h1 h3;exact⟨[],q,ps,idx,h1,h3,h,hb,rfl,G7 (by omega) (by simp) (by simp)⟩
theorem HE:E5 30000=some true:=by decide +kernel
theorem Q5 {F:Nat}(hF:30000≤F){l:List Bc}(hl:l.length≤300)(hs:∀o∈l,LQ o=false∧WP o.fEvent):∀(d n j:Nat) (q:An) (ps:List Ad) (idx:List Int),j+d=l.length→d<n→QI q ps idx→QB (256*j) q ps→
  ∃ps',BS (λσ=>Du F l σ.1 σ.2.1 σ.2.2.1 σ.2.2.2.1 σ.2.2.2.2.1 σ.2.2.2.2.2.1 σ.2.2.2.2.2.2.1 σ.2.2.2.2.2.2.2.1 σ.2.2.2.2.2.2.2.2.1 σ.2.2.2.2.2.2.2.2.2.1 σ.2.2.2.2.2.2.2.2.2.2.1 σ.2.2.2.2.2.2.2.2.2.2.2.1 σ.2.2.2.2.2.2.2.2.2.2.2.2.1 σ.2.2.2.2.2.2.2.2.2.2.2.2.2) n
   ((j:Int),true,q.fPolicy.fVisible,q.fPolicy.fReceives,q.fNow,Cp ps idx,q.fDead,q.fPolicy.fVisible,q.fPolicy.fReceives,q.fDead,q.fNow,q.fArrived,q.fWaiting,ps)=some (.go ps'):=by
 intro d
 induction d with
 | zero=>
  intro n j q ps idx h hn hq hb;obtain⟨n,rfl⟩:∃m,n=m+1:=⟨n-1,by omega⟩
  have hb1:Du F l (j:Int) true q.fPolicy.fVisible q.fPolicy.fReceives q.fNow (Cp ps idx) q.fDead q.fPolicy.fVisible q.fPolicy.fReceives q.fDead q.fNow q.fArrived q.fWaiting ps=some (.out (.go ps)):=by unfold Du;rw[AH (Ze (by omega))]
  exact⟨ps,by rw[BS];simp only[hb1]⟩
 | succ d ih=>
  intro n j q ps idx h hn hq hb;obtain⟨n,rfl⟩:∃m,n=m+1:=⟨n-1,by omega⟩
  have hj:j<l.length:=by omega
  have ho:=hs l[j] (List.getElem_mem hj);have hbody:∃q' ps' idx',Du F l (j:Int) true q.fPolicy.fVisible q.fPolicy.fReceives q.fNow (Cp ps idx) q.fDead q.fPolicy.fVisible q.fPolicy.fReceives q.fDead q.fNow q.fArrived q.fWaiting ps=some (.next (((j+1:Nat):Int),true,q'.fPolicy.fVisible,q'.fPolicy.fReceives,q'.fNow,Cp ps' idx',q'.fDead,q'.fPolicy.fVisible,q'.fPolicy.fReceives,q'.fDead,q'.fNow,q'.fArrived,q'.fWaiting,ps'))∧QI q' ps' idx'∧QB (256*(j+1)) q' ps':=by
   unfold Du;rw[AQ (Zc (by omega)),Bu (by omega) (by omega),Gg hj];generalize l[j]=o at ho ⊢
   by_cases k1:o.fKind=1
   ·rw[AQ (Zc k1)];obtain⟨out,q1,ps1,idx1,r1,r2,r3,r4,r5,r6⟩:=Ur hF hq hb o.fNow o.fN;have r1':EX F ⟨⟨q.fPolicy.fVisible,q.fPolicy.fReceives⟩,q.fWaiting,q.fDead,q.fNow,q.fArrived⟩ ps o.fNow o.fN=some (out,q1,ps1):=r1;have r2':Gs F ⟨true,⟨q.fPolicy.fVisible,q.fPolicy.fReceives⟩,q.fNow,Cp ps idx,q.fDead⟩ o.fNow o.fN=some (out,BA q1 ps1 idx1):=r2;rw[r1',AZ rfl,r2',AZ rfl,r6,AZ rfl,AH (by rfl)];obtain⟨k,f,q2,ps2,idx2,e1,e2,e3,e4,e5,e6⟩:=NW hF r3 r4 (by omega) ho.1 ho.2;have e1':H9 F q1 ps1 ⟨o.fKind,o.fNow,o.fN,o.fEvent,o.fReceipt⟩=some (k,f,q2,ps2):=e1;have e2':H7 F (BA q1 ps1 idx1) ⟨o.fKind,o.fNow,o.fN,o.fEvent,o.fReceipt⟩=some (k,f,BA q2 ps2 idx2):=e2;simp only;rw[e1',AZ rfl,e2',AZ rfl,AH (by simp),R7 hF e3,AZ rfl,AH (by rfl),AU (by omega) (by omega)];exact⟨q2,ps2,idx2,rfl,e3,by rw[Nat.mul_add];exact e4⟩
   ·rw[AH (Ze k1)];obtain⟨k,f,q2,ps2,idx2,e1,e2,e3,e4,e5,e6⟩:=NW hF hq hb (by omega) ho.1 ho.2;have e1':H9 F ⟨⟨q.fPolicy.fVisible,q.fPolicy.fReceives⟩,q.fWaiting,q.fDead,q.fNow,q.fArrived⟩ ps ⟨o.fKind,o.fNow,o.fN,o.fEvent,o.fReceipt⟩=some (k,f,q2,ps2):=e1;have e2':H7 F ⟨true,⟨q.fPolicy.fVisible,q.fPolicy.fReceives⟩,q.fNow,Cp ps idx,q.fDead⟩ ⟨o.fKind,o.fNow,o.fN,o.fEvent,o.fReceipt⟩=some (k,f,BA q2 ps2 idx2):=e2;rw[e1',AZ rfl,e2',AZ rfl,AH (by simp),R7 hF e3,AZ rfl,AH (by rfl),AU (by omega) (by omega)];exact⟨q2,ps2,idx2,rfl,e3,by rw[Nat.mul_add];exact e4⟩
  obtain⟨q',ps',idx',h1,h2,h3⟩:=hbody;obtain⟨p2,h6⟩:=ih n (j+1) q' ps' idx' (by omega) (by omega) h2 h3;exact⟨p2,by rw[BS];simp only[h1];exact h6⟩
theorem Qd (p:AP)(l:List Bc)(ho:∀o∈l,WP o.fEvent):KQ 30000 p l=some true:=by
 unfold KQ;rw[Qc (by omega),AZ rfl]
 cases hb:IN l with
 | false=>rw[AQ (by rfl),HE];rfl
 | true=>
  rw[AH (by rfl)];have hsm:=QR hb;unfold K0 Pw KB PI
  by_cases hp:(decide (p.fVisible<1)||(decide (1073741824<p.fVisible)||(decide (p.fReceives<1)||decide (10<p.fReceives))))=true
  ·rw[hp,HE];rfl
  ·rw[Bool.not_eq_true] at hp;rw[hp,AH (p:=false) rfl,AH (p:=false) rfl];simp only[Z3,YZ] at hp;rw[Option.isSome_some,AQ rfl,AZ rfl,Option.isSome_some,AQ rfl,AZ rfl];have h0:QI ⟨p,[],[],0,0⟩ [] []:=⟨(by show 1≤p.fVisible∧p.fVisible≤1073741824;omega),(by show 1≤p.fReceives∧p.fReceives≤10;omega),Zb _,by simp,List.Pairwise.nil,by simp,List.nodup_nil,(by show(0:Int)≤0∧(0:Int)≤1073741824;omega),by simp,by simp,by simp,by simp,by simp⟩
   obtain⟨ps',h1⟩:=Q5 (F:=30000) (by decide) hsm.1 (λo h=>⟨hsm.2 o h,ho o h⟩) l.length 30000 0 ⟨p,[],[],0,0⟩ [] [] (by omega) (by omega) h0 ⟨ZF _,by simp,by simp⟩;have h1':BS (λσ=>Du 30000 l σ.1 σ.2.1 σ.2.2.1 σ.2.2.2.1 σ.2.2.2.2.1 σ.2.2.2.2.2.1 σ.2.2.2.2.2.2.1 σ.2.2.2.2.2.2.2.1 σ.2.2.2.2.2.2.2.2.1 σ.2.2.2.2.2.2.2.2.2.1 σ.2.2.2.2.2.2.2.2.2.2.1 σ.2.2.2.2.2.2.2.2.2.2.2.1 σ.2.2.2.2.2.2.2.2.2.2.2.2.1 σ.2.2.2.2.2.2.2.2.2.2.2.2.2) 30000 (0,true,p.fVisible,p.fReceives,0,([]:List Aq),([]:List Ay),p.fVisible,p.fReceives,([]:List Ay),0,0,([]:List (AE×Int)),([]:List Ad))=_:=h1;simp only;rw[h1',AZ rfl,CK];unfold Hp;rw[HE];rfl
end Go.Proofs.YthbbedliepkakaaGreatDoor
namespace Go.Proofs.YthbbedliepkakaaGreatDoor.lawQueueWorks
open Go
set_option linter.unusedVariables false
theorem Xs {o:Bc}(h:Th o=true):WP o.fEvent:=by
 unfold Th Wg at h;simp only[Zd] at h;intro c hc;have h1:=List.all_eq_true.1 h.1.2.2.1 c hc;unfold UA at h1;simp only[Zd] at h1;exact⟨h1.1.1.2,(Gw h1.2).2⟩
theorem YT:YW:=λp l _ h=>⟨30000,Qd p l λo ho=>Xs (List.all_eq_true.1 (Bool.and_eq_true_iff.1 h).1 o ho)⟩
end Go.Proofs.YthbbedliepkakaaGreatDoor.lawQueueWorks
