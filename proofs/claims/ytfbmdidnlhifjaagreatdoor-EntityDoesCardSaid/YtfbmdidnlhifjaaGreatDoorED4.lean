/-
  Texts of the proof, put together: LvF, LvG, LvH, LvI, LvJ, LvK, LvL, LnS, LnA, LnB, LnC, LwEDoes.
-/
import Derived.Test.YtfbmdidnlhifjaaGreatDoorED3
namespace Go.Proofs.YtfbmdidnlhifjaaGreatDoor
open Go
set_option linter.unusedVariables false
set_option linter.unusedSimpArgs false
def ET (m:Bool)(last:Option An)(xs:List Ac):Option (Option An×List Ac):=
 bif m then match xs with
  | []=>none
  | c::r=>bif pl c&&decide (c.fKind=4)&&BY true last (some c.fStr) then some (some c.fStr,r) else none
 else some (none,xs)
def EN:Nat→Bool→Option An→Nat→List Ac→Option (Fo×List Ac)
 | 0,_,_,_,_=>none
 | _+1,_,_,0,xs=>some (.nil,xs)
 | F+1,m,last,k+1,xs=>
  match ET m last xs with
  | none=>none
  | some (_,[])=>none
  | some (key,c::xs')=>
   bif !pl c then none else
   bif decide (0<c.fN) then
    match EN F (decide (c.fKind=6)) none c.fN.toNat xs' with
    | none=>none
    | some (kids,ys)=>match EN F m key k ys with
     | none=>none
     | some (r,zs)=>some (.node key c kids r,zs)
   else match EN F m key k xs' with
    | none=>none
    | some (r,zs)=>some (.cell key c r,zs)
theorem Le {c:Ac}(hp:pl c=true)(hk:c.fKind=4):c=⟨4,0,c.fStr,0⟩∧c.fStr.all Qa=true:=by
 cases c
 simp only at hk;subst hk;simp[pl] at hp;obtain⟨h1,h2,h3⟩:=hp;subst h1;subst h2;exact⟨rfl,by simpa using h3⟩
theorem Jl {m:Bool}{last key:Option An}{xs r:List Ac}(h:ET m last xs=some (key,r)):xs=By key++r∧BY m last key=true:=by
 unfold ET at h
 cases m with
 | false=>cases h;exact⟨rfl,rfl⟩
 | true=>
  simp only[SW] at h
  cases xs with
  | nil=>cases h
  | cons c r'=>
   simp only at h
   cases hb:(pl c&&decide (c.fKind=4)&&BY true last (some c.fStr)) with
   | false=>rw[hb] at h;cases h
   | true=>
    rw[hb] at h;simp only[SM,SI] at hb
    cases h
    exact⟨by rw[(Le hb.1.1 hb.1.2).1];rfl,hb.2⟩
theorem E2:∀(F:Nat) (m:Bool) (last:Option An) (k:Nat) (xs:List Ac) (f:Fo) (ys:List Ac),EN F m last k xs=some (f,ys)→xs=f.flat++ys∧f.wf m last=true∧f.cnt=k
 | 0,_,_,_,_,_,_,h=>by cases h
 | F+1,m,last,0,xs,f,ys,h=>by cases h;exact⟨rfl,rfl,rfl⟩
 | F+1,m,last,k+1,xs,f,ys,h=>by
  rw[EN] at h
  cases hk:ET m last xs with
  | none=>rw[hk] at h;cases h
  | some p=>
   obtain⟨key,r⟩:=p;obtain⟨h1,h2⟩:=Jl hk;rw[hk] at h
   cases r with
   | nil=>cases h
   | cons c xs'=>
    simp only at h
    cases hp:pl c with
    | false=>rw[hp] at h;cases h
    | true=>
     rw[hp] at h;simp only[SY,SR] at h
     cases hn:decide (0<c.fN) with
     | true=>
      rw[hn] at h;simp only[SW] at h
      cases hq:EN F (decide (c.fKind=6)) none c.fN.toNat xs' with
      | none=>rw[hq] at h;cases h
      | some q=>
       obtain⟨kids,zs⟩:=q;rw[hq] at h;simp only at h
       cases hr:EN F m key k zs with
       | none=>rw[hr] at h;cases h
       | some q2=>
        obtain⟨r2,us⟩:=q2;rw[hr] at h;cases h;obtain⟨a1,a2,a3⟩:=E2 F _ _ _ _ _ _ hq;obtain⟨b1,b2,b3⟩:=E2 F _ _ _ _ _ _ hr;refine⟨by rw[h1,a1,b1];simp[Fo.flat],?_,by simp[Fo.cnt,b3]⟩;simp only[SI] at hn;simp only[Fo.wf,h2,hp,a2,b2,Tw,Ti,SM,SI];omega
     | false=>
      rw[hn] at h;simp only[SR] at h
      cases hr:EN F m key k xs' with
      | none=>rw[hr] at h;cases h
      | some q2=>
       obtain⟨r2,us⟩:=q2;rw[hr] at h;cases h;obtain⟨b1,b2,b3⟩:=E2 F _ _ _ _ _ _ hr;exact⟨by rw[h1,b1];simp[Fo.flat],by simp[Fo.wf,h2,hp,b2,hn],by simp[Fo.cnt,b3]⟩
theorem EH:∀(F F':Nat) (m:Bool) (last:Option An) (k:Nat) (xs:List Ac),xs.length<F→xs.length<F'→EN F m last k xs=EN F' m last k xs
 | 0,_,_,_,_,_,h,_=>by omega
 | _+1,0,_,_,_,_,_,h=>by omega
 | F+1,F'+1,m,last,0,xs,_,_=>rfl
 | F+1,F'+1,m,last,k+1,xs,h,h'=>by
  rw[EN,EN]
  cases hk:ET m last xs with
  | none=>rfl
  | some p=>
   obtain⟨key,r⟩:=p;obtain⟨h1,h2⟩:=Jl hk
   cases r with
   | nil=>rfl
   | cons c xs'=>
    have hl:xs'.length<xs.length:=by rw[h1];simp;omega
    simp only
    cases hp:pl c with
    | false=>rfl
    | true=>
     simp only[SY,SR]
     cases hn:decide (0<c.fN) with
     | true=>
      simp only[SW];rw[EH F F' _ _ _ xs' (by omega) (by omega)]
      cases hq:EN F' (decide (c.fKind=6)) none c.fN.toNat xs' with
      | none=>rfl
      | some q=>
       obtain⟨kids,zs⟩:=q;have:=(E2 _ _ _ _ _ _ _ hq).1;have hz:zs.length≤xs'.length:=by rw[this];simp
       simp only;rw[EH F F' m key k zs (by omega) (by omega)]
     | false=>
      simp only[SR];rw[EH F F' m key k xs' (by omega) (by omega)]
def Ni {S:Type}(body:S→Option (Stp S Rj))(s:S):Prop:=∃sh',Fin body s (.ret (0,sh',false))∨Fin body s (.go sh')
theorem Dj.bad {S:Type}{body:S→Option (Stp S Rj)}{s t:S}(h:Dj body s t)(h':Ni body t):Ni body s:=by
 obtain⟨sh',h' | h'⟩:=h'
 ·exact⟨sh',.inl (h.fin h')⟩
 ·exact⟨sh',.inr (h.fin h')⟩
section
variable {F M : Nat} {v : List Ac}
theorem Ni.end_ {S:List Az}{i:Int}{sh:A9}(h0:0≤i)(h:v.drop i.toNat=[]):Ni (Mm F v) (S.reverse,i,sh):=by
 refine⟨sh,.inr (Fin.step ?_)⟩;show CE F v S.reverse i sh=_;unfold CE;rw[AE];have:v.length≤i.toNat:=by simpa using h
 simp;omega
theorem Ni.pl_ (hA:NL F M v){S:List Az}{i:Int}{sh:A9}{c:Ac}{r:List Ac}(h0:0≤i)(h:v.drop i.toNat=c::r)(hS:(S.length:Int)≤i)(hb:CQ S)(hp:pl c=false):Ni (Mm F v) (S.reverse,i,sh):=by
 refine⟨sh,.inl (Fin.step ?_)⟩;rw[round hA h0 h hS hb];simp[M5,hp]
theorem Nb (hA:NL F M v):∀(P:Nat) (k:Nat) (e:Az) (S:List Az) (i:Int) (sh:A9) (last:Option An) (xs:List Ac),xs.length<P→EN P e.fPairs last (k+1) xs=none→e.fKey=e.fPairs→e.fLeft=(k:Int)+1→(k:Int)+1≤9223372036854775807→G0 e last→(e.fPairs=false→last=none)→v.drop i.toNat=xs→0≤i→(S.length:Int)+1≤i→CQ S→
  Ni (Mm F v) ((e::S).reverse,i,sh):=by
 intro P
 induction P with
 | zero=>intro k e S i sh last xs h;omega
 | succ P ih=>
  intro k e S i sh last xs hP hn hk hl hkm hlo hm hv h0 hS hb;have hb':CQ (e::S):=λx hx=>by
   rcases List.mem_cons.1 hx with rfl | hx
   ·constructor<;>omega
   ·exact hb x hx
  rw[EN] at hn
  cases hq:ET e.fPairs last xs with
  | none=>
   unfold ET at hq
   cases hpr:e.fPairs with
   | false=>rw[hpr] at hq;cases hq
   | true=>
    rw[hpr] at hq hk;simp only[SW] at hq
    cases xs with
    | nil=>exact Ni.end_ h0 hv
    | cons c r=>
     simp only at hq
     cases hp:pl c with
     | false=>exact Ni.pl_ hA h0 hv (by simpa using hS) hb' hp
     | true=>
      refine⟨sh,.inl (Fin.step ?_)⟩;rw[round hA h0 hv (by simpa using hS) hb'];have ht:(!decide (c.fKind=4)||(e.fStarted&&(CJ c.fStr e.fLast||decide (c.fStr=e.fLast))))=true:=by
       rw[hp] at hq
       cases h4:decide (c.fKind=4) with
       | false=>rfl
       | true=>
        rw[h4] at hq;simp only[Bool.and_self,Ti] at hq;have hok:=(Le hp (by simpa using h4)).2
        cases last with
        | none=>simp[BY,hok] at hq
        | some p=>
         obtain⟨q1,q2⟩:=hlo;rw[q1,q2]
         cases hc:(CJ c.fStr p||decide (c.fStr=p)) with
         | true=>rfl
         | false=>simp[BY,hok,hc] at hq
      simp only[M5,hp,hk,ht,SY,SR,SW]
  | some q=>
   obtain⟨key,r⟩:=q;obtain⟨h1,h2⟩:=Jl hq;rw[hq] at hn;have hkr:=JO (sh:=sh) hA h0 (by rw[hv];exact h1) hS hb' (by rw[hk];exact h2) hlo;have hv1:=Cw h0 (hv.trans h1);obtain⟨kl,kp⟩:=Hp (e:=e) key;obtain⟨q1,q2⟩:=Hq hlo hm h2;have hbk:CQ (DR e key::S):=λx hx=>by
    rcases List.mem_cons.1 hx with rfl | hx
    ·rw[kl];exact hb' e (by simp)
    ·exact hb x hx
   refine hkr.bad ?_
   cases r with
   | nil=>exact Ni.end_ (by omega) hv1
   | cons c xs'=>
    have hlen:xs'.length+1≤xs.length:=by rw[h1];simp
    have hvl:xs.length≤v.length:=by rw[← hv,List.length_drop];omega
    have hvM:=hA.hv;have hMM:=hA.hM;have hkk:=IB (e:=e) (last:=last) (k:=key) (by rw[hk];exact h2);simp only at hn;have hSk:(((DR e key::S).length:Nat):Int)≤i+(By key).length:=by simp only[SO];omega
    cases hp:pl c with
    | false=>exact Ni.pl_ hA (by omega) hv1 hSk hbk hp
    | true=>
     rw[hp] at hn;simp only[SY,SR] at hn;obtain⟨g1,g2,g3⟩:=BH (by omega) hv1;have hcN:=(hA.hc c (SP g1)).2.2;have more:∀(s:L2) (j:Int) (sh':A9) (zs:List Ac),E8 (Mm F v) s (DR e key::S) j sh'→v.drop j.toNat=zs→zs.length<P→0≤j→(S.length:Int)+1≤j→EN P e.fPairs key k zs=none→Ni (Mm F v) s:=λs j sh' zs hd hz hzl hj hSj hnone=>by
      cases k with
      | zero=>
       cases P with
       | zero=>omega
       | succ P=>cases hnone
      | succ k=>
       have:=hd.more (by rw[kl];omega);refine this.bad (ih k _ S j sh' key zs hzl (by rw[kp];exact hnone) rfl (by simp only[kl];omega) (by omega) ?_ (by simpa using q2) hz hj hSj hb)
       cases key with
       | none=>exact q1
       | some p=>exact q1
     cases hN:decide (0<c.fN) with
     | true=>
      rw[hN] at hn;simp only[SW] at hn;simp only[SI] at hN
      by_cases hbig:c.fN≤v.length
      ·have hnd:=GG (sh:=IO key sh) hA (by omega) hv1 hSk hbk (by simpa[IC] using hkk) hp (by simpa using hN) hbig;refine hnd.bad ?_
       cases hks:EN P (decide (c.fKind=6)) none c.fN.toNat xs' with
       | none=>
        obtain⟨n',hn'⟩:∃n',c.fN.toNat=n'+1:=⟨c.fN.toNat-1,by omega⟩
        rw[hn'] at hks;exact ih n' _ _ _ _ none xs' (by omega) hks rfl (by simp only;omega) (by omega) rfl (λ_=>rfl) g2 (by omega) (by simp only[SO];omega) hbk
       | some q=>
        obtain⟨kids,zs⟩:=q;rw[hks] at hn;simp only at hn;have hn2:EN P e.fPairs key k zs=none:=by
         cases hz:EN P e.fPairs key k zs with
         | none=>rfl
         | some q=>rw[hz] at hn;cases hn
        obtain⟨a1,a2,a3⟩:=E2 _ _ _ _ _ _ _ hks;have hd:=IT hA kids ⟨decide (c.fKind=6),c.fN,decide (c.fKind=6),[],false⟩ (DR e key::S) (i+(By key).length+1) (Gn (S.length+1) (IO key sh) c) none zs (by omega) a2 rfl (by simp only;omega) rfl (λ_=>rfl) (by rw[g2];exact a1) (by omega) (by simp only[SO];omega) hbk;have hz:v.drop (i+(By key).length+1+kids.flat.length).toNat=zs:=Cw (by omega) (g2.trans a1);have hzl:zs.length≤xs'.length:=by rw[a1];simp
        exact more _ _ _ zs hd hz (by omega) (by omega) (by omega) hn2
      ·refine⟨Gn (DR e key::S).length (IO key sh) c,.inl (Fin.step ?_)⟩;rw[round hA (by omega) hv1 hSk hbk];have hbig':decide ((v.length:Int)<c.fN)=true:=by simpa using hbig
       simp only[M5,hp,hkk,hbig',hN,SY,SR,SW,decide_true]
     | false=>
      rw[hN] at hn;simp only[SR] at hn;have hn2:EN P e.fPairs key k xs'=none:=by
       cases hz:EN P e.fPairs key k xs' with
       | none=>rfl
       | some q=>rw[hz] at hn;cases hn
      have hd:=IA (sh:=IO key sh) hA (by omega) hv1 hSk hbk (by simpa[IC] using hkk) hp hN;exact more _ _ _ xs' hd g2 (by omega) (by omega) (by omega) hn2
def EJ (xs:List Ac):Option (Fo×List Ac):=EN (xs.length+1) false none 1 xs
theorem Nv {P:Nat}{xs ys:List Ac}{f:Fo}(h:EN P false none 1 xs=some (f,ys)):f.one=true:=by
 obtain⟨h1,h2,h3⟩:=E2 _ _ _ _ _ _ _ h
 cases f with
 | nil=>cases h3
 | cell k c r=>
  cases r with
  | nil=>
   cases k with
   | none=>rfl
   | some s=>simp[Fo.wf,BY] at h2
  | cell _ _ _=>simp[Fo.cnt] at h3
  | node _ _ _ _=>simp[Fo.cnt] at h3
 | node k c kids r=>
  cases r with
  | nil=>
   cases k with
   | none=>rfl
   | some s=>simp[Fo.wf,BY] at h2
  | cell _ _ _=>simp[Fo.cnt] at h3
  | node _ _ _ _=>simp[Fo.cnt] at h3
theorem Oz (hA:NL F M v)(h:EJ v=none):Ni (Mm F v) ([],0,JY):=by
 have hlf:CQ []:=λx hx=>by cases hx
 unfold EJ at h;rw[EN] at h;simp only[ET,SR] at h
 cases v with
 | nil=>exact Ni.end_ (S:=[]) (Tc 0) rfl
 | cons c xs'=>
  have hv1:(c::xs').drop (0:Int).toNat=c::xs':=rfl;have hvM:=hA.hv;have hMM:=hA.hM;simp only at h
  cases hp:pl c with
  | false=>exact Ni.pl_ (S:=[]) hA (Tc 0) hv1 (by simp) hlf hp
  | true=>
   rw[hp] at h;simp only[SY,SR] at h;have hcN:=(hA.hc c (by simp)).2.2
   cases hN:decide (0<c.fN) with
   | true=>
    rw[hN] at h;simp only[SW] at h;simp only[SI] at hN
    by_cases hbig:c.fN≤(c::xs').length
    ·have hnd:=GG (S:=[]) (sh:=JY) hA (Tc 0) hv1 (by simp) hlf rfl hp (by simpa using hN) hbig;refine hnd.bad ?_
     cases hks:EN (c::xs').length (decide (c.fKind=6)) none c.fN.toNat xs' with
     | none=>
      obtain⟨n',hn'⟩:∃n',c.fN.toNat=n'+1:=⟨c.fN.toNat-1,by omega⟩
      rw[hn'] at hks;exact Nb hA (c::xs').length n' ⟨decide (c.fKind=6),c.fN,decide (c.fKind=6),[],false⟩ [] (0+1) _ none xs' (by simp) hks rfl (by simp only;omega) (by omega) rfl (λ_=>rfl) rfl (by omega) (by simp) hlf
     | some q=>rw[hks] at h;cases h
    ·refine⟨Gn 0 JY c,.inl (Fin.step ?_)⟩;rw[show Mm F (c::xs') (([]:List Az),0,JY)=_ from round (S:=[]) hA (Tc 0) hv1 (by simp) hlf];have hbig':decide (((c::xs').length:Int)<c.fN)=true:=by simpa using hbig
     simp only[M5,hp,hbig',hN,SY,SR,SW,decide_true]
   | false=>rw[hN] at h;cases h
theorem QA (hA:NL F M v):(∃f ys,EJ v=some (f,ys)∧H9 F v=some ((f.flat.length:Int),f.sh 0 JY,true))∨(EJ v=none∧∃sh',H9 F v=some (0,sh',false)):=by
 cases h:EJ v with
 | some q=>
  obtain⟨f,ys⟩:=q;obtain⟨h1,h2,h3⟩:=E2 _ _ _ _ _ _ _ h;exact .inl ⟨f,ys,rfl,P8 hA (Nv h) h2 h1⟩
 | none=>
  refine .inr ⟨rfl,?_⟩;obtain⟨o,ho,_⟩:=JH hA;obtain⟨sh',hb | hb⟩:=Oz hA h
  ·have e:=hb.eq ho;subst e;exact⟨sh',by unfold H9;rw[Bf ho];rfl⟩
  ·have e:=hb.eq ho;subst e;exact⟨sh',by unfold H9;rw[Bf ho];rfl⟩
end
theorem G5 {x:Int}(h : -9223372036854775808≤x)(h':x≤9223372036854775807):IntKind.wrap .i64 x=x:=by
 simp only[IntKind.wrap,IntKind.bits,IntKind.signed];simp;omega
def Fo.dep:Fo→Nat
 | .nil=>0
 | .cell _ _ r=>max 1 r.dep
 | .node _ _ kids r=>max (kids.dep+1) r.dep
theorem Ea (k:Option An)(s:A9):(IO k s).fDepth=s.fDepth∧(IO k s).fOutside=s.fOutside∧(IO k s).fLong=(s.fLong||(By k).any λc=>decide (200<(c.fStr.length:Int))):=by
 cases k with
 | none=>simp[IO,By]
 | some x=>simp[IO,RI,By]
theorem HC:∀(f:Fo) (d:Nat) (s:A9),(d:Int)≤s.fDepth→(f.sh d s).fDepth=max s.fDepth ((d:Int)+f.dep)
 | .nil,d,s,h=>by simp only[Fo.sh,Fo.dep];omega
 | .cell k c r,d,s,h=>by
  have hk:=(Ea k s).1;have e:(Gn d (IO k s) c).fDepth=max s.fDepth ((d:Int)+1):=by rw[Gn,hk]
  rw[Fo.sh,HC r d _ (by rw[e];omega),e,Fo.dep];omega
 | .node k c kids r,d,s,h=>by
  have hk:=(Ea k s).1;have e:(Gn d (IO k s) c).fDepth=max s.fDepth ((d:Int)+1):=by rw[Gn,hk]
  have e2:=HC kids (d+1) (Gn d (IO k s) c) (by rw[e];omega);rw[e] at e2;rw[Fo.sh,HC r d _ (by rw[e2];omega),e2,Fo.dep];omega
def Et (c:Ac):Bool:=decide (c.fKind=3)&&!(decide ((-1000000000000)≤c.fInt)&&decide (c.fInt≤1000000000000))
def DQ (c:Ac):Bool:=decide (200<(c.fStr.length:Int))
theorem Ms (k:Option An):(By k).any Et=false:=by cases k<;>simp[By,Et]
theorem KV:∀(f:Fo) (d:Nat) (s:A9),(f.sh d s).fOutside=(s.fOutside||f.flat.any Et)
 | .nil,d,s=>by simp[Fo.sh,Fo.flat]
 | .cell k c r,d,s=>by
  rw[Fo.sh,KV r,Gn,(Ea k s).2.1];simp only[Fo.flat,List.any_append,List.any_cons,Ms,Tk,Bool.or_assoc];rfl
 | .node k c kids r,d,s=>by
  rw[Fo.sh,KV r,KV kids,Gn,(Ea k s).2.1];simp only[Fo.flat,List.any_append,List.any_cons,Ms,Tk,Bool.or_assoc];rfl
theorem Jf:∀(f:Fo) (d:Nat) (s:A9),(f.sh d s).fLong=(s.fLong||f.flat.any DQ)
 | .nil,d,s=>by simp[Fo.sh,Fo.flat]
 | .cell k c r,d,s=>by
  rw[Fo.sh,Jf r,Gn,(Ea k s).2.2];simp only[Fo.flat,List.any_append,List.any_cons,Bool.or_assoc];rfl
 | .node k c kids r,d,s=>by
  rw[Fo.sh,Jf r,Jf kids,Gn,(Ea k s).2.2];simp only[Fo.flat,List.any_append,List.any_cons,Bool.or_assoc];rfl
def Qb (c:Ac):Int:=
 bif decide (c.fKind=1) then 4 else bif decide (c.fKind=2) then 5-c.fInt else bif decide (c.fKind=3) then((Lib.itoa c.fInt).length:Int) else
 bif decide (c.fKind=4) then I1 c.fStr else 2
def Lm:Option An→Int
 | none=>0
 | some s=>I1 s+1
def Fo.byt:Fo→Int
 | .nil=>0
 | .cell k c r=>Lm k+Qb c+r.byt
 | .node k c kids r=>Lm k+(c.fN+1)+kids.byt+r.byt
theorem J6 (s:An):2≤I1 s:=by unfold I1;omega
theorem Jp (k:Option An):0≤Lm k:=by
 cases k with
 | none=>exact Tc 0
 | some s=>have:=J6 s;simp only[Lm];omega
theorem N4 {c:Ac}(hp:pl c=true):0≤Qb c:=by
 unfold Qb
 cases h1:decide (c.fKind=1) with
 | true=>simp
 | false=>
  cases h2:decide (c.fKind=2) with
  | true=>
   simp[pl,h1,h2] at hp;simp only[SR,SW];omega
  | false=>
   cases h3:decide (c.fKind=3) with
   | true=>simp
   | false=>
    cases h4:decide (c.fKind=4) with
    | true=>have:=J6 c.fStr;simp only[SR,SW];omega
    | false=>simp
theorem Qz {c:Ac}(hp:pl c=true):0≤c.fN:=by
 simp only[pl,← Bool.decide_or] at hp
 cases h1:decide (c.fKind=1)<;>cases h2:decide (c.fKind=2)<;>cases h3:decide (c.fKind=3)<;>cases h4:decide (c.fKind=4)<;>cases h5:decide (c.fKind=5)<;>cases h6:decide (c.fKind=6)<;>simp[h1,h2,h3,h4,h5,h6] at hp<;>omega
theorem HM {c:Ac}(hp:pl c=true)(hn:0<c.fN):(c.fKind=5∨c.fKind=6)∧c.fInt=0∧c.fStr=[]:=by
 cases h1:decide (c.fKind=1)<;>cases h2:decide (c.fKind=2)<;>cases h3:decide (c.fKind=3)<;>cases h4:decide (c.fKind=4)<;>cases h5:decide (c.fKind=5)<;>cases h6:decide (c.fKind=6)<;>simp[pl,h1,h2,h3,h4,h5,h6] at hp<;>(simp only[SI,SJ] at *;first | omega | exact⟨by omega,hp.1,hp.2.1⟩)
theorem Pb {c:Ac}(hp:pl c=true)(hn:decide (0<c.fN)=false):Rr c=Qb c:=by
 have hN:=Qz hp;have h0:c.fN=0:=by simp only[SJ] at hn;omega
 unfold Rr Qb;rw[h0]
 cases h1:decide (c.fKind=1) with
 | true=>rfl
 | false=>
  cases h2:decide (c.fKind=2) with
  | true=>
   simp[pl,h1,h2] at hp;simp only[SR,SW];exact G5 (by omega) (by omega)
  | false=>rfl
theorem Pa {c:Ac}(hp:pl c=true)(hn:0<c.fN)(hm:c.fN≤9223372036854775000):Rr c=c.fN+1:=by
 obtain⟨hk,_,_⟩:=HM hp hn;unfold Rr;rw[SL (by omega),SL (by omega),SL (by omega),SL (by omega)];simp only[SR];rw[G5 (x:=c.fN-1) (by omega) (by omega),G5 (by omega) (by omega)];omega
theorem Gd:∀{f:Fo} {m:Bool} {l:Option An},f.wf m l=true→0≤f.byt
 | .nil,_,_,_=>Tc 0
 | .cell k c r,m,l,h=>by
  simp only[Fo.wf,SM] at h;have h1:=Gd h.2;have h2:=N4 h.1.1.2;have h3:=Jp k;simp only[Fo.byt];omega
 | .node k c kids r,m,l,h=>by
  simp only[Fo.wf,SM,SI] at h;have h1:=Gd h.2;have h2:=Gd h.1.2;have h3:=Jp k;simp only[Fo.byt];omega
theorem Ku (k:Option An)(s:A9)(h0:0≤s.fBytes)(h:s.fBytes+Lm k≤9223372036854775807):(IO k s).fBytes=s.fBytes+Lm k:=by
 cases k with
 | none=>simp[IO,Lm]
 | some x=>
  have:=J6 x;simp only[Lm] at h;simp only[IO,RI,Lm];exact G5 (by omega) (by omega)
theorem HD:∀(f:Fo) (m:Bool) (l:Option An) (d:Nat) (s:A9),f.wf m l=true→0≤s.fBytes→s.fBytes+f.byt≤9223372036854775000→(f.sh d s).fBytes=s.fBytes+f.byt
 | .nil,_,_,d,s,_,_,_=>by simp[Fo.sh,Fo.byt]
 | .cell k c r,m,l,d,s,hw,h0,h=>by
  simp only[Fo.wf,SM,Te] at hw;obtain⟨⟨⟨w1,w2⟩,w3⟩,w4⟩:=hw;have h1:=Gd w4;have h2:=N4 w2;have h3:=Jp k;simp only[Fo.byt] at h;have e1:=Ku k s h0 (by omega);have e:(Gn d (IO k s) c).fBytes=s.fBytes+Lm k+Qb c:=by
   rw[Gn,e1,Pb w2 w3];exact G5 (by omega) (by omega)
  rw[Fo.sh,HD r _ _ d _ w4 (by rw[e];omega) (by rw[e];omega),e,Fo.byt];omega
 | .node k c kids r,m,l,d,s,hw,h0,h=>by
  simp only[Fo.wf,SM,SI] at hw;obtain⟨⟨⟨⟨⟨w1,w2⟩,w3⟩,w5⟩,w6⟩,w4⟩:=hw;have h1:=Gd w4;have h2:=Gd w6;have h3:=Jp k;simp only[Fo.byt] at h;have e1:=Ku k s h0 (by omega);have e:(Gn d (IO k s) c).fBytes=s.fBytes+Lm k+(c.fN+1):=by
   rw[Gn,e1,Pa w2 w3 (by omega)];exact G5 (by omega) (by omega)
  have e2:=HD kids _ _ (d+1) (Gn d (IO k s) c) w6 (by rw[e];omega) (by rw[e];omega);rw[Fo.sh,HD r _ _ d _ w4 (by rw[e2,e];omega) (by rw[e2,e];omega),e2,e,Fo.byt];omega
def JR (s:An):An:=s.flatMap λc=>bif (decide (c=34)||decide (c=92)) then[92,c] else[c]
def Hm (s:An):An:=34::(JR s++[34])
theorem JQ:∀s:An,(JR s).length=s.length+s.count 34+s.count 92
 | []=>rfl
 | c::s=>by
  have ih:=JQ s;unfold JR at ih ⊢;rw[List.flatMap_cons,SU,ih]
  by_cases h1:c=34
  ·subst h1;simp;omega
  ·by_cases h2:c=92
   ·subst h2;simp;omega
   ·simp[h1,h2,List.count_cons];omega
theorem LW (s:An):((Hm s).length:Int)=I1 s:=by
 simp only[Hm,SO,SU,JQ,Tp,I1];omega
def Ib (c:Ac):An:=
 bif decide (c.fKind=1) then[110,117,108,108] else
 bif decide (c.fKind=2) then(bif decide (c.fInt=1) then[116,114,117,101] else[102,97,108,115,101]) else
 bif decide (c.fKind=3) then Lib.itoa c.fInt else
 bif decide (c.fKind=4) then Hm c.fStr else
 bif decide (c.fKind=6) then[123,125] else[91,93]
def Kj:Option An→An
 | none=>[]
 | some s=>Hm s++[58]
def OK (c:Ac)(s:An):An:=bif decide (c.fKind=6) then 123::(s++[125]) else 91::(s++[93])
def E1 (first:Bool):An:=bif first then[] else[44]
def Fo.txt:Bool→Fo→An
 | _,.nil=>[]
 | b,.cell k c r=>E1 b++Kj k++Ib c++r.txt false
 | b,.node k c kids r=>E1 b++Kj k++OK c (kids.txt true)++r.txt false
theorem N5 (k:Option An):((Kj k).length:Int)=Lm k:=by
 cases k with
 | none=>rfl
 | some s=>simp only[Kj,SU,Lm,To];have:=LW s;omega
theorem O0 {c:Ac}(hp:pl c=true):((Ib c).length:Int)=Qb c:=by
  unfold Ib Qb
  cases h1:decide (c.fKind=1) with
  | true=>rfl
  | false=>
    cases h2:decide (c.fKind=2) with
    | true=>
      simp[pl,h1,h2] at hp;simp only[SR,SW]
      cases h7:decide (c.fInt=1) with
      | true=>simp only[SI] at h7;simp[h7]
      | false=>
                 simp only[SJ] at h7;have:c.fInt=0:=by omega
                 simp[this]
    | false=>
      cases h3:decide (c.fKind=3) with
      | true=>rfl
      | false=>
        cases h4:decide (c.fKind=4) with
        | true=>simpa using LW c.fStr
        | false=>cases h6:decide (c.fKind=6)<;>rfl
theorem Lv (c:Ac)(s:An):(OK c s).length=s.length+2:=by
 unfold OK
 cases decide (c.fKind=6)<;>simp
theorem HB:∀(f:Fo) (m:Bool) (l:Option An) (b:Bool),f.wf m l=true→((f.txt b).length:Int)=f.byt+(bif b then((f.cnt-1:Nat):Int) else(f.cnt:Int))
 | .nil,m,l,b,_=>by cases b<;>rfl
 | .cell k c r,m,l,b,hw=>by
  simp only[Fo.wf,SM,Te] at hw;obtain⟨⟨⟨w1,w2⟩,w3⟩,w4⟩:=hw;have ih:=HB r _ _ false w4;have a:=N5 k;have d:=O0 w2;simp only[SR] at ih
  cases b<;>simp only[Fo.txt,Fo.byt,Fo.cnt,E1,SW,SR,SU,Tp,To]<;>omega
 | .node k c kids r,m,l,b,hw=>by
  simp only[Fo.wf,SM,SI] at hw;obtain⟨⟨⟨⟨⟨w1,w2⟩,w3⟩,w5⟩,w6⟩,w4⟩:=hw;have ih:=HB r _ _ false w4;have ih2:=HB kids _ _ true w6;have a:=N5 k;have d:=Lv c (kids.txt true);simp only[SR,SW] at ih ih2
  cases b<;>simp only[Fo.txt,Fo.byt,Fo.cnt,E1,SW,SR,SU,Tp,To]<;>omega
def Fo.put (k:Option An):Fo→Fo→Fo
 | .cell _ c _,r=>.cell k c r
 | .node _ c kids _,r=>.node k c kids r
 | .nil,_=>.nil
theorem Po (P:Nat)(m:Bool)(last:Option An)(k:Nat)(xs:List Ac):EN (P+2) m last (k+1) xs =
  match ET m last xs with
  | none=>none
  | some (key,ys)=>match EN (P+2) false none 1 ys with
   | none=>none
   | some (f,zs)=>match EN (P+1) m key k zs with
    | none=>none
    | some (r,us)=>some (f.put key r,us):=by
 rw[EN]
 cases hk:ET m last xs with
 | none=>rfl
 | some p=>
  obtain⟨key,ys⟩:=p;simp only;rw[EN];simp only[ET,SR]
  cases ys with
  | nil=>rfl
  | cons c ys=>
   simp only
   cases hp:pl c with
   | false=>rfl
   | true=>
    simp only[SY,SR]
    cases hn:decide (0<c.fN) with
    | true=>
     simp only[SW]
     cases hq:EN (P+1) (decide (c.fKind=6)) none c.fN.toNat ys with
     | none=>rfl
     | some q=>
      obtain⟨kids,zs⟩:=q;simp only[EN]
      cases hr:EN (P+1) m key k zs with
      | none=>rfl
      | some q=>obtain⟨a,b⟩:=q;rfl
    | false=>
     simp only[SR,EN]
     cases hr:EN (P+1) m key k ys with
     | none=>rfl
     | some q=>obtain⟨a,b⟩:=q;rfl
def J7 (m:Bool)(last:Option An)(k:Nat)(xs:List Ac):Option (Fo×List Ac):=EN (xs.length+1) m last k xs
theorem I2 (m:Bool)(last:Option An)(xs:List Ac):J7 m last 0 xs=some (.nil,xs):=rfl
theorem Ee (m:Bool)(last:Option An)(k:Nat)(xs:List Ac):J7 m last (k+1) xs =
  match ET m last xs with
  | none=>none
  | some (key,ys)=>match EJ ys with
   | none=>none
   | some (f,zs)=>match J7 m key k zs with
    | none=>none
    | some (r,us)=>some (f.put key r,us):=by
 unfold J7 EJ;rw[EH (xs.length+1) (xs.length+2) m last (k+1) xs (by omega) (by omega),Po]
 cases hk:ET m last xs with
 | none=>rfl
 | some p=>
  obtain⟨key,ys⟩:=p;have h1:=(Jl hk).1;have hy:ys.length≤xs.length:=by rw[h1];simp
  simp only;rw[EH (xs.length+2) (ys.length+1) false none 1 ys (by omega) (by omega)]
  cases hf:EN (ys.length+1) false none 1 ys with
  | none=>rfl
  | some q=>
   obtain⟨f,zs⟩:=q;have h2:=(E2 _ _ _ _ _ _ _ hf).1;have hz:zs.length≤ys.length:=by rw[h2];simp
   simp only;rw[EH (xs.length+1) (zs.length+1) m key k zs (by omega) (by omega)]
   all_goals (cases EN (zs.length+1) m key k zs<;>rfl)
theorem K8 {S O:Type}{body:S→Option (Stp S O)}{n:Nat}{s s':S}{o:O}(h:body s=some (.next s'))(h':Ck body n s'=some o):Ck body (n+1) s=some o:=by rw[Ck,h];exact h'
theorem He {S O:Type}{body:S→Option (Stp S O)}{n:Nat}{s:S}{o:O}(h:body s=some (.out o)):Ck body (n+1) s=some o:=by rw[Ck,h]
theorem LY:EJ []=none:=rfl
theorem EI (c:Ac)(r:List Ac):EJ (c::r)=bif !pl c then none else bif decide (0<c.fN) then(match J7 (decide (c.fKind=6)) none c.fN.toNat r with
  | none=>none
  | some (kids,zs)=>some (.node none c kids .nil,zs)) else some (.cell none c .nil,r):=by
 unfold EJ;rw[EN];simp only[ET,SR]
 cases hp:pl c with
 | false=>rfl
 | true=>
  simp only[SY,SR]
  cases hn:decide (0<c.fN) with
  | true=>
   simp only[SW];unfold J7;rw[SO]
   cases hq:EN (r.length+1) (decide (c.fKind=6)) none c.fN.toNat r with
   | none=>rfl
   | some q=>obtain⟨kids,zs⟩:=q;rfl
  | false=>rfl
theorem LX {f:Fo}(h:f.one=true)(key:Option An)(r:Fo):(f.put key r).flat=By key++(f.flat++r.flat):=by
 cases f with
 | nil=>cases h
 | cell k c r'=>
  cases k with
  | some s=>cases h
  | none=>cases r' with
   | nil=>simp[Fo.put,Fo.flat,By]
   | cell _ _ _=>cases h
   | node _ _ _ _=>cases h
 | node k c kids r'=>
  cases k with
  | some s=>cases h
  | none=>cases r' with
   | nil=>simp[Fo.put,Fo.flat,By]
   | cell _ _ _=>cases h
   | node _ _ _ _=>cases h
theorem Pq {f:Fo}(h:f.one=true):1≤f.flat.length:=by
 cases f with
 | nil=>cases h
 | cell k c r'=>simp[Fo.flat];omega
 | node k c kids r'=>simp[Fo.flat];omega
theorem G9 {xs ys:List Ac}{f:Fo}(h:EJ xs=some (f,ys)):xs=f.flat++ys∧f.wf false none=true∧f.one=true:=
 ⟨(E2 _ _ _ _ _ _ _ h).1,(E2 _ _ _ _ _ _ _ h).2.1,Nv h⟩
def Gi (v:List Ac)(i:Int):Int:=match EJ (v.drop i.toNat) with
 | none=>-1
 | some (f,_)=>i+f.flat.length
def HU (m:Bool)(last:Option An)(v:List Ac)(i:Int)(k:Nat):Int:=match J7 m last k (v.drop i.toNat) with
 | none=>-1
 | some (f,_)=>i+f.flat.length
theorem K2 {v:List Ac}{i:Int}(h0:0≤i)(h1:i≤v.length):Gi v i = -1∨(i<Gi v i∧Gi v i≤v.length):=by
 unfold Gi
 cases h:EJ (v.drop i.toNat) with
 | none=>exact .inl rfl
 | some q=>
  obtain⟨f,ys⟩:=q;obtain⟨h2,_,h3⟩:=G9 h;have:=Pq h3;have hl:(v.drop i.toNat).length=f.flat.length+ys.length:=by rw[h2];simp
  rw[List.length_drop] at hl
  right;simp only;omega
structure Si (F M:Nat) (v:List Ac):Prop where
 hM:M≤1152921504606846976
 hv:v.length≤M
 hF:M<F
 hc:∀c∈v,c.fStr.length≤M
theorem Og (ok:Bool){i:Int}(h0:0≤i)(h1:i≤1152921504606846976):Bu ok i=some (bif ok then i+1 else -1):=by
 unfold Bu
 cases ok
 ·rfl
 ·rw[AR rfl,AT (by omega) (by omega)];rfl
theorem Nt {F:Nat}{c:Ac}(hF:c.fStr.length<F)(hs:c.fStr.length≤1152921504606846976):Ke F c=some (decide (c.fKind=4)&&pl c):=by
 unfold Ke;rw[NY hF (by omega)];simp only[Option.isSome_some,ov,Tf,imp,Tv,Bm,SW]
 cases h4:decide (c.fKind=4) with
 | false=>rfl
 | true=>
  simp only[SI] at h4;simp[pl,h4]
theorem Cr {v:List Ac}{i:Int}{c:Ac}{r:List Ac}(h0:0≤i)(h:v.drop i.toNat=c::r):Ae v i=c:=by
 have:=(BH h0 h).1;simp[Ae,this]
section
variable {M : Nat} {v : List Ac}
theorem Hb {F:Nat}(hA:Si F M v){g:List Ac→Int→Option Int}{n:Int}(hn:n≤9223372036854775807):∀(L:Nat) (i x:Int),0≤i→i≤v.length→0≤x→x≤n→(∀j,i≤j→j≤v.length→g v j=some (Gi v j))→v.length-i.toNat<L→
  ∃o,Ck (λσ=>Ca v n g σ.1 σ.2) L (i,x)=some o∧BU (λν=>CV ν) o=some (HU false none v i (n-x).toNat)
 | 0,i,x,_,_,_,_,_,h=>by omega
 | L+1,i,x,h0,h1,hx,hxn,hg,hL=>by
  cases hxl:decide (x<n) with
  | false=>
   refine⟨.go i,He (by show Ca v n g i x=_;unfold Ca;rw[AE hxl]),?_⟩;simp only[SJ] at hxl;rw[show(n-x).toNat=0 from by omega];simp[BU,CV,HU,I2,Fo.flat]
  | true=>
   have hb:Ca v n g i x=Bq (decide (Gi v i<0)) (some (.out (.ret (-1)))) (Bm (BO .i64 (x+1))<|some (.next (Gi v i,x+1))):=by unfold Ca;rw[AR hxl,hg i (Tc i) h1,Bf rfl]
   simp only[SI] at hxl;obtain⟨k,hk⟩:∃k,(n-x).toNat=k+1:=⟨(n-x).toNat-1,by omega⟩
   rw[hk];have e:HU false none v i (k+1)=bif decide (Gi v i<0) then -1 else HU false none v (Gi v i) k:=by
    unfold HU;rw[Ee];simp only[ET,SR]
    cases hp:EJ (v.drop i.toNat) with
    | none=>simp[Gi,hp]
    | some q=>
     obtain⟨f,ys⟩:=q;obtain⟨q1,q2,q3⟩:=G9 hp;have hi:Gi v i=i+f.flat.length:=by simp[Gi,hp]
     have hd:v.drop (Gi v i).toNat=ys:=by rw[hi];exact Cw h0 q1
     rw[hd,SL (by omega)];simp only[SR]
     cases hr:J7 false none k ys with
     | none=>rfl
     | some q=>
      obtain⟨r,zs⟩:=q;simp only[LX q3,By,List.nil_append,SU,hi];omega
   rw[e];rcases K2 (v:=v) h0 h1 with hneg | ⟨hlt,hle⟩
   ·exact⟨.ret (-1),He (hb.trans (by rw[hneg,AR (by decide)])),by rw[hneg];rfl⟩
   ·have hM:=hA.hM;have hvM:=hA.hv;obtain⟨o,ho1,ho2⟩:=Hb hA hn L (Gi v i) (x+1) (by omega) hle (by omega) (by omega) (λj hj=>hg j (by omega)) (by omega);exact⟨o,K8 (hb.trans (by rw[AE (SL (by omega)),AT (by omega) (by omega)])) ho1,by rw[ho2,show(n-(x+1)).toNat=k from by omega,SL (by omega)];rfl⟩
theorem J4 {F:Nat}(hA:Si F M v){g:List Ac→Int→Option Int}{n:Int}(hn:n≤9223372036854775807):∀(L:Nat) (i x:Int) (last:An),0≤i→i≤v.length→0≤x→x≤n→(∀j,i≤j→j≤v.length→g v j=some (Gi v j))→v.length-i.toNat<L→
  ∃o,Ck (λσ=>Cv F v n g σ.1 σ.2.1 σ.2.2) L (i,last,x)=some o∧BU (λν=>Ec ν) o=some (HU true (bif decide (0<x) then some last else none) v i (n-x).toNat)
 | 0,i,x,_,_,_,_,_,_,h=>by omega
 | L+1,i,x,last,h0,h1,hx,hxn,hg,hL=>by
  have hM:=hA.hM;have hvM:=hA.hv;have hMF:=hA.hF
  cases hxl:decide (x<n) with
  | false=>
   refine⟨.go i,He (by show Cv F v n g i last x=_;unfold Cv;rw[AE hxl]),?_⟩;simp only[SJ] at hxl;rw[show(n-x).toNat=0 from by omega];simp[BU,Ec,HU,I2,Fo.flat]
  | true=>
   have hxl':=hxl;simp only[SI] at hxl;obtain⟨k,hk⟩:∃k,(n-x).toNat=k+1:=⟨(n-x).toNat-1,by omega⟩
   rw[hk]
   cases hd:v.drop i.toNat with
   | nil=>
    have hl:v.length≤i.toNat:=by simpa using hd
    refine⟨.ret (-1),He (by
     show Cv F v n g i last x=_;unfold Cv;rw[AR hxl',Cm (by simp[imp,show(v.length:Int)≤i from by omega]),Cm (by simp[imp,show(v.length:Int)≤i from by omega]),AR (by simp[show(v.length:Int)≤i from by omega])]),?_⟩
    simp[BU,HU,hd,Ee,ET]
   | cons c r=>
    obtain⟨g1,g2,g3⟩:=BH h0 hd;have hcM:=hA.hc c (SP g1);have hat:=Cr h0 hd;have hnl:decide ((v.length:Int)≤i)=false:=by simp;omega
    have hb:Cv F v n g i last x=Bq (!(decide (c.fKind=4)&&pl c)||decide (0<x)&&(CJ c.fStr last||decide (c.fStr=last))) (some (.out (.ret (-1)))) (B5 (g v (i+1)) λha=>Bq (decide (ha<0)) (some (.out (.ret (-1)))) (Bm (BO .i64 (x+1))<|some (.next (ha,c.fStr,x+1)))):=by
     unfold Cv;rw[AR hxl',Cm (by simp only[imp];rw[PJ h0 g3];simp),hat,Nt (by omega) (by omega),Cm (by simp[imp])];simp only[hnl,ov,Tf,Tk];rw[Bs h0 g3,AT (by omega) (by omega)]
    have hpk:ET true (bif decide (0<x) then some last else none) (c::r)=bif (!(decide (c.fKind=4)&&pl c)||decide (0<x)&&(CJ c.fStr last||decide (c.fStr=last))) then none else some (some c.fStr,r):=by
     simp only[ET,SW]
     cases h4:decide (c.fKind=4) with
     | false=>simp
     | true=>
      cases hp:pl c with
      | false=>simp
      | true=>
       have hok:=(Le hp (by simpa using h4)).2
       cases h0x:decide (0<x) with
       | false=>simp[BY,hok]
       | true=>cases hs:(CJ c.fStr last||decide (c.fStr=last))<;>simp[BY,hok,hs]
    cases ht:(!(decide (c.fKind=4)&&pl c)||decide (0<x)&&(CJ c.fStr last||decide (c.fStr=last))) with
    | true=>
     rw[ht] at hpk;refine⟨.ret (-1),He (hb.trans (AR ht)),?_⟩;simp only[HU,hd,Ee,hpk,SW];rfl
    | false=>
     rw[ht] at hpk;rw[AE ht,hg (i+1) (by omega) (by omega),Bf rfl] at hb;have e:HU true (bif decide (0<x) then some last else none) v i (k+1)=bif decide (Gi v (i+1)<0) then -1 else HU true (some c.fStr) v (Gi v (i+1)) k:=by
      unfold HU;rw[hd,Ee,hpk];simp only[SR];have hx:Gi v (i+1)=match EJ r with | none=>-1 | some (f,_)=>i+1+f.flat.length:=by unfold Gi;rw[g2]
      cases hp:EJ r with
      | none=>rw[hp] at hx;simp[hx]
      | some q=>
       obtain⟨f,ys⟩:=q;obtain⟨q1,q2,q3⟩:=G9 hp;rw[hp] at hx;simp only at hx;have hd2:v.drop (Gi v (i+1)).toNat=ys:=by rw[hx];exact Cw (by omega) (g2.trans q1)
       rw[hd2,SL (by omega)];simp only[SR]
       cases hr:J7 true (some c.fStr) k ys with
       | none=>rfl
       | some q=>
        obtain⟨r',zs⟩:=q;simp only[LX q3,By,SU,SO,Tp,hx];omega
     rw[e];rcases K2 (v:=v) (i:=i+1) (by omega) (by omega) with hneg | ⟨hlt,hle⟩
     ·exact⟨.ret (-1),He (hb.trans (by rw[hneg,AR (by decide)])),by rw[hneg];rfl⟩
     ·obtain⟨o,ho1,ho2⟩:=J4 hA hn L (Gi v (i+1)) (x+1) c.fStr (by omega) hle (by omega) (by omega) (λj hj=>hg j (by omega)) (by omega);exact⟨o,K8 (hb.trans (by rw[AE (SL (by omega)),AT (by omega) (by omega)])) ho1,by rw[ho2,show(n-(x+1)).toNat=k from by omega,SS (show(0:Int)<x+1 from by omega),SL (by omega)];rfl⟩
theorem Md {i:Int}{c:Ac}{r:List Ac}(h0:0≤i)(hd:v.drop i.toNat=c::r)(hp:pl c=true):Gi v i=HU (decide (c.fKind=6)) none v (i+1) c.fN.toNat:=by
 have g2:=(BH h0 hd).2.1;have hN:=Qz hp;unfold Gi HU;rw[hd,EI,g2,hp];simp only[SY,SR]
 cases hn:decide (0<c.fN) with
 | true=>
  simp only[SW]
  cases hq:J7 (decide (c.fKind=6)) none c.fN.toNat r with
  | none=>rfl
  | some q=>
   obtain⟨kids,zs⟩:=q;simp only[Fo.flat,By,List.nil_append,SO,Tz];omega
 | false=>
  simp only[SJ] at hn;rw[show c.fN.toNat=0 from by omega,I2];simp[Fo.flat,By]
theorem LR (hA:Si (M+1) M v)(hN:∀c∈v,c.fN≤9223372036854775807):∀(d F:Nat) (i:Int),0≤i→i≤v.length→v.length-i.toNat=d→M+2*d+3<F→Cz F v i=some (Gi v i):=by
 have hM:=hA.hM;have hvM:=hA.hv;intro d
 induction d using Nat.strongRecOn with
 | ind d ih=>
  intro F i h0 h1 hd hF;obtain⟨F,rfl⟩:∃G,F=G+1:=⟨F-1,by omega⟩
  obtain⟨F,rfl⟩:∃G,F=G+1:=⟨F-1,by omega⟩
  rw[Cz];unfold KZ
  cases hdr:v.drop i.toNat with
  | nil=>
   have hl:v.length≤i.toNat:=by simpa using hdr
   rw[AR (by simp;omega)];simp[Gi,hdr,LY]
  | cons c r=>
   obtain⟨g1,g2,g3⟩:=BH h0 hdr;have hcM:=hA.hc c (SP g1);have hcN:=hN c (SP g1);rw[AE (by simp;omega),Bs h0 g3,Cr h0 hdr];simp only[Og _ h0 (show i≤1152921504606846976 by omega),Option.isSome_some,ov,Tf,imp,Tv,Cm (x:=_) (rfl:true=true)];have hg:∀j,i+1≤j→j≤v.length→Cz F v j=some (Gi v j):=λj hj hj2=>ih (v.length-j.toNat) (by omega) F j (by omega) hj2 rfl (by omega);have hpl0:pl c=false→Gi v i = -1:=λhp=>by simp[Gi,hdr,EI,hp]
   have hleaf:pl c=true→c.fN=0→Gi v i=i+1:=λhp h0'=>by simp[Gi,hdr,EI,hp,h0',Fo.flat,By]
   have hscal:∀b:Bool,pl c=b→(b=true→c.fN=0)→Gi v i=bif b then i+1 else -1:=λb hb hz=>by
    cases b
    ·exact hpl0 hb
    ·exact hleaf hb (hz rfl)
   by_cases k1:c.fKind=1
   ·rw[AR (by simp[k1])];have hp:pl c=(decide (c.fInt=0)&&(decide (c.fStr=[])&&decide (c.fN=0))):=by simp[pl,k1]
    rw[hscal _ hp (λh=>by simp at h;exact h.2.2)]
    cases decide (c.fInt=0)<;>cases decide (c.fStr=[])<;>cases decide (c.fN=0)<;>rfl
   rw[AE (by simp[k1])]
   by_cases k2:c.fKind=2
   ·rw[AR (by simp[k2])];have hp:pl c=((decide (c.fInt=0)||decide (c.fInt=1))&&(decide (c.fStr=[])&&decide (c.fN=0))):=by simp[pl,k2]
    rw[hscal _ hp (λh=>by simp at h;exact h.2.2)]
    cases decide (c.fInt=0)<;>cases decide (c.fInt=1)<;>cases decide (c.fStr=[])<;>cases decide (c.fN=0)<;>rfl
   rw[AE (by simp[k2])]
   by_cases k3:c.fKind=3
   ·rw[AR (by simp[k3])];have hp:pl c=(decide (c.fStr=[])&&decide (c.fN=0)):=by simp[pl,k3]
    rw[hscal _ hp (λh=>by simp at h;exact h.2)]
    cases decide (c.fStr=[])<;>cases decide (c.fN=0)<;>rfl
   rw[AE (by simp[k3])]
   by_cases k4:c.fKind=4
   ·rw[AR (by simp[k4]),Nt (by omega) (by omega),Bf rfl,Bf rfl];rw[SS k4,Ti,hscal (pl c) rfl (λhp=>by have:=(Le hp k4).1;rw[this])]
   rw[AE (by simp[k4])]
   by_cases k5:c.fKind=5
   ·have hp:pl c=(decide (c.fInt=0)&&(decide (c.fStr=[])&&decide (0≤c.fN))):=by simp[pl,k5]
    rw[show(decide (c.fKind=5)&&(decide (c.fInt=0)&&(decide (c.fStr=[])&&decide (0≤c.fN))))=pl c from by rw[hp,SS k5,Ti]];have k5' : ¬ c.fKind=6:=by omega
    cases hb:pl c with
    | false=>rw[AE rfl,AE (by simp[k5]),hpl0 hb]
    | true=>
     have hn0:=Qz hb;rw[AR rfl,AT (by omega) (by omega),Ed];unfold ES;obtain⟨o,ho1,ho2⟩:=Hb (F:=F) ⟨hM,hvM,by omega,hA.hc⟩ hcN F (i+1) 0 (by omega) (by omega) (Tc 0) hn0 hg (by omega);rw[Bf ho1,ho2,Bf rfl,Md h0 hdr hb,SL k5',Int.sub_zero]
   rw[AE (by simp[k5])]
   by_cases k6:c.fKind=6
   ·have hp:pl c=(decide (c.fInt=0)&&(decide (c.fStr=[])&&decide (0≤c.fN))):=by simp[pl,k6]
    rw[show(decide (c.fKind=6)&&(decide (c.fInt=0)&&(decide (c.fStr=[])&&decide (0≤c.fN))))=pl c from by rw[hp,SS k6,Ti]]
    cases hb:pl c with
    | false=>rw[AE rfl,hpl0 hb]
    | true=>
     have hn0:=Qz hb;rw[AR rfl,AT (by omega) (by omega),Iy];unfold Jj;obtain⟨o,ho1,ho2⟩:=J4 (F:=F) ⟨hM,hvM,by omega,hA.hc⟩ hcN F (i+1) 0 [] (by omega) (by omega) (Tc 0) hn0 hg (by omega);rw[Bf ho1,ho2,Bf rfl,Md h0 hdr hb,SS k6,Int.sub_zero];rfl
   ·rw[AE (by simp[k6]),hpl0 (by simp[pl,k1,k2,k3,k4,k5,k6])]
theorem MH (hA:Si (M+1) M v)(hN:∀c∈v,c.fN≤9223372036854775807){F:Nat}(hF:3*M+3<F):HJ F v=some (decide (Gi v 0=v.length)):=by
 have hvM:=hA.hv;unfold HJ;rw[LR hA hN v.length F 0 (Tc 0) (by omega) (by simp) (by omega)];simp only[imp,Option.isSome_some,Tv,Cm,ov,Tf]
 cases v with
 | nil=>simp[Gi,LY]
 | cons c r=>
  rw[show decide (0<((c::r).length:Int))=true from by simp,Ti]
  first | done | rfl
end
theorem Nw {m:Bool}{last key:Option An}{r:List Ac}(h:BY m last key=true):ET m last (By key++r)=some (key,r):=by
 cases key with
 | none=>
  have:m=false:=by simpa[BY] using h
  subst this;rfl
 | some s=>
  have h':=h;simp only[BY,SM] at h;obtain⟨⟨h1,h2⟩,h3⟩:=h;subst h1;have hp:pl ⟨4,0,s,0⟩=true:=by simp[pl,h2]
  show(bif pl ⟨4,0,s,0⟩&&decide ((4:Int)=4)&&BY true last (some s) then _ else _)=_;rw[hp,h'];rfl
theorem Jm:∀(f:Fo) (m:Bool) (last:Option An) (ys:List Ac),f.wf m last=true→J7 m last f.cnt (f.flat++ys)=some (f,ys)
 | .nil,_,_,_,_=>rfl
 | .cell k c r,m,last,ys,hw=>by
  simp only[Fo.wf,SM,Te] at hw;obtain⟨⟨⟨w1,w2⟩,w3⟩,w4⟩:=hw;simp only[Fo.cnt,Fo.flat,Tg,T3];rw[Ee,Nw w1];simp only[EI,w2,w3,SY,SR,Jm r m k ys w4,Fo.put]
 | .node k c kids r,m,last,ys,hw=>by
  simp only[Fo.wf,SM,SI] at hw;obtain⟨⟨⟨⟨⟨w1,w2⟩,w3⟩,w5⟩,w6⟩,w4⟩:=hw;simp only[Fo.cnt,Fo.flat,Tg,T3];rw[Ee,Nw w1];have e:c.fN.toNat=kids.cnt:=by omega
  simp only[EI,w2,SS w3,SY,SR,SW,e,Jm kids _ none (r.flat++ys) w6,Jm r m k ys w4,Fo.put]
theorem Nx {f:Fo}{ys:List Ac}(h1:f.one=true)(hw:f.wf false none=true):EJ (f.flat++ys)=some (f,ys):=by
 have:=Jm f false none ys hw;have hc:f.cnt=1:=by
  cases f with
  | nil=>cases h1
  | cell k c r=>cases k with
   | some _=>cases h1
   | none=>cases r with
    | nil=>rfl
    | _=>cases h1
  | node k c kids r=>cases k with
   | some _=>cases h1
   | none=>cases r with
    | nil=>rfl
    | _=>cases h1
 rw[hc] at this;exact this
structure In (M:Nat) (v:List Ac):Prop where
 hM:M≤1000000000
 hv:v.length≤M
 hc:∀c∈v,c.fStr.length≤M∧BO .i64 c.fInt=true∧c.fN≤9223372036854775807
theorem In.lk {M F:Nat}{v:List Ac}(h:In M v)(hF:M<F):NL F M v:=⟨by have:=h.hM;omega,by have:=h.hM;omega,h.hv,hF,h.hc⟩
theorem In.rf {M F:Nat}{v:List Ac}(h:In M v)(hF:M<F):Si F M v:=⟨by have:=h.hM;omega,h.hv,hF,λc hc=>(h.hc c hc).1⟩
theorem In.drop {M:Nat}{v:List Ac}(h:In M v)(k:Nat):In M (v.drop k):=⟨h.hM,by have:=h.hv;rw[List.length_drop];omega,λc hc=>h.hc c (List.mem_of_mem_drop hc)⟩
theorem In.take {M:Nat}{v:List Ac}(h:In M v)(k:Nat):In M (v.take k):=⟨h.hM,by have:=h.hv;rw[List.length_take];omega,λc hc=>h.hc c (List.mem_of_mem_take hc)⟩
def whole (v:List Ac):Option Fo:=match EJ v with
 | some (f,[])=>some f
 | _=>none
theorem Jy {v:List Ac}{f:Fo}(h:whole v=some f):v=f.flat∧f.wf false none=true∧f.one=true:=by
 unfold whole at h
 cases hp:EJ v with
 | none=>rw[hp] at h;cases h
 | some q=>
  obtain⟨g,ys⟩:=q;rw[hp] at h
  cases ys with
  | cons _ _=>cases h
  | nil=>
   cases h
   obtain⟨h1,h2,h3⟩:=G9 hp;exact⟨by simpa using h1,h2,h3⟩
theorem OU {f:Fo}(h1:f.one=true)(hw:f.wf false none=true):whole f.flat=some f:=by
 have:=Nx (ys:=[]) h1 hw;rw[Tz] at this;simp[whole,this]
def Nc (f:Fo):Int:=
 bif f.flat.any Et then 2 else bif f.flat.any DQ||(decide (200<f.flat.length)||(decide (8<f.dep)||decide (4000<(f.txt true).length))) then 3 else 0
def DG (v:List Ac):Int:=match whole v with
 | none=>1
 | some f=>Nc f
theorem Ny {f:Fo}(h1:f.one=true):f.cnt=1:=by
 cases f with
 | nil=>cases h1
 | cell k c r=>cases k with
  | some _=>cases h1
  | none=>cases r with
   | nil=>rfl
   | _=>cases h1
 | node k c kids r=>cases k with
  | some _=>cases h1
  | none=>cases r with
   | nil=>rfl
   | _=>cases h1
theorem Lc (s:An):I1 s≤2*s.length+2+s.length:=by
 have h1:s.count 34≤s.length:=List.count_le_length;have h2:s.count 92≤s.length:=List.count_le_length;unfold I1;omega
theorem Rz {c:Ac}{M:Nat}(hp:pl c=true)(hs:c.fStr.length≤M)(hi:(Lib.itoa c.fInt).length≤21):Qb c≤3*M+21:=by
 have:=Lc c.fStr;unfold Qb
 cases h1:decide (c.fKind=1) with
 | true=>simp only[SW];omega
 | false=>
  cases h2:decide (c.fKind=2) with
  | true=>
   simp[pl,h1,h2] at hp;simp only[SR,SW];omega
  | false=>
   cases h3:decide (c.fKind=3) with
   | true=>simp only[SR,SW];omega
   | false=>cases h4:decide (c.fKind=4)<;>simp only[SR,SW]<;>omega
theorem Lt {M:Nat}:∀{f:Fo} {m:Bool} {l:Option An},f.wf m l=true→(∀c∈f.flat,c.fStr.length≤M∧BO .i64 c.fInt=true∧c.fN≤9223372036854775807)→f.byt+f.cnt≤(3*M+24)*f.flat.length
 | .nil,_,_,_,_=>by simp[Fo.byt,Fo.flat,Fo.cnt]
 | .cell k c r,m,l,hw,hc=>by
  simp only[Fo.wf,SM,Te] at hw;obtain⟨⟨⟨w1,w2⟩,w3⟩,w4⟩:=hw;simp only[Fo.flat] at hc;have ih:=Lt w4 (λx hx=>hc x (by simp[hx]));obtain⟨c1,c2,c3⟩:=hc c (by simp);have i64:=Ga c2;have hl:=Rz w2 c1 (Lib.itoa_length_le c.fInt i64.1 i64.2);have hk:Lm k≤(3*M+24)*(By k).length:=by
   cases k with
   | none=>simp[Lm,By]
   | some s=>
    have:=(hc ⟨4,0,s,0⟩ (by simp[By])).1;have h2:=Lc s;simp only at this;simp only[Lm,By,To];omega
  simp only[Fo.byt,Fo.flat,Fo.cnt,SU,SO];have e:((3*(M:Int)+24)*(((By k).length+(r.flat.length+1):Nat):Int))=(3*(M:Int)+24)*(By k).length+((3*(M:Int)+24)*r.flat.length+(3*(M:Int)+24)):=by
   push_cast;rw[Int.mul_add,Int.mul_add,Int.mul_one]
  rw[e]
  push_cast at *
  omega
 | .node k c kids r,m,l,hw,hc=>by
  simp only[Fo.wf,SM,SI] at hw;obtain⟨⟨⟨⟨⟨w1,w2⟩,w3⟩,w5⟩,w6⟩,w4⟩:=hw;simp only[Fo.flat] at hc;have ih:=Lt w4 (λx hx=>hc x (by simp[hx]));have ih2:=Lt w6 (λx hx=>hc x (by simp[hx]));have hcf:=BT kids;have hk:Lm k≤(3*M+24)*(By k).length:=by
   cases k with
   | none=>simp[Lm,By]
   | some s=>
    have:=(hc ⟨4,0,s,0⟩ (by simp[By])).1;have h2:=Lc s;simp only at this;simp only[Lm,By,To];omega
  simp only[Fo.byt,Fo.flat,Fo.cnt,SU,SO];have e:((3*(M:Int)+24)*(((By k).length+(kids.flat.length+r.flat.length+1):Nat):Int))=(3*(M:Int)+24)*(By k).length+((3*(M:Int)+24)*kids.flat.length+(3*(M:Int)+24)*r.flat.length+(3*(M:Int)+24)):=by
   push_cast;rw[Int.mul_add,Int.mul_add,Int.mul_add,Int.mul_one]
  rw[e]
  push_cast at *
  omega
theorem KK {M:Nat}(hM:M≤1000000){f:Fo}{m:Bool}{l:Option An}(hw:f.wf m l=true)(hl:f.flat.length≤M)(hc:∀c∈f.flat,c.fStr.length≤M∧BO .i64 c.fInt=true∧c.fN≤9223372036854775807):f.byt≤4000000000000:=by
 have:=Lt (M:=M) hw hc;have h2:(3*M+24)*f.flat.length≤(3*1000000+24)*1000000:=Nat.mul_le_mul (by omega) (by omega);have h3:(((3*M+24)*f.flat.length:Nat):Int)=(3*(M:Int)+24)*f.flat.length:=by push_cast;rfl
 omega
theorem Kr {M F:Nat}{v:List Ac}(hA:In M v)(hM:M≤1000000)(hF:M<F):Iq F v=some (DG v):=by
 unfold Iq DG whole;have hvM:=hA.hv;rcases QA (hA.lk hF) with⟨f,ys,hp,hl⟩ | ⟨hp,sh',hl⟩
 ·rw[hl,Bf rfl,hp];obtain⟨h1,h2,h3⟩:=G9 hp;have hlen:v.length=f.flat.length+ys.length:=by rw[h1];simp
  cases ys with
  | cons c r=>
   rw[AR];simp only[SO] at hlen;simp;omega
  | nil=>
   simp only[Tp,Nat.add_zero] at hlen;rw[AE (by simp[hlen])];have hc:∀c∈f.flat,c.fStr.length≤M∧BO .i64 c.fInt=true∧c.fN≤9223372036854775807:=λc hc=>hA.hc c (by rw[h1];simp[hc]);have hb:=KK hM h2 (by omega) hc;have hb0:=Gd h2;have e1:(f.sh 0 JY).fOutside=f.flat.any Et:=by rw[KV];rfl
   have e2:(f.sh 0 JY).fLong=f.flat.any DQ:=by rw[Jf];rfl
   have e3:(f.sh 0 JY).fDepth=f.dep:=by rw[HC f 0 JY (by simp[JY])];simp[JY]
   have e4:(f.sh 0 JY).fBytes=(f.txt true).length:=by
    rw[HD f false none 0 JY h2 (by simp[JY]) (by simp[JY];omega),HB f false none true h2,Ny h3];simp[JY]
   simp only;rw[e1,e2,e3,e4,hlen];unfold Nc
   cases f.flat.any Et with
   | true=>rw[AR rfl];rfl
   | false=>
    rw[AE rfl];have a1:decide ((200:Int)<(f.flat.length:Int))=decide (200<f.flat.length):=by rw[SZ];simp;omega
    have a2:decide ((8:Int)<(f.dep:Int))=decide (8<f.dep):=by rw[SZ];simp;omega
    have a3:decide ((4000:Int)<((f.txt true).length:Int))=decide (4000<(f.txt true).length):=by rw[SZ];simp;omega
    rw[a1,a2,a3]
    cases(f.flat.any DQ||(decide (200<f.flat.length)||(decide (8<f.dep)||decide (4000<(f.txt true).length))))<;>rfl
 ·rw[hl,Bf rfl,hp];rfl
theorem Li {v:List Ac}{p:Int}{f:Fo}{ys:List Ac}(h1:f.one=true)(hw:f.wf false none=true)(hd:v.drop p.toNat=f.flat++ys):Gi v p=p+f.flat.length:=by
 unfold Gi;rw[hd,Nx h1 hw]
theorem Nl {c:Ac}(hp:pl c=true)(hn:decide (0<c.fN)=false):(Fo.cell none c .nil).wf false none=true:=by simp[Fo.wf,BY,hp,hn]
theorem Nk {c:Ac}{kids:Fo}(hp:pl c=true)(hn:0<c.fN)(hk:c.fN=kids.cnt)(hw:kids.wf (decide (c.fKind=6)) none=true):(Fo.node none c kids .nil).wf false none=true:=by simp[Fo.wf,BY,hp,hn,hk,hw];omega
section
variable {M : Nat} {v : List Ac}
theorem In.next (hA:In M v){F:Nat}(hF:3*M+3<F){p:Int}(h0:0≤p)(h1:p≤v.length):Cz F v p=some (Gi v p):=by
 have hM:=hA.hM;have hvM:=hA.hv;exact LR (hA.rf (ST M)) (λc hc=>(hA.hc c hc).2.2) (v.length-p.toNat) F p h0 h1 rfl (by omega)
theorem HI {F:Nat}{p:Int}{c:Ac}{r:List Ac}(h0:0≤p)(hpM:p≤1152921504606846976)(hd:v.drop p.toNat=c::r)(hp:pl c=true)(hn:decide (0<c.fN)=false):Ci (F+2) v p=some 1:=by
 obtain⟨g1,g2,g3⟩:=BH h0 hd;rw[Ci];unfold EE;rw[Bs h0 g3,Cr h0 hd]
 cases hk:(!decide (c.fKind=5)&&!decide (c.fKind=6)) with
 | true=>rw[AR rfl]
 | false=>
  rw[AE rfl,AT (by omega) (by omega),Bf (He (o:=.go 0) (by
   show BW (F+1) v p _ 0 (p+1) 0=_;unfold BW;rw[Cr h0 hd,AE hn]))]
  simp only[BU,CL];rw[AT (by omega) (by omega)];rfl
theorem Kx {F:Nat}{i:Int}{rec:List Ac→Int→Option Int}{most at_ x L:Int}{m:Bool}{p q:Int}{pc:Ac}(hpc:Ae v i=pc)(hm:decide (pc.fKind=6)=m)(hx:x<pc.fN)(hx0:0≤x)(hpcN:pc.fN≤9223372036854775807)
  (ha0:0≤at_) (haM:at_≤1152921504606846976) (hp:p=bif m then at_+1 else at_) (hr:rec v p=some L) (hq:Cz F v p=some q):BW F v i rec most at_ x=some (.next (max most L,q,x+1)):=by
 unfold BW;rw[hpc,AR (by simpa using hx),hm]
 cases m with
 | true=>
  simp only[SW] at hp;rw[AR rfl,AT (by omega) (by omega),← hp,hr,Bf rfl]
  cases hl:decide (most<L) with
  | true=>rw[AR rfl,hq,Bf rfl,AT (by omega) (by omega),Int.max_eq_right (by simp at hl;omega)]
  | false=>rw[AE rfl,hq,Bf rfl,AT (by omega) (by omega),Int.max_eq_left (by simp at hl;omega)]
 | false=>
  simp only[SR] at hp;rw[AE rfl,← hp,hr,Bf rfl]
  cases hl:decide (most<L) with
  | true=>rw[AR rfl,hq,Bf rfl,AT (by omega) (by omega),Int.max_eq_right (by simp at hl;omega)]
  | false=>rw[AE rfl,hq,Bf rfl,AT (by omega) (by omega),Int.max_eq_left (by simp at hl;omega)]
theorem Jo {m:Bool}{last key:Option An}(h:BY m last key=true):((By key).length:Int)=bif m then 1 else 0:=by
  cases key with
  | none=>
            have:m=false:=by simpa[BY] using h
            subst this;rfl
  | some s=>simp only[BY,SM] at h;rw[h.1.1];rfl
theorem LS (hA:In M v):∀(g:Fo) (F L:Nat) (i at_ x most:Int) (m:Bool) (last:Option An) (ys:List Ac) (pc:Ac),Ae v i=pc→decide (pc.fKind=6)=m→pc.fN≤9223372036854775807→g.wf m last=true→v.drop at_.toNat=g.flat++ys→0≤at_→at_≤v.length→pc.fN=x+g.cnt→0≤x→0≤most→most≤1152921504606846976→g.cnt<L→3*M+5+g.flat.length<F→
  ∃o,Ck (λσ=>BW F v i (Ci F) σ.1 σ.2.1 σ.2.2) L (most,at_,x)=some o∧BU (λν=>CL ν) o=some (max most (g.dep:Int)+1):=by
 have hM:=hA.hM;have hvM:=hA.hv;have fin:∀(F L:Nat) (i at_ x most:Int) (pc:Ac),Ae v i=pc→pc.fN≤x→0≤most→most≤1152921504606846976→0<L→∃o,Ck (λσ=>BW F v i (Ci F) σ.1 σ.2.1 σ.2.2) L (most,at_,x)=some o∧BU (λν=>CL ν) o=some (most+1):=λF L i at_ x most pc hpc hx h0 hb hL=>by
  obtain⟨L,rfl⟩:∃K,L=K+1:=⟨L-1,by omega⟩
  refine⟨.go most,He (by show BW F v i _ most at_ x=_;unfold BW;rw[hpc,AE (by simp;omega)]),?_⟩;simp only[BU,CL];rw[AT (by omega) (by omega)]
 have depM:∀g:Fo,g.dep≤g.flat.length:=by
  intro g
  induction g with
  | nil=>simp[Fo.dep]
  | cell k c r ih=>simp[Fo.dep,Fo.flat];omega
  | node k c kids r ih1 ih2=>simp[Fo.dep,Fo.flat];omega
 intro g
 induction g with
 | nil=>
  intro F L i at_ x most m last ys pc hpc hm hpN hw hd h0 h1 hN hx hmo hmM hL hF;obtain⟨o,h1,h2⟩:=fin F L i at_ x most pc hpc (by simp[Fo.cnt] at hN;omega) hmo hmM (by omega);exact⟨o,h1,by rw[h2];simp only[Fo.dep];congr 2<;>omega⟩
 | cell k c r ih=>
  intro F L i at_ x most m last ys pc hpc hm hpN hw hd h0 h1 hN hx hmo hmM hL hF;simp only[Fo.wf,SM,Te] at hw;obtain⟨⟨⟨w1,w2⟩,w3⟩,w4⟩:=hw;simp only[Fo.flat,Tg,T3] at hd;simp only[Fo.cnt] at hN hL;simp only[Fo.flat,SU,SO] at hF;obtain⟨L,rfl⟩:∃K,L=K+1:=⟨L-1,by omega⟩
  obtain⟨F,rfl⟩:∃K,F=K+2:=⟨F-2,by omega⟩
  have hd1:=Cw h0 hd;have hkl:=Jo w1;obtain⟨g1,g2,g3⟩:=BH (by omega) hd1;have hlen:at_+(By k).length=bif m then at_+1 else at_:=by rw[hkl];cases m<;>simp
  have hq:=hA.next (F:=F+2) (by omega) (p:=at_+(By k).length) (by omega) (by omega);rw[Li (f:=.cell none c .nil) (ys:=r.flat++ys) rfl (Nl w2 w3) hd1] at hq;have hb:=Kx (most:=most) (x:=x) hpc hm (by omega) hx hpN h0 (by omega) hlen (HI (F:=F) (by omega) (by omega) hd1 w2 w3) hq;have hdd:=depM r;obtain⟨o,ho1,ho2⟩:=ih (F+2) L i (at_+(By k).length+((Fo.cell none c .nil).flat.length:Int)) (x+1) (max most 1) m k ys pc hpc hm hpN w4 (by rw[show(Fo.cell none c .nil).flat.length=1 from rfl];exact g2) (by omega) (by rw[show(Fo.cell none c .nil).flat.length=1 from rfl];omega) (by omega) (by omega) (by omega) (by omega) (by omega) (by omega);refine⟨o,K8 hb ho1,?_⟩;rw[ho2,Fo.dep];congr 2<;>omega
 | node k c kids r ihk ih=>
  intro F L i at_ x most m last ys pc hpc hm hpN hw hd h0 h1 hN hx hmo hmM hL hF;simp only[Fo.wf,SM,SI] at hw;obtain⟨⟨⟨⟨⟨w1,w2⟩,w3⟩,w5⟩,w6⟩,w4⟩:=hw;simp only[Fo.flat,Tg,T3] at hd;simp only[Fo.cnt] at hN hL;simp only[Fo.flat,SU,SO] at hF;obtain⟨L,rfl⟩:∃K,L=K+1:=⟨L-1,by omega⟩
  obtain⟨F,rfl⟩:∃K,F=K+1:=⟨F-1,by omega⟩
  have hd1:=Cw h0 hd;have hkl:=Jo w1;obtain⟨g1,g2,g3⟩:=BH (by omega) hd1;have hcN:=(hA.hc c (SP g1)).2.2;have hlen:at_+(By k).length=bif m then at_+1 else at_:=by rw[hkl];cases m<;>simp
  have hq:=hA.next (F:=F+1) (by omega) (p:=at_+(By k).length) (by omega) (by omega);have hfl:(Fo.node none c kids .nil).flat=c::kids.flat:=by simp[Fo.flat,By]
  rw[Li (f:=.node none c kids .nil) (ys:=r.flat++ys) rfl (Nk w2 w3 w5 w6) (by rw[hd1,hfl];simp)] at hq;have hdk:=depM kids;have hdd:=depM r;have hcf:=BT kids;have hvl:(v.drop (at_+(By k).length+1).toNat).length=kids.flat.length+(r.flat.length+ys.length):=by rw[g2];simp
  rw[List.length_drop] at hvl;have hrec:Ci (F+1) v (at_+(By k).length)=some ((kids.dep:Int)+1):=by
   rw[Ci];unfold EE;rw[Bs (by omega) g3,Cr (by omega) hd1];have ha:=(HM w2 w3).1;rw[AE (by simp;omega),AT (by omega) (by omega)];obtain⟨o,ho1,ho2⟩:=ihk F F (at_+(By k).length) (at_+(By k).length+1) 0 0 _ none (r.flat++ys) c (Cr (by omega) hd1) rfl hcN w6 (by rw[g2]) (by omega) (by omega) (by omega) (Tc 0) (Tc 0) (by omega) (by omega) (by omega);rw[Bf ho1,ho2];congr 2<;>omega
  have hb:=Kx (most:=most) (x:=x) hpc hm (by omega) hx hpN h0 (by omega) hlen hrec hq;obtain⟨o,ho1,ho2⟩:=ih (F+1) L i (at_+(By k).length+((Fo.node none c kids .nil).flat.length:Int)) (x+1) (max most ((kids.dep:Int)+1)) m k ys pc hpc hm hpN w4 (by
   have:=Cw (by omega) g2;rw[hfl,SO,show at_+(By k).length+((kids.flat.length+1:Nat):Int)=at_+(By k).length+1+kids.flat.length from by omega];exact this) (by omega) (by rw[hfl,SO];omega) (by omega) (by omega) (by omega) (by omega) (by omega) (by omega)
  refine⟨o,K8 hb ho1,?_⟩;rw[ho2,Fo.dep];congr 2<;>omega
theorem MG (hA:In M v){F:Nat}{p:Int}{f:Fo}{ys:List Ac}(h0:0≤p)(h1:f.one=true)(hw:f.wf false none=true)(hd:v.drop p.toNat=f.flat++ys)(hF:3*M+6+f.flat.length<F):Ci F v p=some (f.dep:Int):=by
 have hM:=hA.hM;have hvM:=hA.hv
 cases f with
 | nil=>cases h1
 | cell k c r=>
  cases k with
  | some s=>cases h1
  | none=>
   cases r with
   | nil=>
    simp only[Fo.wf,SM,Te] at hw;obtain⟨F,rfl⟩:∃K,F=K+2:=⟨F-2,by omega⟩
    have hd':v.drop p.toNat=c::ys:=by simpa[Fo.flat,By] using hd
    rw[HI h0 (by have:=(BH h0 hd').2.2;omega) hd' hw.1.1.2 hw.1.2];rfl
   | cell _ _ _=>cases h1
   | node _ _ _ _=>cases h1
 | node k c kids r=>
  cases k with
  | some s=>cases h1
  | none=>
   cases r with
   | nil=>
    simp only[Fo.wf,SM,SI] at hw;obtain⟨⟨⟨⟨⟨w1,w2⟩,w3⟩,w5⟩,w6⟩,w4⟩:=hw;have hd':v.drop p.toNat=c::(kids.flat++ys):=by simpa[Fo.flat,By] using hd
    obtain⟨g1,g2,g3⟩:=BH h0 hd';have hcN:=(hA.hc c (SP g1)).2.2;have hcf:=BT kids;simp only[Fo.flat,By,List.nil_append,Tz,SO] at hF;obtain⟨F,rfl⟩:∃K,F=K+1:=⟨F-1,by omega⟩
    rw[Ci];unfold EE;have ha:=(HM w2 w3).1;rw[Bs h0 g3,Cr h0 hd',AE (by simp;omega),AT (by omega) (by omega)];obtain⟨o,ho1,ho2⟩:=LS hA kids F F p (p+1) 0 0 _ none ys c (Cr h0 hd') rfl hcN w6 g2 (by omega) (by omega) (by omega) (Tc 0) (Tc 0) (by omega) (by omega) (by omega);rw[Bf ho1,ho2];simp only[Fo.dep];congr 1<;>omega
   | cell _ _ _=>cases h1
   | node _ _ _ _=>cases h1
end
def O7 (c:UInt8):An:=bif (decide (c=34)||decide (c=92)) then[92,c] else[c]
theorem O6 {s:An}{k:Nat}{c:UInt8}(h:s[k]? =some c):JR (s.take (k+1))=JR (s.take k)++O7 c:=by
 rw[List.take_add_one,h];simp[JR,List.flatMap_append,O7]
theorem Mv (s:An):(JR s).length≤3*s.length:=by
 rw[JQ];have h1:s.count 34≤s.length:=List.count_le_length;have h2:s.count 92≤s.length:=List.count_le_length;omega
theorem MC {s:An}{x:Int}{c:UInt8}(h0:0≤x)(h:s[x.toNat]? =some c):List.take (Int.toNat (x+1)-Int.toNat x) (List.drop (Int.toNat x) s)=[c]:=by
 have hl:=(List.getElem?_eq_some_iff.1 h).1;have hc:=(List.getElem?_eq_some_iff.1 h).2;rw[show Int.toNat (x+1)-Int.toNat x=1 from by omega,List.drop_eq_getElem_cons hl,hc];rfl
theorem Sg {s:An}{x:Int}{c:UInt8}(h:s[x.toNat]? =some c):decide (Ih s x=34)=decide (c=34):=by
 rw[Lw h,SZ,decide_eq_true_iff,decide_eq_true_iff,← UInt8.toNat_inj];show _↔c.toNat=34;omega
theorem Sf {s:An}{x:Int}{c:UInt8}(h:s[x.toNat]? =some c):decide (Ih s x=92)=decide (c=92):=by
 rw[Lw h,SZ,decide_eq_true_iff,decide_eq_true_iff,← UInt8.toNat_inj];show _↔c.toNat=92;omega
theorem KX {s out:An}{x:Int}{c:UInt8}(h0:0≤x)(hx:x<(s.length:Int))(hs:s.length≤1152921504606846976)(ho:out.length≤3*s.length+1)(hc:s[x.toNat]? =some c):Ce s out x=some (.next (out++O7 c,x+1)):=by
 unfold Ce O7;rw[AR (SS hx),Bs h0 hx,Sg hc,Sf hc,MC h0 hc];have l1:(([92]:An).length:Int)=1:=rfl;have l2:(([c]:An).length:Int)=1:=rfl
 cases hq:(decide (c=34)||decide (c=92)) with
 | true=>
  have l3:((out++([92]:An)).length:Int)=out.length+1:=by rw[SU,To,Int.natCast_add];rfl
  rw[AR rfl,l1,l2,l3,AT (by omega) (by omega),AT (by omega) (by omega),Ig (by omega) (by omega),Ig (by omega) (by omega),AT (by omega) (by omega),Tg];rfl
 | false=>
  rw[AE rfl,l2,AT (by omega) (by omega),Ig (by omega) (by omega),Ig (by omega) (by omega),AT (by omega) (by omega)];rfl
theorem GA {R V:Type}(K:V→Option R)(v:V):BU K (.go v)=K v:=rfl
theorem J8 {R V:Type}(K:V→Option R)(r:R):BU K (.ret r)=some r:=rfl
theorem LQ {s out:An}{x:Int}(hx : ¬ x<(s.length:Int)):Ce s out x=some (.out (.go out)):=by
 unfold Ce;rw[AE (SL hx)]
theorem NX {out:An}(h:out.length≤4611686018427387904):C3 out=some (out++[34]):=by
 unfold C3;have l1:(([34]:An).length:Int)=1:=rfl;rw[l1,AT (by omega) (by omega)]
theorem Hl {F:Nat}{s:An}(hF:s.length<F)(hs:s.length≤1152921504606846976):ER F s=some (Hm s):=by
 obtain⟨o,h1,h2⟩:=EZ (body:=λσ=>Ce s σ.1 σ.2) (λσ=>0≤σ.2∧σ.2≤(s.length:Int)∧σ.1=34::JR (s.take σ.2.toNat)) (λσ=>s.length-σ.2.toNat)
  (λo=>BU (λν=>C3 ν) o=some (Hm s)) (λσ ⟨h0,hl,ha⟩=>by
   obtain⟨out,x⟩:=σ;simp only at h0 hl ha;show(∃s',Ce s out x=_∧_)∨∃o,Ce s out x=_∧_;have hb:=Mv (s.take x.toNat);have hb2:(s.take x.toNat).length≤s.length:=by rw[List.length_take];omega
   have hol:out.length≤3*s.length+1:=by rw[ha,SO];omega
   by_cases hx:x<(s.length:Int)
   ·obtain⟨c,hc⟩:∃c,s[x.toNat]? =some c:=⟨s[x.toNat]'(by omega),SK (by omega)⟩
    have a1:0≤x+1:=by omega
    have a2:x+1≤s.length:=by omega
    have a3:s.length-(x+1).toNat<s.length-x.toNat:=by omega
    have a4:out++O7 c=34::JR (s.take (x+1).toNat):=by rw[show(x+1).toNat=x.toNat+1 from by omega,O6 hc,ha];rfl
    exact .inl ⟨(out++O7 c,x+1),KX h0 hx hs hol hc,⟨a1,a2,a4⟩,a3⟩
   ·have e:x.toNat=s.length:=by omega
    have hk:C3 out=some (out++[34]):=NX (by omega);have hf:out++[34]=Hm s:=by rw[ha,e,List.take_length];rfl
    exact .inr ⟨.go out,LQ hx,(GA (λν=>C3 ν) out).trans (hk.trans (congrArg some hf))⟩) F ([34],0) ⟨Tc 0,by show(0:Int)≤s.length;omega,by show([34]:An)=34::JR (s.take 0);simp[JR]⟩ (by show s.length-0<F;omega)
 unfold ER;rw[Bf h1,h2]
section
variable {M : Nat} {v : List Ac}
theorem S0 (a b c d e:An):(((a++b)++c)++d)++e=a++(b++(c++d)++e):=by simp
theorem S2 (a b c d:An):((a++b)++c)++d=a++([]++(b++c)++d):=by simp
theorem S3 (a b c:An):(a++b)++c=a++(b++[]++c):=by simp
theorem S4 (a b:An):a++b=a++([]++[]++b):=by simp
theorem QB (a:An)(c:UInt8):((a++[c]).length:Int)=a.length+1:=by rw[SU,To,Int.natCast_add];rfl
theorem Mn (a b:An):((a++b).length:Int)=a.length+b.length:=by rw[SU,Int.natCast_add]
theorem Kv {F:Nat}{i:Int}{rec:List Ac→Int→Option An}{out tx:An}{at_ x:Int}{m:Bool}{p q:Int}{pc:Ac}{key:Option An}{last:Option An}(hpc:Ae v i=pc)(hm:decide (pc.fKind=6)=m)(hx:x<pc.fN)(hx0:0≤x)(hpcN:pc.fN≤9223372036854775807)
  (ha0:0≤at_) (haM:at_<v.length) (hvM:(v.length:Int)≤1152921504606846976) (hk:BY m last key=true) (hkey:∀s,key=some s→(Ae v at_).fStr=s∧s.length<F∧s.length≤1152921504606846976) (hp:p=bif m then at_+1 else at_) (hr:rec v p=some tx) (hq:Cz F v p=some q)
  (hlen:((out++(E1 (decide (x=0))++Kj key++tx)).length:Int)≤4611686018427387904):CK F v i rec out at_ x=some (.next (out++(E1 (decide (x=0))++Kj key++tx),q,x+1)):=by
 have hb:(([44]:An).length:Int)=1:=rfl;have hd:(([58]:An).length:Int)=1:=rfl;have hx1:Bm (BO .i64 (x+1)) (some (Stp.next (out++(E1 (decide (x=0))++Kj key++tx),q,x+1)):Option (Stp (An×Int×Int) (Out An An)))=some (Stp.next (out++(E1 (decide (x=0))++Kj key++tx),q,x+1)):=AT (by omega) (by omega);unfold CK;rw[hpc,AR (SS hx),hm]
 cases ha:decide (x=0) with
 | true=>
  rw[ha] at hx1 hlen;simp only[SI] at ha;rw[AE (SL (by omega))]
  cases m with
  | true=>
   cases key with
   | none=>simp[BY] at hk
   | some s=>
    obtain⟨e1,e2,e3⟩:=hkey s rfl;simp only[SW] at hp;have e:((out++Hm s)++[58])++tx=out++(E1 true++Kj (some s)++tx):=S2 _ _ _ _;rw[← e] at hx1 hlen ⊢;have h1:=Mn ((out++Hm s)++[58]) tx;have h2:=QB (out++Hm s) 58;have h3:=Mn out (Hm s);rw[AR rfl,Bs ha0 haM,e1,Hl e2 e3,Bf rfl,AT (by omega) (by omega),hd,AT (by omega) (by omega),AT (by omega) (by omega),← hp,hr,Bf rfl,AT (by omega) (by omega),hq,Bf rfl,hx1]
  | false=>
   cases key with
   | some s=>simp[BY] at hk
   | none=>
    simp only[SR] at hp;have e:out++tx=out++(E1 true++Kj none++tx):=S4 _ _;rw[← e] at hx1 hlen ⊢;have h1:=Mn out tx;rw[AE rfl,← hp,hr,Bf rfl,AT (by omega) (by omega),hq,Bf rfl,hx1]
 | false=>
  rw[ha] at hx1 hlen;simp only[SJ] at ha;rw[AR (SS (by omega))]
  cases m with
  | true=>
   cases key with
   | none=>simp[BY] at hk
   | some s=>
    obtain⟨e1,e2,e3⟩:=hkey s rfl;simp only[SW] at hp;have e:(((out++[44])++Hm s)++[58])++tx=out++(E1 false++Kj (some s)++tx):=S0 _ _ _ _ _;rw[← e] at hx1 hlen ⊢;have h1:=Mn (((out++[44])++Hm s)++[58]) tx;have h2:=QB ((out++[44])++Hm s) 58;have h3:=Mn (out++[44]) (Hm s);have h4:=QB out 44;rw[hb,AT (by omega) (by omega),AR rfl,Bs ha0 haM,e1,Hl e2 e3,Bf rfl,AT (by omega) (by omega),hd,AT (by omega) (by omega),AT (by omega) (by omega),← hp,hr,Bf rfl,AT (by omega) (by omega),hq,Bf rfl,hx1]
  | false=>
   cases key with
   | some s=>simp[BY] at hk
   | none=>
    simp only[SR] at hp;have e:(out++[44])++tx=out++(E1 false++Kj none++tx):=S3 _ _ _;rw[← e] at hx1 hlen ⊢;have h1:=Mn (out++[44]) tx;have h4:=QB out 44;rw[hb,AT (by omega) (by omega),AE rfl,← hp,hr,Bf rfl,AT (by omega) (by omega),hq,Bf rfl,hx1]
theorem Nq {i:Int}{pc:Ac}{out:An}(hpc:Ae v i=pc)(h:out.length≤4611686018427387904):El v i out=some (OK pc out):=by
 unfold El OK;have l1:(([123]:An).length:Int)=1:=rfl;have l2:(([91]:An).length:Int)=1:=rfl;have l3:(([125]:An).length:Int)=1:=rfl;have l4:(([93]:An).length:Int)=1:=rfl;have h1:=Mn [123] out;have h2:=Mn [91] out;rw[hpc]
 cases hk:decide (pc.fKind=6) with
 | true=>rw[AR rfl,AT (by omega) (by omega),AT (by omega) (by omega)];rfl
 | false=>rw[AE rfl,AT (by omega) (by omega),AT (by omega) (by omega)];rfl
theorem J3 {F:Nat}{p:Int}{c:Ac}{r:List Ac}(h0:0≤p)(hpM:p≤1152921504606846976)(hd:v.drop p.toNat=c::r)(hp:pl c=true)(hn:decide (0<c.fN)=false)(hs:c.fStr.length<F+1)(hs2:c.fStr.length≤1152921504606846976)(hi:BO .i64 c.fInt=true):DO (F+2) v p=some (Ib c):=by
 obtain⟨g1,g2,g3⟩:=BH h0 hd;rw[DO];unfold Iv Ib;rw[Bs h0 g3,Cr h0 hd]
 cases k1:decide (c.fKind=1) with
 | true=>rw[AR rfl];rfl
 | false=>
 rw[AE rfl]
 cases k2:decide (c.fKind=2) with
 | true=>rw[AR rfl];cases decide (c.fInt=1)<;>rfl
 | false=>
 rw[AE rfl]
 cases k3:decide (c.fKind=3) with
 | true=>rw[AR rfl,Cm hi];rfl
 | false=>
 rw[AE rfl]
 cases k4:decide (c.fKind=4) with
 | true=>rw[AR rfl,Hl hs hs2,Bf rfl];rfl
 | false=>
 have hgo:CK (F+1) v p (DO (F+1)) [] (p+1) 0=some (.out (.go [])):=by
  unfold CK;rw[Cr h0 hd,AE hn]
 rw[AE rfl,AT (by omega) (by omega),Bf (He (o:=.go []) hgo),GA,Nq (Cr h0 hd) (by simp)];simp only[SR,OK]
 cases decide (c.fKind=6)<;>rfl
end
section
variable {M : Nat} {v : List Ac}
theorem HN {α:Type}[Inhabited α](a:α):ov (some a)=a:=rfl
theorem PF {at_:Int}{k:Option An}{r:List Ac}(h0:0≤at_)(hA:In M v){F:Nat}(hF:M<F)(hd:v.drop at_.toNat=By k++r):∀s,k=some s→(Ae v at_).fStr=s∧s.length<F∧s.length≤1152921504606846976:=λs e=>by
 subst e;have hd':v.drop at_.toNat=⟨4,0,s,0⟩::r:=by simpa[By] using hd
 have h1:=Cr h0 hd';have h2:=(hA.hc _ (SP (BH h0 hd').1)).1;have hM:=hA.hM;simp only at h2;exact⟨by rw[h1],by omega,by omega⟩
theorem LP (hA:In M v):∀(g:Fo) (F L:Nat) (i at_ x:Int) (out:An) (m:Bool) (last:Option An) (ys:List Ac) (pc:Ac),Ae v i=pc→decide (pc.fKind=6)=m→pc.fN≤9223372036854775807→g.wf m last=true→v.drop at_.toNat=g.flat++ys→0≤at_→at_≤v.length→pc.fN=x+g.cnt→0≤x→(out++g.txt (decide (x=0))).length≤4611686018427387904→g.cnt<L→3*M+5+g.flat.length<F→
  ∃o,Ck (λσ=>CK F v i (DO F) σ.1 σ.2.1 σ.2.2) L (out,at_,x)=some o∧BU (λν=>El v i ν) o=some (OK pc (out++g.txt (decide (x=0)))):=by
 have hM:=hA.hM;have hvM:=hA.hv;intro g
 induction g with
 | nil=>
  intro F L i at_ x out m last ys pc hpc hm hpN hw hd h0 h1 hN hx hlen hL hF;obtain⟨L,rfl⟩:∃K,L=K+1:=⟨L-1,by omega⟩
  have hgo:CK F v i (DO F) out at_ x=some (.out (.go out)):=by
   simp only[Fo.cnt] at hN;unfold CK;rw[hpc,AE (SL (by omega))]
  refine⟨.go out,He hgo,?_⟩;simp only[Fo.txt,Tz] at hlen ⊢;rw[GA,Nq hpc hlen]
 | cell k c r ih=>
  intro F L i at_ x out m last ys pc hpc hm hpN hw hd h0 h1 hN hx hlen hL hF;simp only[Fo.wf,SM,Te] at hw;obtain⟨⟨⟨w1,w2⟩,w3⟩,w4⟩:=hw;simp only[Fo.flat,Tg,T3] at hd;simp only[Fo.cnt] at hN hL;simp only[Fo.flat,SU,SO] at hF;obtain⟨L,rfl⟩:∃K,L=K+1:=⟨L-1,by omega⟩
  obtain⟨F,rfl⟩:∃K,F=K+2:=⟨F-2,by omega⟩
  have hd1:=Cw h0 hd;have hkl:=Jo w1;obtain⟨g1,g2,g3⟩:=BH (by omega) hd1;have hcM:=hA.hc c (SP g1);have hp:at_+(By k).length=bif m then at_+1 else at_:=by rw[hkl];cases m<;>simp
  have hq:=hA.next (F:=F+2) (by omega) (p:=at_+(By k).length) (by omega) (by omega);rw[Li (f:=.cell none c .nil) (ys:=r.flat++ys) rfl (Nl w2 w3) hd1] at hq;have e:out++(Fo.cell k c r).txt (decide (x=0))=(out++(E1 (decide (x=0))++Kj k++Ib c))++r.txt (decide (x+1=0)):=by
   rw[SL (show ¬ x+1=0 by omega)];simp[Fo.txt]
  rw[e] at hlen ⊢;have hl2:((out++(E1 (decide (x=0))++Kj k++Ib c)).length:Int)≤4611686018427387904:=by rw[SU] at hlen;omega
  have hat:at_<v.length:=by omega
  have hb:=Kv hpc hm (by omega) hx hpN h0 hat (by omega) w1 (PF h0 hA (F:=F+2) (by omega) hd) hp (J3 (F:=F) (by omega) (by omega) hd1 w2 w3 (by omega) (by omega) hcM.2.1) hq hl2;obtain⟨o,ho1,ho2⟩:=ih (F+2) L i (at_+(By k).length+((Fo.cell none c .nil).flat.length:Int)) (x+1) (out++(E1 (decide (x=0))++Kj k++Ib c)) m k ys pc hpc hm hpN w4 (by rw[show(Fo.cell none c .nil).flat.length=1 from rfl];exact g2) (by omega) (by rw[show(Fo.cell none c .nil).flat.length=1 from rfl];omega) (by omega) (by omega) hlen (by omega) (by omega);exact⟨o,K8 hb ho1,ho2⟩
 | node k c kids r ihk ih=>
  intro F L i at_ x out m last ys pc hpc hm hpN hw hd h0 h1 hN hx hlen hL hF;simp only[Fo.wf,SM,SI] at hw;obtain⟨⟨⟨⟨⟨w1,w2⟩,w3⟩,w5⟩,w6⟩,w4⟩:=hw;simp only[Fo.flat,Tg,T3] at hd;simp only[Fo.cnt] at hN hL;simp only[Fo.flat,SU,SO] at hF;obtain⟨L,rfl⟩:∃K,L=K+1:=⟨L-1,by omega⟩
  obtain⟨F,rfl⟩:∃K,F=K+1:=⟨F-1,by omega⟩
  have hd1:=Cw h0 hd;have hkl:=Jo w1;obtain⟨g1,g2,g3⟩:=BH (by omega) hd1;have hcN:=(hA.hc c (SP g1)).2.2;have hp:at_+(By k).length=bif m then at_+1 else at_:=by rw[hkl];cases m<;>simp
  have hq:=hA.next (F:=F+1) (by omega) (p:=at_+(By k).length) (by omega) (by omega);have hfl:(Fo.node none c kids .nil).flat=c::kids.flat:=by simp[Fo.flat,By]
  rw[Li (f:=.node none c kids .nil) (ys:=r.flat++ys) rfl (Nk w2 w3 w5 w6) (by rw[hd1,hfl];simp)] at hq;have hcf:=BT kids;have hvl:(v.drop (at_+(By k).length+1).toNat).length=kids.flat.length+(r.flat.length+ys.length):=by rw[g2];simp
  rw[List.length_drop] at hvl;have e:out++(Fo.node k c kids r).txt (decide (x=0))=(out++(E1 (decide (x=0))++Kj k++OK c (kids.txt true)))++r.txt (decide (x+1=0)):=by
   rw[SL (show ¬ x+1=0 by omega)];simp[Fo.txt]
  rw[e] at hlen ⊢;have hl2:((out++(E1 (decide (x=0))++Kj k++OK c (kids.txt true))).length:Int)≤4611686018427387904:=by rw[SU] at hlen;omega
  have hl3:(kids.txt true).length≤4611686018427387904:=by
   have:=Lv c (kids.txt true);rw[SU,SU] at hl2;omega
  have hat:at_<v.length:=by omega
  have hrec:DO (F+1) v (at_+(By k).length)=some (OK c (kids.txt true)):=by
   rw[DO];unfold Iv;have ha:=(HM w2 w3).1;rw[Bs (by omega) g3,Cr (by omega) hd1,AE (SL (by omega)),AE (SL (by omega)),AE (SL (by omega)),AE (SL (by omega)),AT (by omega) (by omega)];obtain⟨o,ho1,ho2⟩:=ihk F F (at_+(By k).length) (at_+(By k).length+1) 0 [] _ none (r.flat++ys) c (Cr (by omega) hd1) rfl hcN w6 (by rw[g2]) (by omega) (by omega) (by omega) (Tc 0) hl3 (by omega) (by omega);rw[Bf ho1,ho2];rfl
  have hb:=Kv hpc hm (by omega) hx hpN h0 hat (by omega) w1 (PF h0 hA (F:=F+1) (by omega) hd) hp hrec hq hl2;obtain⟨o,ho1,ho2⟩:=ih (F+1) L i (at_+(By k).length+((Fo.node none c kids .nil).flat.length:Int)) (x+1) (out++(E1 (decide (x=0))++Kj k++OK c (kids.txt true))) m k ys pc hpc hm hpN w4 (by
   have:=Cw (by omega) g2;rw[hfl,SO,show at_+(By k).length+((kids.flat.length+1:Nat):Int)=at_+(By k).length+1+kids.flat.length from by omega];exact this) (by omega) (by rw[hfl,SO];omega) (by omega) (by omega) hlen (by omega) (by omega)
  exact⟨o,K8 hb ho1,ho2⟩
theorem Ph (hA:In M v){F:Nat}{p:Int}{f:Fo}{ys:List Ac}(h0:0≤p)(h1:f.one=true)(hw:f.wf false none=true)(hd:v.drop p.toNat=f.flat++ys)(hF:3*M+6+f.flat.length<F)(hlen:(f.txt true).length≤4611686018427387904):DO F v p=some (f.txt true):=by
 have hM:=hA.hM;have hvM:=hA.hv
 cases f with
 | nil=>cases h1
 | cell k c r=>
  cases k with
  | some s=>cases h1
  | none=>
   cases r with
   | nil=>
    simp only[Fo.wf,SM,Te] at hw;obtain⟨F,rfl⟩:∃K,F=K+2:=⟨F-2,by omega⟩
    have hd':v.drop p.toNat=c::ys:=by simpa[Fo.flat,By] using hd
    have hcM:=hA.hc c (SP (BH h0 hd').1);rw[J3 h0 (by have:=(BH h0 hd').2.2;omega) hd' hw.1.1.2 hw.1.2 (by omega) (by omega) hcM.2.1];simp[Fo.txt,E1,Kj]
   | cell _ _ _=>cases h1
   | node _ _ _ _=>cases h1
 | node k c kids r=>
  cases k with
  | some s=>cases h1
  | none=>
   cases r with
   | nil=>
    simp only[Fo.wf,SM,SI] at hw;obtain⟨⟨⟨⟨⟨w1,w2⟩,w3⟩,w5⟩,w6⟩,w4⟩:=hw;have hd':v.drop p.toNat=c::(kids.flat++ys):=by simpa[Fo.flat,By] using hd
    obtain⟨g1,g2,g3⟩:=BH h0 hd';have hcN:=(hA.hc c (SP g1)).2.2;have hcf:=BT kids;simp only[Fo.flat,By,List.nil_append,Tz,SO] at hF;have et:(Fo.node none c kids .nil).txt true=OK c (kids.txt true):=by simp[Fo.txt,E1,Kj]
    rw[et] at hlen ⊢;have hbl:=Lv c (kids.txt true);obtain⟨F,rfl⟩:∃K,F=K+1:=⟨F-1,by omega⟩
    rw[DO];unfold Iv;have ha:=(HM w2 w3).1;rw[Bs h0 g3,Cr h0 hd',AE (SL (by omega)),AE (SL (by omega)),AE (SL (by omega)),AE (SL (by omega)),AT (by omega) (by omega)];obtain⟨o,ho1,ho2⟩:=LP hA kids F F p (p+1) 0 [] _ none ys c (Cr h0 hd') rfl hcN w6 g2 (by omega) (by omega) (by omega) (Tc 0) (by show(kids.txt true).length≤_;omega) (by omega) (by omega);rw[Bf ho1,ho2];rfl
   | cell _ _ _=>cases h1
   | node _ _ _ _=>cases h1
theorem Oe {F:Nat}{K:Option Int}(hF:v.length<F)(hv:v.length≤1152921504606846976):B5 (Ck (λσ=>CX v σ) F 0) (BU λ_=>K)=bif v.any Et then some 2 else K:=by
 obtain⟨o,h1,h2⟩:=EZ (body:=λσ=>CX v σ) (λx=>0≤x∧x≤(v.length:Int)∧(v.take x.toNat).any Et=false) (λx=>v.length-x.toNat)
  (λo=>BU (λ_=>K) o=bif v.any Et then some 2 else K) (λx ⟨h0,hl,ha⟩=>by
   by_cases hx:x<(v.length:Int)
   ·obtain⟨c,hc⟩:∃c,v[x.toNat]? =some c:=⟨v[x.toNat]'(by omega),SK (by omega)⟩
    have hat:Ae v x=c:=by simp[Ae,hc]
    have ho:(decide (c.fKind=3)&&(decide (c.fInt<(-1000000000000))||decide (1000000000000<c.fInt)))=Et c:=by
     unfold Et
     cases decide (c.fKind=3) with
     | false=>rfl
     | true=>
      rw[Ti,Ti,SZ];simp only[T5,SI,Te,Bool.and_eq_false_iff,SJ];omega
    have hb:CX v x=Bq (Et c) (some (.out (.ret 2))) (some (.next (x+1))):=by
     unfold CX;rw[AR (SS hx),Bs h0 hx,hat,ho,AT (by omega) (by omega)]
    cases hq:Et c with
    | true=>
     refine .inr ⟨.ret 2,hb.trans (AR hq),?_⟩;have:v.any Et=true:=List.any_eq_true.2 ⟨c,SP hc,hq⟩;rw[J8,this];rfl
    | false=>
     have a3:(v.take (x+1).toNat).any Et=false:=by
      rw[show(x+1).toNat=x.toNat+1 from by omega,List.take_add_one,hc,List.any_append,ha];simp[hq]
     exact .inl ⟨x+1,hb.trans (AE hq),⟨by omega,by omega,a3⟩,by omega⟩
   ·refine .inr ⟨.go (),by unfold CX;rw[AE (SL hx)],?_⟩;rw[show x.toNat=v.length from by omega,List.take_length] at ha;rw[GA,ha];rfl) F 0 ⟨Tc 0,by omega,by simp⟩ (by simpa using hF)
 rw[Bf h1,h2]
theorem Od {F:Nat}{K:Option Int}(hF:v.length<F)(hv:v.length≤1152921504606846976):B5 (Ck (λσ=>CW v σ) F 0) (BU λ_=>K)=bif v.any DQ then some 3 else K:=by
 obtain⟨o,h1,h2⟩:=EZ (body:=λσ=>CW v σ) (λx=>0≤x∧x≤(v.length:Int)∧(v.take x.toNat).any DQ=false) (λx=>v.length-x.toNat)
  (λo=>BU (λ_=>K) o=bif v.any DQ then some 3 else K) (λx ⟨h0,hl,ha⟩=>by
   by_cases hx:x<(v.length:Int)
   ·obtain⟨c,hc⟩:∃c,v[x.toNat]? =some c:=⟨v[x.toNat]'(by omega),SK (by omega)⟩
    have hat:Ae v x=c:=by simp[Ae,hc]
    have hb:CW v x=Bq (DQ c) (some (.out (.ret 3))) (some (.next (x+1))):=by
     unfold CW;rw[AR (SS hx),Bs h0 hx,hat,AT (by omega) (by omega)];rfl
    cases hq:DQ c with
    | true=>
     refine .inr ⟨.ret 3,hb.trans (AR hq),?_⟩;have:v.any DQ=true:=List.any_eq_true.2 ⟨c,SP hc,hq⟩;rw[J8,this];rfl
    | false=>
     have a3:(v.take (x+1).toNat).any DQ=false:=by
      rw[show(x+1).toNat=x.toNat+1 from by omega,List.take_add_one,hc,List.any_append,ha];simp[hq]
     exact .inl ⟨x+1,hb.trans (AE hq),⟨by omega,by omega,a3⟩,by omega⟩
   ·refine .inr ⟨.go (),by unfold CW;rw[AE (SL hx)],?_⟩;rw[show x.toNat=v.length from by omega,List.take_length] at ha;rw[GA,ha];rfl) F 0 ⟨Tc 0,by omega,by simp⟩ (by simpa using hF)
 rw[Bf h1,h2]
theorem Lp:decide (Gi v 0=v.length)=(whole v).isSome:=by
 unfold Gi whole;rw[show v.drop (0:Int).toNat=v from rfl]
 cases hp:EJ v with
 | none=>simp
 | some q=>
  obtain⟨f,ys⟩:=q;have h1:=(G9 hp).1;have hl:v.length=f.flat.length+ys.length:=by rw[h1];simp
  cases ys with
  | nil=>simp at hl ⊢;omega
  | cons c r=>simp at hl ⊢;omega
theorem Iz (hA:In M v)(hM:M≤1000000){F:Nat}(hF:4*M+6<F):Gt F v=some (DG v):=by
 have hvM:=hA.hv;unfold Gt;rw[MH (hA.rf (ST M)) (λc hc=>(hA.hc c hc).2.2) (by omega),Bf rfl,Lp];unfold DG
 cases hwh:whole v with
 | none=>rfl
 | some f=>
  obtain⟨h1,h2,h3⟩:=Jy hwh;rw[AE (p:=!(some f).isSome) rfl]
  change _=some (Nc f)
  have hl:v.length=f.flat.length:=by rw[h1]
  have hc:∀c∈f.flat,c.fStr.length≤M∧BO .i64 c.fInt=true∧c.fN≤9223372036854775807:=λc hc=>hA.hc c (by rw[h1];exact hc);have hb:=KK hM h2 (by omega) hc;have htl:((f.txt true).length:Int)=f.byt:=by rw[HB f false none true h2,Ny h3];simp
  have hd0:v.drop (0:Int).toNat=f.flat++[]:=by rw[Tz];exact h1
  rw[Oe (by omega) (by omega)];unfold Nc EG;rw[MG hA (Tc 0) h3 h2 hd0 (by omega),Cm (by simp[imp]),Od (by omega) (by omega)];unfold EF;rw[Ph hA (Tc 0) h3 h2 hd0 (by omega) (by omega),Bf rfl];rw[HN,hl,← h1];have a1:decide ((200:Int)<(v.length:Int))=decide (200<v.length):=by rw[SZ];simp;omega
  have a2:decide ((8:Int)<(f.dep:Int))=decide (8<f.dep):=by rw[SZ];simp;omega
  have a3:decide ((4000:Int)<((f.txt true).length:Int))=decide (4000<(f.txt true).length):=by rw[SZ];simp;omega
  rw[a1,a2,a3]
  cases v.any Et<;>cases v.any DQ<;>cases decide (200<v.length)<;>cases decide (8<f.dep)<;>cases decide (4000<(f.txt true).length)<;>rfl
end
def GB (c:Ac):Bool:=BO .i64 c.fKind&&BO .i64 c.fInt&&Q3 c.fStr&&BO .i64 c.fN
theorem O8 {f:Fo}(h:Nc f=0):f.flat.any Et=false∧f.flat.any DQ=false∧f.flat.length≤200∧f.dep≤8∧(f.txt true).length≤4000:=by
 unfold Nc at h
 cases h1:f.flat.any Et with
 | true=>rw[h1] at h;cases h
 | false=>
  rw[h1] at h
  cases h2:(f.flat.any DQ||(decide (200<f.flat.length)||(decide (8<f.dep)||decide (4000<(f.txt true).length)))) with
  | true=>rw[h2] at h;cases h
  | false=>
   simp only[Tr,SJ] at h2;exact⟨rfl,h2.1,by omega,by omega,by omega⟩
theorem KU {α:Type}{a b:List α}{n:Nat}(h:a.take n=b.take n)(h1:a.length≤n)(h2:b.length≤n):a=b:=by
 rw[List.take_of_length_le h1,List.take_of_length_le h2] at h;exact h
theorem IN {F:Nat}{a b:List Ac}(hF:a.length<F)(hv:a.length≤1152921504606846976):DU F a b=some (decide (a=b)):=by
 unfold DU
 by_cases hl:(a.length:Int)=(b.length:Int)
 ·rw[AE (by simp[hl])];obtain⟨o,h1,h2⟩:=EZ (body:=λσ=>CI a b σ) (λx=>0≤x∧x≤(a.length:Int)∧a.take x.toNat=b.take x.toNat) (λx=>a.length-x.toNat) (λo=>BU (λ_=>Ek) o=some (decide (a=b))) (λx ⟨h0,hx,ht⟩=>by
   by_cases h:x<(a.length:Int)
   ·have hb:x<(b.length:Int):=by omega
    obtain⟨c,hc⟩:∃c,a[x.toNat]? =some c:=⟨a[x.toNat]'(by omega),SK (by omega)⟩
    obtain⟨d,hd⟩:∃d,b[x.toNat]? =some d:=⟨b[x.toNat]'(by omega),SK (by omega)⟩
    have ac:Ae a x=c:=by simp[Ae,hc]
    have bd:Ae b x=d:=by simp[Ae,hd]
    have heq:(decide (c.fKind=d.fKind)&&decide (c.fInt=d.fInt)&&decide (c.fStr=d.fStr)&&decide (c.fN=d.fN))=decide (c=d):=by
     cases c;cases d
     rw[SZ];simp only[Ac.mk.injEq,SM,SI];constructor
     ·rintro⟨⟨⟨h1,h2⟩,h3⟩,h4⟩;exact⟨h1,h2,h3,h4⟩
     ·rintro⟨h1,h2,h3,h4⟩;exact⟨⟨⟨h1,h2⟩,h3⟩,h4⟩
    have hb1:CI a b x=Bq (!decide (c=d)) (some (.out (.ret false))) (some (.next (x+1))):=by
     unfold CI;rw[AR (SS h),Bs h0 h,Bs h0 hb,ac,bd,heq,AT (by omega) (by omega)]
    by_cases hcd:c=d
    ·refine .inl ⟨x+1,hb1.trans (by rw[AE (by simp[hcd])]),⟨by omega,by omega,?_⟩,by omega⟩;rw[show(x+1).toNat=x.toNat+1 from by omega,List.take_add_one,List.take_add_one,ht,hc,hd,hcd]
    ·refine .inr ⟨.ret false,hb1.trans (by rw[AR (by simp[hcd])]),?_⟩;rw[J8,SL];intro e;subst e;rw[hc] at hd;cases hd;exact hcd rfl
   ·refine .inr ⟨.go (),by unfold CI;rw[AE (SL h)],?_⟩;rw[GA,SS (KU ht (by omega) (by omega))];rfl) F 0 ⟨Tc 0,by omega,rfl⟩ (by show a.length-0<F;omega)
  rw[Bf h1,h2]
 ·rw[AR (by simp[hl]),SL];intro e;subst e;exact hl rfl
theorem Iw {F:Nat}{a b:List Ac}(hF:a.length<F)(hv:a.length≤1152921504606846976):DB F a b=some (decide (a=b)):=(show DB F a b=DU F a b from rfl).trans (IN hF hv)
theorem GV {α:Type}[Inhabited α]{l:List α}{i:Nat}(h:i<l.length):Ae l (i:Int)=l[i]:=by simp[Ae,h]
def E5 {α:Type}(f:α→Int):List α→Int
 | []=>0
 | x::r=>if f x=0 then E5 f r else f x
theorem Oy {α U:Type}{l:List α}{f:α→Int}{body:Int→Option (Stp Int (Out Int U))}{u:U}(hb:∀(i:Nat) (h:i<l.length),body (i:Int)=Bq (!decide (f l[i]=0)) (some (.out (.ret (f l[i])))) (some (.next ((i:Int)+1))))(he:body (l.length:Int)=some (.out (.go u))) :
  ∀(d n i:Nat),i+d=l.length→d<n→Ck body n (i:Int)=some (if E5 f (l.drop i)=0 then .go u else .ret (E5 f (l.drop i))):=by
 intro d
 induction d with
 | zero=>
  intro n i h hn;obtain⟨n,rfl⟩:∃m,n=m+1:=⟨n-1,by omega⟩
  obtain rfl:i=l.length:=by omega
  rw[Ck,he,List.drop_length];rfl
 | succ d ih=>
  intro n i h hn;obtain⟨n,rfl⟩:∃m,n=m+1:=⟨n-1,by omega⟩
  have hi:i<l.length:=by omega
  rw[Ck,hb i hi,List.drop_eq_getElem_cons hi]
  by_cases hf:f l[i]=0
  ·rw[AE (by simp[hf])];have:=ih n (i+1) (by omega) (by omega);rw[E5,Td hf];exact this
  ·rw[AR (by simp[hf]),E5,SX hf,SX hf]
theorem JG {α U:Type}{l:List α}{f:α→Int}{body:Int→Option (Stp Int (Out Int U))}{u:U}{F:Nat}(hF:l.length<F)(hb:∀(i:Nat) (h:i<l.length),body (i:Int)=Bq (!decide (f l[i]=0)) (some (.out (.ret (f l[i])))) (some (.next ((i:Int)+1))))(he:body (l.length:Int)=some (.out (.go u))) :
  B5 (Ck body F 0) (BU λ_=>some 0)=some (E5 f l):=by
 have h:=Oy hb he l.length F 0 (by omega) hF;have h':Ck body F 0=_:=h;rw[List.drop_zero] at h';rw[Bf h']
 by_cases h0:E5 f l=0
 ·rw[Td h0,h0];rfl
 ·rw[SX h0];rfl
theorem Q9 {α U:Type}{l:List α}{body:Int→Option (Stp Int (Out Bool U))}{bad:α→Bool}{u:U}(hb:∀(i:Nat) (h:i<l.length),body (i:Int)=Bq (bad l[i]) (some (.out (.ret false))) (some (.next ((i:Int)+1))))(he:body (l.length:Int)=some (.out (.go u))) :
  ∀(d n i:Nat),i+d=l.length→d<n→Ck body n (i:Int)=some (if (l.drop i).any bad=true then .ret false else .go u):=by
 intro d
 induction d with
 | zero=>
  intro n i h hn;obtain⟨n,rfl⟩:∃m,n=m+1:=⟨n-1,by omega⟩
  obtain rfl:i=l.length:=by omega
  rw[Ck,he,List.drop_length];rfl
 | succ d ih=>
  intro n i h hn;obtain⟨n,rfl⟩:∃m,n=m+1:=⟨n-1,by omega⟩
  have hi:i<l.length:=by omega
  rw[Ck,hb i hi,List.drop_eq_getElem_cons hi,List.any_cons]
  cases hf:bad l[i] with
  | false=>rw[AE rfl,Tk];exact ih n (i+1) (by omega) (by omega)
  | true=>rw[AR rfl,T1,Td rfl]
theorem HZ {α U:Type}{l:List α}{body:Int→Option (Stp Int (Out Bool U))}{bad:α→Bool}{u:U}{F:Nat}(hF:l.length<F)(hb:∀(i:Nat) (h:i<l.length),body (i:Int)=Bq (bad l[i]) (some (.out (.ret false))) (some (.next ((i:Int)+1))))(he:body (l.length:Int)=some (.out (.go u)))(k:U→Option Bool) :
  B5 (Ck body F 0) (BU k)=bif l.any bad then some false else k u:=by
 have h:=Q9 hb he l.length F 0 (by omega) hF;have h':Ck body F 0=_:=h;rw[List.drop_zero] at h';rw[Bf h']
 cases l.any bad<;>rfl
def Ii (v:List Ac):Bool:=decide (100<v.length)||v.any λc=>decide (250<c.fStr.length)
theorem EL {α:Type}(n:Nat)(f:List α):decide (((n:Nat):Int)<(f.length:Int))=decide (n<f.length):=by rw[SZ];simp
theorem K9 {F:Nat}(hF:100<F)(v:List Ac):Eo F v=some (!Ii v):=by
 unfold Eo Ii;rw[show decide ((100:Int)<(v.length:Int))=decide (100<v.length) from EL 100 v]
 cases hl:decide (100<v.length) with
 | true=>rfl
 | false=>
  have hl' : ¬ 100<v.length:=of_decide_eq_false hl;rw[AE rfl,HZ (l:=v) (bad:=λc=>decide (250<c.fStr.length)) (u:=()) (by omega) (λi h=>by
   unfold Eh;rw[AR (SS (by omega)),Bs (by omega) (by omega),GV h,AT (by omega) (by omega),show decide ((250:Int)<((v[i]).fStr.length:Int))=decide (250<(v[i]).fStr.length) from EL 250 _]) (by unfold Eh;rw[AE (SL (by omega))])]
  cases v.any _<;>rfl
def Hv (op:A3):Bool:=(decide (100<op.fEntity.length)||(decide (100<op.fID.length)||(decide (100<op.fOp.length)||decide (4<op.fArgs.length))))||op.fArgs.any Ii
theorem O1 {F:Nat}(hF:100<F)(op:A3):G1 F op=some (!Hv op):=by
 unfold G1 Hv;have hk:((decide (100<(op.fEntity.length:Int)))||((decide (100<(op.fID.length:Int)))||((decide (100<(op.fOp.length:Int)))||(decide (4<(op.fArgs.length:Int))))))=(decide (100<op.fEntity.length)||(decide (100<op.fID.length)||(decide (100<op.fOp.length)||decide (4<op.fArgs.length)))):=by
  rw[← EL 100 op.fEntity,← EL 100 op.fID,← EL 100 op.fOp,← EL 4 op.fArgs];rfl
 rw[hk]
 cases hb:(decide (100<op.fEntity.length)||(decide (100<op.fID.length)||(decide (100<op.fOp.length)||decide (4<op.fArgs.length)))) with
 | true=>rfl
 | false=>
  simp only[Tr,SJ] at hb;rw[AE rfl,HZ (l:=op.fArgs) (bad:=Ii) (u:=()) (by omega) (λi h=>by
   unfold Eg;rw[AR (SS (by omega)),Bs (by omega) (by omega),GV h,K9 hF,Bf rfl,Bool.not_not,AT (by omega) (by omega)]) (by unfold Eg;rw[AE (SL (by omega))])]
  cases op.fArgs.any Ii<;>rfl
theorem In.ofN {v:List Ac}(hs:Ii v=false)(hc:v.all GB=true):In 250 v:=by
 unfold Ii at hs;simp only[Tr,SJ,List.any_eq_false,Tm,SI] at hs hc;refine⟨by decide,by omega,λc h=>?_⟩;have h1:=hs.2 c h;have h2:=hc c h;unfold GB at h2;simp only[SM] at h2;exact⟨by omega,h2.1.1.2,(Ga h2.2).2⟩
structure Rh (M:Nat) (op:A3):Prop where
 e:op.fEntity.length≤1000000
 i:op.fID.length≤1000000
 o:op.fOp.length≤1000000
 n:op.fArgs.length≤1000000
 a:∀v∈op.fArgs,In M v
theorem Rh.of {op:A3}(hs:Hv op=false)(hc:op.fArgs.all (λv=>v.all GB)=true):Rh 250 op:=by
 unfold Hv at hs;simp only[Tr,SJ,List.any_eq_false] at hs;exact⟨by omega,by omega,by omega,by omega,λv hv=>In.ofN (by have:=hs.2 v hv;simpa using this) (List.all_eq_true.1 hc v hv)⟩
abbrev HF:An:=[114,101,97,100]
abbrev D5:An:=[119,114,105,116,101]
abbrev IZ:An:=[97,100,100]
abbrev It:An:=[99,97,115]
def Dc (op:An):Int:=if op=HF then 0 else if op=D5 then 1 else if op=IZ then 1 else if op=It then 2 else -1
theorem OD:AY (AY (AY (AY ([]:List (An×Int)) HF 0) D5 1) IZ 1) It 2=[(IZ,1),(It,2),(HF,0),(D5,1)]:=by decide
theorem Or (op:An):∃n,JE op=some (n,decide (0≤Dc op))∧(0≤Dc op→n=Dc op):=by
 unfold JE;rw[show AY (AY (AY (AY ([]:List (An×Int)) ([114,101,97,100]:An) 0) ([119,114,105,116,101]:An) 1) ([97,100,100]:An) 1) ([99,97,115]:An) 2=[(IZ,1),(It,2),(HF,0),(D5,1)] from OD];unfold A2 BG Dc
 by_cases h1:op=HF
 ·subst h1;exact⟨0,rfl,λ_=>rfl⟩
 ·by_cases h2:op=D5
  ·subst h2;exact⟨1,rfl,λ_=>rfl⟩
  ·by_cases h3:op=IZ
   ·subst h3;exact⟨1,rfl,λ_=>rfl⟩
   ·by_cases h4:op=It
    ·subst h4;exact⟨2,rfl,λ_=>rfl⟩
    ·have hn:D1 [(IZ,(1:Int)),(It,2),(HF,0),(D5,1)] op=none:=by
      simp only[D1];rw[SL (λe=>h3 e.symm),SL (λe=>h4 e.symm),SL (λe=>h1 e.symm),SL (λe=>h2 e.symm)];rfl
     rw[hn,SX h1,SX h2,SX h3,SX h4];exact⟨0,rfl,λe=>by omega⟩
theorem MK (op:An):HL op=some (Dc op):=by
 unfold HL Dc
 by_cases h1:op=HF
 ·rw[AR (SS h1),Td h1]
 ·rw[AE (SL h1),SX h1]
  by_cases h2:op=D5
  ·rw[AR (SS h2),Td h2]
  ·rw[AE (SL h2),SX h2]
   by_cases h3:op=IZ
   ·rw[AR (SS h3),Td h3]
   ·rw[AE (SL h3),SX h3]
    by_cases h4:op=It
    ·rw[AR (SS h4),Td h4]
    ·rw[AE (SL h4),SX h4]
def G2 (op:A3):Int:=if (Gp op.fEntity&&(Gp op.fID&&decide (0≤Dc op.fOp)))=false then 4 else if (op.fArgs.length:Int)=Dc op.fOp then E5 DG op.fArgs else 7
theorem Oq {M F:Nat}{op:A3}(hA:Rh M op)(hM:M≤1000000)(hF:M<F)(hF2:op.fArgs.length<F):I8 F op=some (G2 op):=by
 obtain⟨n,h1,h2⟩:=Or op.fOp;unfold I8 G2;rw[h1,Bf rfl];simp only;have hk:((!(Gp op.fEntity))||((!(Gp op.fID))||(!decide (0≤Dc op.fOp)))) = !(Gp op.fEntity&&(Gp op.fID&&decide (0≤Dc op.fOp))):=by
  cases Gp op.fEntity<;>cases Gp op.fID<;>cases decide (0≤Dc op.fOp)<;>rfl
 rw[hk]
 cases hb:(Gp op.fEntity&&(Gp op.fID&&decide (0≤Dc op.fOp))) with
 | false=>rfl
 | true=>
  have h0:0≤Dc op.fOp:=by
   simp only[SM,SI] at hb;exact hb.2.2
  rw[AE (by rfl),h2 h0,SX (by simp)]
  by_cases hl:(op.fArgs.length:Int)=Dc op.fOp
  ·rw[Td hl,AE (by simp[hl])];exact JG (l:=op.fArgs) (f:=DG) (u:=()) hF2 (λi h=>by
    unfold Ef;rw[AR (SS (by omega)),Bs (by omega) (by omega),GV h,Kr (hA.a _ (List.getElem_mem h)) hM hF,Bf rfl,AT (by omega) (by have:=hA.n;omega)]) (by unfold Ef;rw[AE (SL (by omega))])
  ·rw[SX hl,AR (by simp[hl])]
theorem Q0:∀a b d e f g h i j:Bool,(B5 (some a) λha=>Bq ha (some true) (Bq d (Bq e (some true) (B5 (some b) λhb=>Bq hb (some true) (Bq f (some true) (Bq g (some true) (Bq h (some true) (Bq i (some true) (some j))))))) (B5 (some b) λhd=>Bq hd (some true) (Bq f (some true) (Bq g (some true) (Bq h (some true) (Bq i (some true) (some j))))))))=some (a||b||(d&&e)||f||g||h||i||j):=by decide
theorem Na (c:Int):Lo c=some (Cp c):=Q0 (decide (97≤c)&&decide (c≤122)) (decide (48≤c)&&decide (c≤57)) (decide (65≤c)) (decide (c≤90)) (decide (c=45)) (decide (c=95)) (decide (c=46)) (decide (c=58)) (decide (c=47))
theorem Ij:∀(s:An) (k:Nat),BE ID k s=s.all λu=>Cp u.toNat
 | [],k=>rfl
 | u::r,k=>by rw[BE,Ij r (k+1),List.all_cons];rfl
theorem Mt {F:Nat}(hF:64<F)(s:An):Ht F s=some (Gp s):=by
 unfold Ht Gp;rw[Ij]
 by_cases hl:(s.length:Int)<1∨(64:Int)<(s.length:Int)
 ·rw[AR (by simpa using hl)];have:(decide (1≤s.length)&&decide (s.length≤64))=false:=by
   simp only[Bool.and_eq_false_iff,SJ];omega
  rw[Bool.and_assoc,this,Tx]
 ·rw[AE (by simpa using hl)];have hb:(decide (1≤s.length)&&decide (s.length≤64))=true:=by
   simp only[SM,SI];omega
  rw[Bool.and_assoc,hb,Tw,HZ (l:=s) (bad:=λu=>!Cp u.toNat) (u:=()) (by omega) (λi h=>by
   unfold GS;rw[AR (SS (by omega)),Bs (by omega) (by omega),RA (SK h),Na,Bf rfl,AT (by omega) (by omega)]) (by unfold GS;rw[AE (SL (by omega))])]
  have:(s.any λu=>!Cp u.toNat) = !(s.all λu=>Cp u.toNat):=by rw[List.not_all_eq_any_not]
  rw[this]
  cases s.all λu=>Cp u.toNat<;>rfl
theorem LU {M F:Nat}{op:A3}(hA:Rh M op)(hM:M≤1000000)(hF:4*M+70<F)(hF2:op.fArgs.length<F):Gs F op=some (G2 op):=by
 unfold Gs G2;rw[MK,Bf rfl,Mt (by omega),Mt (by omega),Option.isSome_some,Option.isSome_some,Cm rfl,Cm (by unfold imp;simp),HN,HN];have hk:((!(Gp op.fEntity))||((!(Gp op.fID))||(decide (Dc op.fOp<0)))) = !(Gp op.fEntity&&(Gp op.fID&&decide (0≤Dc op.fOp))):=by
  have:decide (Dc op.fOp<0) = !decide (0≤Dc op.fOp):=by rw[SZ];simp
  rw[this]
  cases Gp op.fEntity<;>cases Gp op.fID<;>cases decide (0≤Dc op.fOp)<;>rfl
 rw[hk]
 cases hb:(Gp op.fEntity&&(Gp op.fID&&decide (0≤Dc op.fOp))) with
 | false=>rfl
 | true=>
  rw[AE (by rfl),SX (by simp)]
  by_cases hl:(op.fArgs.length:Int)=Dc op.fOp
  ·rw[Td hl,AE (by simp[hl])];exact JG (l:=op.fArgs) (f:=DG) (u:=()) hF2 (λi h=>by
    unfold Dp;rw[AR (SS (by omega)),Bs (by omega) (by omega),GV h,Iz (hA.a _ (List.getElem_mem h)) hM (by omega),Bf rfl,AT (by omega) (by have:=hA.n;omega)]) (by unfold Dp;rw[AE (SL (by omega))])
  ·rw[SX hl,AR (by simp[hl])]
theorem QF {v:List Ac}(h:DG v=0):∃c r,v=c::r∧pl c=true∧Et c=false:=by
 unfold DG at h
 cases hw:whole v with
 | none=>rw[hw] at h;simp at h
 | some f=>
  rw[hw] at h;obtain⟨h1,h2,h3⟩:=Jy hw;have ho:=(O8 h).1
  cases f with
  | nil=>cases h3
  | cell k c r=>
   cases k with
   | some _=>cases h3
   | none=>
    refine⟨c,r.flat,h1,?_,?_⟩
    ·simp only[Fo.wf,SM] at h2;exact h2.1.1.2
    ·simp only[Fo.flat,By,List.nil_append,List.any_cons,Tr] at ho;exact ho.1
  | node k c kids r=>
   cases k with
   | some _=>cases h3
   | none=>
    refine⟨c,kids.flat++r.flat,h1,?_,?_⟩
    ·simp only[Fo.wf,SM] at h2;exact h2.1.1.1.1.2
    ·simp only[Fo.flat,By,List.nil_append,List.any_cons,Tr] at ho;exact ho.1
def DW (n:Int):Ac:=⟨3,n,[],0⟩
def DP (n:Int):Bool:=decide ((-1000000000000)≤n)&&decide (n≤1000000000000)
theorem PR {n:Int}(h0 : -9223372036854775808≤n)(h1:n≤9223372036854775807):DG [DW n]=if DP n=true then 0 else 2:=by
 have hw:whole [DW n]=some (.cell none (DW n) .nil):=OU (f:=.cell none (DW n) .nil) rfl (by simp[Fo.wf,BY,pl,DW]);unfold DG;rw[hw];simp only;unfold Nc;have hf:(Fo.cell none (DW n) .nil).flat=[DW n]:=rfl;have ho:[DW n].any Et = !DP n:=by simp[Et,DW,DP]
 have ht:((Fo.cell none (DW n) .nil).txt true).length≤21:=by
  have:(Fo.cell none (DW n) .nil).txt true=Lib.itoa n:=by simp[Fo.txt,E1,Kj,Ib,DW]
  rw[this];exact PG n h0 h1
 rw[hf,ho];have hl:[DW n].any DQ=false:=by simp[DQ,DW]
 have hd:(Fo.cell none (DW n) .nil).dep=1:=rfl;rw[hl,hd]
 cases hk:DP n with
 | false=>rfl
 | true=>
  rw[SL (show ¬ 4000<((Fo.cell none (DW n) .nil).txt true).length from by omega)];simp
theorem Gc {v:List Ac}(h:v.length≤1000000):Cy v=some v:=by
 unfold Cy;rw[Cm (show OJ 40 _=true from SS (by simp;omega))];rfl
def RL:List Ac:=[⟨1,0,[],0⟩]
def Rf (b:Bool):List Ac:=[⟨2,if b then 1 else 0,[],0⟩]
def Hz (v:List Ac):Int:=(Ae v 0).fKind
def KA (v:List Ac):Int:=(Ae v 0).fInt
def OE (state n:List Ac):List Ac×A6:=
 if (Hz state≠1∧Hz state≠3)∨Hz n≠3 then(state,⟨7,[]⟩) else if DP (KA state+KA n)=true then([DW (KA state+KA n)],⟨0,[DW (KA state+KA n)]⟩) else(state,⟨8,[]⟩)
def PX (state:List Ac)(op:A3):List Ac×A6:=
 if op.fOp=D5 then(Ae op.fArgs 0,⟨0,RL⟩) else if op.fOp=IZ then OE state (Ae op.fArgs 0)
 else if op.fOp=It then(if state=Ae op.fArgs 0 then(Ae op.fArgs 1,⟨0,Rf true⟩) else(state,⟨0,Rf false⟩)) else(state,⟨0,state⟩)
def R9 (state:List Ac)(op:A3):List Ac×A6×Int:=
 if G2 op≠0 then([],⟨0,[]⟩,G2 op) else if DG state≠0 then([],⟨0,[]⟩,DG state) else((PX state op).1,(PX state op).2,0)
theorem Id {v:List Ac}(h:DG v=0):0<v.length∧(Hz v=1→KA v=0)∧(Hz v=3→-1000000000000≤KA v∧KA v≤1000000000000):=by
 obtain⟨c,r,rfl,hp,ho⟩:=QF h;refine⟨by simp,λhk=>?_,λhk=>?_⟩
 ·have hk':c.fKind=1:=hk;have:c.fInt=0:=by
   unfold pl at hp;rw[SS hk',SW] at hp;simp only[SM,SI] at hp;exact hp.1
  exact this
 ·have hk':c.fKind=3:=hk;unfold Et at ho;rw[SS hk',Ti,Bool.not_eq_false',SM,SI,SI] at ho;exact ho
theorem K3 {F:Nat}(hF:10<F){a b:Int}(ha : -1000000000000≤a∧a≤1000000000000)(hb : -1000000000000≤b∧b≤1000000000000):I6 F a b=some (if DP (a+b)=true then(a+b,0) else(0,8)):=by
 have hv:Gv F [a,b]=some true:=by
  unfold Gv;have hbad:([a,b].any λn=>!DP n)=false:=by
   simp[DP];omega
  rw[HZ (l:=[a,b]) (bad:=λn=>!DP n) (u:=()) (by simp;omega) (λi h=>by
   unfold Dr Bl;rw[AR (SS (by omega)),Bs (by omega) (by omega),GV h,Bf rfl,AT (by omega) (by simp only[SO,Tp] at h;omega)];rfl) (by unfold Dr;rw[AE (SL (by omega))]),hbad]
  rfl
 unfold I6;rw[hv,Bf rfl,AE (by rfl),AT (by omega) (by omega)];unfold GF Bl;rw[Bf rfl];have:(decide (-1000000000000≤a+b)&&decide (a+b≤1000000000000))=DP (a+b):=rfl;rw[this]
 cases DP (a+b)<;>rfl
theorem JS {op:A3}(h:G2 op=0):Gp op.fEntity=true∧Gp op.fID=true∧0≤Dc op.fOp∧(op.fArgs.length:Int)=Dc op.fOp∧∀v∈op.fArgs,DG v=0:=by
 unfold G2 at h
 split at h
 ·simp at h
 ·rename_i h1
  rw[Bool.not_eq_false] at h1;simp only[SM,SI] at h1
  split at h
  ·rename_i h2
   refine⟨h1.1,h1.2.1,h1.2.2,h2,?_⟩;have key:∀l:List (List Ac),E5 DG l=0→∀v∈l,DG v=0:=by
    intro l
    induction l with
    | nil=>intro _ v hv;cases hv
    | cons x r ih=>
     intro hf v hv;rw[E5] at hf
     by_cases hx:DG x=0
     ·rw[Td hx] at hf;rcases List.mem_cons.1 hv with rfl | hv
      ·exact hx
      ·exact ih hf v hv
     ·rw[SX hx] at hf;exact absurd hf hx
   exact key _ h
  ·simp at h
theorem NF {l:List (List Ac)}{i:Nat}(h:i<l.length):Ae l (i:Int)∈l:=by rw[GV h];exact List.getElem_mem h
theorem Ot {F:Nat}(hF:10<F){state:List Ac}{args:List (List Ac)}(hs:DG state=0)(hl:args.length=1)(ha:DG (Ae args 0)=0)(hsl:state.length≤1000000):JF F state args=some (OE state (Ae args 0)):=by
 obtain⟨s1,s2,s3⟩:=Id hs;obtain⟨a1,a2,a3⟩:=Id ha;unfold JF OE;rw[Bs (by omega) (by omega)];have hk:(Ae state 0).fKind=Hz state:=rfl;have hk2:(Ae (Ae args 0) 0).fKind=Hz (Ae args 0):=rfl;have hi:(Ae state 0).fInt=KA state:=rfl;have hi2:(Ae (Ae args 0) 0).fInt=KA (Ae args 0):=rfl;rw[hk,hk2,hi,hi2];have hcl:∀n:Int,Cy [Ac.mk 3 n [] 0]=some [DW n]:=λn=>Gc (by simp)
 by_cases h3:Hz state=3
 ·have hsi:=s3 h3;rw[AR (SS h3),Bs (by omega) (by omega),Bs (by omega) (by omega)]
  by_cases hn:Hz (Ae args 0)=3
  ·have hai:=a3 hn;have hne : ¬ ((Hz state≠1∧Hz state≠3)∨Hz (Ae args 0)≠3):=by omega
   rw[AE (by simp[hn]),K3 hF hsi hai,Bf rfl,SX hne]
   by_cases ho:DP (KA state+KA (Ae args 0))=true
   ·rw[Td ho,Td ho,AE (by simp)];simp only;rw[hcl,Bf rfl];rfl
   ·rw[SX ho,SX ho,AR (by simp)]
  ·rw[AR (by simp[hn]),Td (.inr hn)]
 ·rw[AE (SL h3)]
  by_cases h1:Hz state=1
  ·have hsi:=s2 h1;rw[AR (SS h1),Bs (by omega) (by omega),Bs (by omega) (by omega)]
   by_cases hn:Hz (Ae args 0)=3
   ·have hai:=a3 hn;have hne : ¬ ((Hz state≠1∧Hz state≠3)∨Hz (Ae args 0)≠3):=by omega
    rw[AE (by simp[hn]),K3 hF (by omega) hai,Bf rfl,SX hne,hsi]
    by_cases ho:DP (0+KA (Ae args 0))=true
    ·rw[Td ho,Td ho,AE (by simp)];simp only;rw[hcl,Bf rfl];rfl
    ·rw[SX ho,SX ho,AR (by simp)]
   ·rw[AR (by simp[hn]),Td (.inr hn)]
  ·rw[AE (SL h1),Td (.inl ⟨h1,h3⟩)]
theorem Qx {F:Nat}(hF:100<F){n:Int}(h0 : -9223372036854775808≤n)(h1:n≤9223372036854775807):Pm F n=some (if DP n=true then([DW n],0) else([],2)):=by
 unfold Pm HK;have hA:In 10 [DW n]:=⟨by decide,by simp,λc hc=>by
  simp at hc;subst hc;exact⟨by simp[DW],JP h0 h1,by simp[DW]⟩⟩
 have hc:=Iz hA (by decide) (F:=F) (by omega);have hc':Gt F [Ac.mk 3 n [] 0]=some (DG [DW n]):=hc;rw[hc',Bf rfl,PR h0 h1]
 cases DP n<;>rfl
theorem Oh {F:Nat}(hF:100<F){state n:List Ac}(hs:DG state=0)(ha:DG n=0):I0 F state n=some (OE state n):=by
 obtain⟨s1,s2,s3⟩:=Id hs;obtain⟨a1,a2,a3⟩:=Id ha;unfold I0 OE;have hk:(Ae state 0).fKind=Hz state:=rfl;have hk2:(Ae n 0).fKind=Hz n:=rfl;have hi:(Ae state 0).fInt=KA state:=rfl;have hi2:(Ae n 0).fInt=KA n:=rfl;rw[hk,hk2,hi,hi2,PJ (by omega) (by omega),PJ (by omega) (by omega),Cm rfl,Cm (by unfold imp;simp),Cm (by unfold imp;simp)]
 by_cases hc:(Hz state≠1∧Hz state≠3)∨Hz n≠3
 ·rw[Td hc,AR (by
   by_cases h1:Hz state=1
   ·rw[SS h1,SY,SR];have:Hz n≠3:=by omega
    simp[this]
   ·rw[SL h1,Tt,SW]
    by_cases h3:Hz state=3
    ·have:Hz n≠3:=by omega
     simp[this]
    ·simp[h3])]
 ·rw[SX hc,AE (by
   have hn:Hz n=3:=by omega
   by_cases h1:Hz state=1
   ·rw[SS h1,SY,SR,hn];rfl
   ·rw[SL h1,Tt,SW];have h3:Hz state=3:=by omega
    rw[h3,hn];rfl),Cm rfl]
  have hb : -1000000000000≤KA state∧KA state≤1000000000000:=by
   by_cases h1:Hz state=1
   ·have:=s2 h1;omega
   ·exact s3 (by omega)
  have hb2:=a3 (by omega);rw[AT (by omega) (by omega),Qx hF (by omega) (by omega),Bf rfl]
  cases DP (KA state+KA n)<;>rfl
theorem Sm {l:List (List Ac)}(h:0<l.length):Ae l 0∈l:=NF (i:=0) h
theorem SA {l:List (List Ac)}(h:1<l.length):Ae l 1∈l:=NF (i:=1) h
theorem Ro {F:Nat}{a b:List Ac}(hF:a.length<F)(hv:a.length≤1000000):Ko F a b=some (decide (a=b)):=by
 have:Ko F a b=DU F a b:=by
  unfold Ko
  cases DU F a b<;>rfl
 rw[this];exact IN hF (by omega)
theorem I3 {op:An}(h:0≤Dc op):op=HF∨op=D5∨op=IZ∨op=It:=by
 unfold Dc at h
 by_cases h1:op=HF
 ·exact .inl h1
 ·by_cases h2:op=D5
  ·exact .inr (.inl h2)
  ·by_cases h3:op=IZ
   ·exact .inr (.inr (.inl h3))
   ·by_cases h4:op=It
    ·exact .inr (.inr (.inr h4))
    ·rw[SX h1,SX h2,SX h3,SX h4] at h;omega
theorem Rx {M F:Nat}{state:List Ac}{op:A3}(hS:In M state)(hA:Rh M op)(hM:M≤1000000)(hF:4*M+100<F)(hF2:op.fArgs.length<F):RG F state op=some (R9 state op):=by
  have hsl:=hS.hv;unfold RG R9;rw[Oq hA hM (by omega) hF2,Bf rfl]
  by_cases he:G2 op=0
  · rw[AE (by simp[he]),SX (by simp[he]),Kr hS hM (by omega),Bf rfl]
    by_cases hs:DG state=0
    · rw[AE (by simp[hs]),SX (by simp[hs])]
      obtain⟨_,_,e0,el,ev⟩:=JS he;have hcs:Cy state=some state:=Gc (by omega);unfold PX;rcases I3 e0 with h | h | h | h
      · rw[h,AR (by decide),hcs,Bf rfl,SX (by decide),SX (by decide),SX (by decide)]
        unfold GH;rw[hcs];rfl
      · have hl:op.fArgs.length=1:=by
                                            rw[h] at el;have:Dc D5=1:=by decide
                                            omega
        have hcl:Cy (Ae op.fArgs 0)=some (Ae op.fArgs 0):=Gc (by have:=(hA.a _ (Sm (by omega))).hv;omega);rw[h,AE (by decide),AR (by decide),hcs,Bf rfl,Td rfl];unfold EY;rw[Bs (by omega) (by omega),hcl];rfl
      · have hl:op.fArgs.length=1:=by
                                            rw[h] at el;have:Dc IZ=1:=by decide
                                            omega
        rw[h,AE (by decide),AE (by decide),AR (by decide),hcs,Bf rfl,Ot (by omega) hs hl (ev _ (Sm (by omega))) (by omega),SX (by decide),Td rfl];rfl
      · have hl:op.fArgs.length=2:=by
                                            rw[h] at el;have:Dc It=2:=by decide
                                            omega
        have hcl:Cy (Ae op.fArgs 1)=some (Ae op.fArgs 1):=Gc (by have:=(hA.a _ (SA (by omega))).hv;omega);rw[h,AE (by decide),AE (by decide),AE (by decide),Cm (by decide),hcs,Bf rfl,SX (by decide),SX (by decide),Td rfl];unfold HX;rw[Bs (by omega) (by omega),Ro (by omega) (by omega),Bf rfl]
        by_cases hq:state=Ae op.fArgs 0
        · rw[SS hq,Td hq,AE (by rfl),Bs (by omega) (by omega),hcl];rfl
        · rw[SL hq,SX hq,AR (by rfl)];rfl
    · rw[AR (by simp[hs]),Td hs]
  · rw[AR (by simp[he]),Td he]
theorem Pn {M F:Nat}{state:List Ac}{op:A3}(hS:In M state)(hA:Rh M op)(hM:M≤1000000)(hF:4*M+100<F)(hF2:op.fArgs.length<F):LT F state op=some (R9 state op):=by
  have hsl:=hS.hv;unfold LT R9;rw[LU hA hM (by omega) hF2,Bf rfl]
  by_cases he:G2 op=0
  · rw[AR (by simp[he]),SX (by simp[he]),Iz hS hM (by omega),Bf rfl]
    by_cases hs:DG state=0
    · rw[AE (by simp[hs]),SX (by simp[hs])]
      obtain⟨_,_,e0,el,ev⟩:=JS he;unfold PX;rcases I3 e0 with h | h | h | h
      · rw[h,AE (by decide),AE (by decide),AE (by decide),SX (by decide),SX (by decide),SX (by decide)]
      · have hl:op.fArgs.length=1:=by
                                            rw[h] at el;have:Dc D5=1:=by decide
                                            omega
        rw[h,AR (by decide),Td rfl,Bs (by omega) (by omega)];rfl
      · have hl:op.fArgs.length=1:=by
                                            rw[h] at el;have:Dc IZ=1:=by decide
                                            omega
        rw[h,AE (by decide),AR (by decide),SX (by decide),Td rfl,Bs (by omega) (by omega),Oh (by omega) hs (ev _ (Sm (by omega)))];rfl
      · have hl:op.fArgs.length=2:=by
                                            rw[h] at el;have:Dc It=2:=by decide
                                            omega
        rw[h,AE (by decide),AE (by decide),AR (by decide),SX (by decide),SX (by decide),Td rfl,Bs (by omega) (by omega),Iw (by omega) (by omega),Bf rfl]
        by_cases hq:state=Ae op.fArgs 0
        · rw[SS hq,Td hq,AR rfl,Bs (by omega) (by omega)];rfl
        · rw[SL hq,SX hq,AE rfl];rfl
    · rw[AR (by simp[hs]),Td hs]
  · rw[AE (by simp[he]),AR (by simp[he]),Td he]
theorem Mq:DF 30000=some true:=by decide +kernel
theorem Ki {F:Nat}{a:A6}(hF:a.fValue.length<F)(hv:a.fValue.length≤1000000):Dh F a a=some true:=by
 unfold Dh;rw[Iw hF (by omega),SS rfl,SS rfl];rfl
theorem QI {state:List Ac}{op:A3}{M:Nat}(hS:In M state)(hA:Rh M op)(hM:1≤M):(R9 state op).1.length≤M∧(R9 state op).2.1.fValue.length≤M:=by
  have hsl:=hS.hv;unfold R9
  by_cases he:G2 op≠0
  · rw[Td he];exact⟨Tn _,Tn _⟩
  · rw[SX he]
    by_cases hs:DG state≠0
    · rw[Td hs];exact⟨Tn _,Tn _⟩
    · rw[SX hs]
      rw[Decidable.not_not] at he;obtain⟨_,_,e0,el,ev⟩:=JS he;unfold PX;rcases I3 e0 with h | h | h | h
      · rw[h,SX (by decide),SX (by decide),SX (by decide)];exact⟨hsl,hsl⟩
      · have hl:op.fArgs.length=1:=by
                                            rw[h] at el;have:Dc D5=1:=by decide
                                            omega
        rw[h,Td rfl];exact⟨(hA.a _ (Sm (by omega))).hv,hM⟩
      · rw[h,SX (by decide),Td rfl]
        unfold OE
        split
        · exact⟨hsl,Tn _⟩
        · split
          · exact⟨hM,hM⟩
          · exact⟨hsl,Tn _⟩
      · have hl:op.fArgs.length=2:=by
                                            rw[h] at el;have:Dc It=2:=by decide
                                            omega
        rw[h,SX (by decide),SX (by decide),Td rfl]
        split
        · exact⟨(hA.a _ (SA (by omega))).hv,hM⟩
        · exact⟨hsl,hM⟩
theorem MW (state:List Ac)(op:A3)(hs:state.all GB=true)(ho:op.fArgs.all (λv=>v.all GB)=true):JK 30000 state op=some true:=by
 unfold JK;rw[K9 (by omega),O1 (by omega),Mq,Option.isSome_some,Option.isSome_some,Cm rfl,Cm (by unfold imp;simp),HN,HN]
 by_cases hb:Ii state=false∧Hv op=false
 ·rw[hb.1,hb.2,AE (by rfl)];have hS:=In.ofN hb.1 hs;have hA:=Rh.of hb.2 ho;have hl:=QI hS hA (by decide);have hal:op.fArgs.length<30000:=by
   have h2:=hb.2;unfold Hv at h2;simp only[Tr,SJ] at h2;omega
  rw[Rx hS hA (by decide) (by decide) hal,Bf rfl,Pn hS hA (by decide) (by decide) hal,Bf rfl,Iw (by omega) (by omega),Ki (by omega) (by omega),SS rfl,SS rfl];rfl
 ·rw[AR (by
   cases h1:Ii state with
   | true=>rfl
   | false=>
    cases h2:Hv op with
    | true=>rfl
    | false=>exact absurd ⟨h1,h2⟩ hb)]
  rfl
end Go.Proofs.YtfbmdidnlhifjaaGreatDoor
namespace Go.Proofs.YtfbmdidnlhifjaaGreatDoor.lawEntityDoes
open Go
set_option linter.unusedVariables false
theorem Q2 {op:A3}(h:Pt op=true):op.fArgs.all (λv=>v.all GB)=true:=by
 unfold Pt at h;simp only[SM] at h;exact List.all_eq_true.2 λv hv=>(Bool.and_eq_true_iff.1 (List.all_eq_true.1 h.2.1 v hv)).1
theorem S9:SF:=λs op h0 h1=>⟨30000,MW s op (Bool.and_eq_true_iff.1 h0).1 (Q2 h1)⟩
end Go.Proofs.YtfbmdidnlhifjaaGreatDoor.lawEntityDoes
