/-
  Texts of the proof, put together: LvL, LvM, LvN, LvO, LvP, LdA, LdB, LdC, LdD, LdE, LdF, LdG, LdH, LdI, LdJ, LdK, LtA, LtB, LtD, LbB, LhA, LhB, LsA, LrA, LsC, LsD, LrB, LbC, LbD, LbE, LbF, PN, PO, PlF, LbG, LbA, LbH, LwOTexts.
-/
import Derived.Test.YtfobhhegpkinaaaGreatDoorOT5
import Derived.Sort.Walk0
namespace Go.Proofs.YtfobhhegpkinaaaGreatDoor
open Go
set_option linter.unusedVariables false
set_option linter.unusedSimpArgs false
section
variable {M : Nat} {v : List Ac}
theorem IO {α:Type}[Inhabited α](a:α):ov (some a)=a:=rfl
theorem Xk {at_:Int}{k:Option Al}{r:List Ac}(h0:0≤at_)(hA:J0 M v){F:Nat}(hF:M<F)(hd:v.drop at_.toNat=BM k++r):∀s,k=some s→(Ap v at_).fStr=s∧s.length<F∧s.length≤1152921504606846976:=λs e=>by
 subst e;have hd':v.drop at_.toNat=⟨4,0,s,0⟩::r:=by simpa[BM] using hd
 have h1:=D9 h0 hd';have h2:=(hA.hc _ (AbA (CF h0 hd').1)).1;have hM:=hA.hM;simp only at h2;exact⟨by rw[h1],by omega,by omega⟩
theorem R0 (hA:J0 M v):∀(g:Fo) (F L:Nat) (i at_ x:Int) (out:Al) (m:Bool) (last:Option Al) (ys:List Ac) (pc:Ac),Ap v i=pc→decide (pc.fKind=6)=m→pc.fN≤9223372036854775807→g.wf m last=true→v.drop at_.toNat=g.flat++ys→0≤at_→at_≤v.length→pc.fN=x+g.cnt→0≤x→(out++g.txt (decide (x=0))).length≤4611686018427387904→g.cnt<L→3*M+5+g.flat.length<F→
  ∃o,Ci (λσ=>Ei F v i (G4 F) σ.1 σ.2.1 σ.2.2) L (out,at_,x)=some o∧BS (λν=>Hq v i ν) o=some (OU pc (out++g.txt (decide (x=0)))):=by
 have hM:=hA.hM;have hvM:=hA.hv;intro g
 induction g with
 | nil=>
  intro F L i at_ x out m last ys pc hpc hm hpN hw hd h0 h1 hN hx hlen hL hF;obtain⟨L,rfl⟩:∃K,L=K+1:=⟨L-1,by omega⟩
  have hgo:Ei F v i (G4 F) out at_ x=some (.out (.go out)):=by
   simp only[Fo.cnt] at hN;unfold Ei;rw[hpc,AZ (Abs (by omega))]
  refine⟨.go out,Ju hgo,?_⟩;simp only[Fo.txt,AbZ] at hlen ⊢;rw[EY,TG hpc hlen]
 | cell k c r ih=>
  intro F L i at_ x out m last ys pc hpc hm hpN hw hd h0 h1 hN hx hlen hL hF;simp only[Fo.wf,Abv,AbE] at hw;obtain⟨⟨⟨w1,w2⟩,w3⟩,w4⟩:=hw;simp only[Fo.flat,AbM,Ach] at hd;simp only[Fo.cnt] at hN hL;simp only[Fo.flat,Abr,AbB] at hF;obtain⟨L,rfl⟩:∃K,L=K+1:=⟨L-1,by omega⟩
  obtain⟨F,rfl⟩:∃K,F=K+2:=⟨F-2,by omega⟩
  have hd1:=CV h0 hd;have hkl:=LY w1;obtain⟨g1,g2,g3⟩:=CF (by omega) hd1;have hcM:=hA.hc c (AbA g1);have hp:at_+(BM k).length=bif m then at_+1 else at_:=by rw[hkl];cases m<;>simp
  have hq:=hA.next (F:=F+2) (by omega) (p:=at_+(BM k).length) (by omega) (by omega);rw[QB (f:=.cell none c .nil) (ys:=r.flat++ys) rfl (Qa w2 w3) hd1] at hq;have e:out++(Fo.cell k c r).txt (decide (x=0))=(out++(Eg (decide (x=0))++J8 k++Gb c))++r.txt (decide (x+1=0)):=by
   rw[Abs (show ¬ x+1=0 by omega)];simp[Fo.txt]
  rw[e] at hlen ⊢;have hl2:((out++(Eg (decide (x=0))++J8 k++Gb c)).length:Int)≤4611686018427387904:=by rw[Abr] at hlen;omega
  have hat:at_<v.length:=by omega
  have hb:=Py hpc hm (by omega) hx hpN h0 hat (by omega) w1 (Xk h0 hA (F:=F+2) (by omega) hd) hp (Of (F:=F) (by omega) (by omega) hd1 w2 w3 (by omega) (by omega) hcM.2.1) hq hl2;obtain⟨o,ho1,ho2⟩:=ih (F+2) L i (at_+(BM k).length+((Fo.cell none c .nil).flat.length:Int)) (x+1) (out++(Eg (decide (x=0))++J8 k++Gb c)) m k ys pc hpc hm hpN w4 (by rw[show(Fo.cell none c .nil).flat.length=1 from rfl];exact g2) (by omega) (by rw[show(Fo.cell none c .nil).flat.length=1 from rfl];omega) (by omega) (by omega) hlen (by omega) (by omega);exact⟨o,MV hb ho1,ho2⟩
 | node k c kids r ihk ih=>
  intro F L i at_ x out m last ys pc hpc hm hpN hw hd h0 h1 hN hx hlen hL hF;simp only[Fo.wf,Abv,Abo] at hw;obtain⟨⟨⟨⟨⟨w1,w2⟩,w3⟩,w5⟩,w6⟩,w4⟩:=hw;simp only[Fo.flat,AbM,Ach] at hd;simp only[Fo.cnt] at hN hL;simp only[Fo.flat,Abr,AbB] at hF;obtain⟨L,rfl⟩:∃K,L=K+1:=⟨L-1,by omega⟩
  obtain⟨F,rfl⟩:∃K,F=K+1:=⟨F-1,by omega⟩
  have hd1:=CV h0 hd;have hkl:=LY w1;obtain⟨g1,g2,g3⟩:=CF (by omega) hd1;have hcN:=(hA.hc c (AbA g1)).2.2;have hp:at_+(BM k).length=bif m then at_+1 else at_:=by rw[hkl];cases m<;>simp
  have hq:=hA.next (F:=F+1) (by omega) (p:=at_+(BM k).length) (by omega) (by omega);have hfl:(Fo.node none c kids .nil).flat=c::kids.flat:=by simp[Fo.flat,BM]
  rw[QB (f:=.node none c kids .nil) (ys:=r.flat++ys) rfl (PZ w2 w3 w5 w6) (by rw[hd1,hfl];simp)] at hq;have hcf:=CK kids;have hvl:(v.drop (at_+(BM k).length+1).toNat).length=kids.flat.length+(r.flat.length+ys.length):=by rw[g2];simp
  rw[AbS] at hvl;have e:out++(Fo.node k c kids r).txt (decide (x=0))=(out++(Eg (decide (x=0))++J8 k++OU c (kids.txt true)))++r.txt (decide (x+1=0)):=by
   rw[Abs (show ¬ x+1=0 by omega)];simp[Fo.txt]
  rw[e] at hlen ⊢;have hl2:((out++(Eg (decide (x=0))++J8 k++OU c (kids.txt true))).length:Int)≤4611686018427387904:=by rw[Abr] at hlen;omega
  have hl3:(kids.txt true).length≤4611686018427387904:=by
   have:=Jl c (kids.txt true);rw[Abr,Abr] at hl2;omega
  have hat:at_<v.length:=by omega
  have hrec:G4 (F+1) v (at_+(BM k).length)=some (OU c (kids.txt true)):=by
   rw[G4];unfold Mo;have ha:=(IM w2 w3).1;rw[BC (by omega) g3,D9 (by omega) hd1,AZ (Abs (by omega)),AZ (Abs (by omega)),AZ (Abs (by omega)),AZ (Abs (by omega)),AW (by omega) (by omega)];obtain⟨o,ho1,ho2⟩:=ihk F F (at_+(BM k).length) (at_+(BM k).length+1) 0 [] _ none (r.flat++ys) c (D9 (by omega) hd1) rfl hcN w6 (by rw[g2]) (by omega) (by omega) (by omega) (AbG 0) hl3 (by omega) (by omega);rw[B7 ho1,ho2];rfl
  have hb:=Py hpc hm (by omega) hx hpN h0 hat (by omega) w1 (Xk h0 hA (F:=F+1) (by omega) hd) hp hrec hq hl2;obtain⟨o,ho1,ho2⟩:=ih (F+1) L i (at_+(BM k).length+((Fo.node none c kids .nil).flat.length:Int)) (x+1) (out++(Eg (decide (x=0))++J8 k++OU c (kids.txt true))) m k ys pc hpc hm hpN w4 (by
   have:=CV (by omega) g2;rw[hfl,AbB,show at_+(BM k).length+((kids.flat.length+1:Nat):Int)=at_+(BM k).length+1+kids.flat.length from by omega];exact this) (by omega) (by rw[hfl,AbB];omega) (by omega) (by omega) hlen (by omega) (by omega)
  exact⟨o,MV hb ho1,ho2⟩
theorem R1 (hA:J0 M v){F:Nat}{p:Int}{f:Fo}{ys:List Ac}(h0:0≤p)(h1:f.one=true)(hw:f.wf false none=true)(hd:v.drop p.toNat=f.flat++ys)(hF:3*M+6+f.flat.length<F)(hlen:(f.txt true).length≤4611686018427387904):G4 F v p=some (f.txt true):=by
 have hM:=hA.hM;have hvM:=hA.hv
 cases f with
 | nil=>cases h1
 | cell k c r=>
  cases k with
  | some s=>cases h1
  | none=>
   cases r with
   | nil=>
    simp only[Fo.wf,Abv,AbE] at hw;obtain⟨F,rfl⟩:∃K,F=K+2:=⟨F-2,by omega⟩
    have hd':v.drop p.toNat=c::ys:=by simpa[Fo.flat,BM] using hd
    have hcM:=hA.hc c (AbA (CF h0 hd').1);rw[Of h0 (by have:=(CF h0 hd').2.2;omega) hd' hw.1.1.2 hw.1.2 (by omega) (by omega) hcM.2.1];simp[Fo.txt,Eg,J8]
   | cell _ _ _=>cases h1
   | node _ _ _ _=>cases h1
 | node k c kids r=>
  cases k with
  | some s=>cases h1
  | none=>
   cases r with
   | nil=>
    simp only[Fo.wf,Abv,Abo] at hw;obtain⟨⟨⟨⟨⟨w1,w2⟩,w3⟩,w5⟩,w6⟩,w4⟩:=hw;have hd':v.drop p.toNat=c::(kids.flat++ys):=by simpa[Fo.flat,BM] using hd
    obtain⟨g1,g2,g3⟩:=CF h0 hd';have hcN:=(hA.hc c (AbA g1)).2.2;have hcf:=CK kids;simp only[Fo.flat,BM,Acb,AbZ,AbB] at hF;have et:(Fo.node none c kids .nil).txt true=OU c (kids.txt true):=by simp[Fo.txt,Eg,J8]
    rw[et] at hlen ⊢;have hbl:=Jl c (kids.txt true);obtain⟨F,rfl⟩:∃K,F=K+1:=⟨F-1,by omega⟩
    rw[G4];unfold Mo;have ha:=(IM w2 w3).1;rw[BC h0 g3,D9 h0 hd',AZ (Abs (by omega)),AZ (Abs (by omega)),AZ (Abs (by omega)),AZ (Abs (by omega)),AW (by omega) (by omega)];obtain⟨o,ho1,ho2⟩:=R0 hA kids F F p (p+1) 0 [] _ none ys c (D9 h0 hd') rfl hcN w6 g2 (by omega) (by omega) (by omega) (AbG 0) (by show(kids.txt true).length≤_;omega) (by omega) (by omega);rw[B7 ho1,ho2];rfl
   | cell _ _ _=>cases h1
   | node _ _ _ _=>cases h1
theorem UQ {F:Nat}{K:Option Int}(hF:v.length<F)(hv:v.length≤1152921504606846976):B3 (Ci (λσ=>Ev v σ) F 0) (BS λ_=>K)=bif v.any KK then some 2 else K:=by
 obtain⟨o,h1,h2⟩:=Jb (body:=λσ=>Ev v σ) (λx=>0≤x∧x≤(v.length:Int)∧(v.take x.toNat).any KK=false) (λx=>v.length-x.toNat)
  (λo=>BS (λ_=>K) o=bif v.any KK then some 2 else K) (λx ⟨h0,hl,ha⟩=>by
   by_cases hx:x<(v.length:Int)
   ·obtain⟨c,hc⟩:∃c,v[x.toNat]? =some c:=⟨v[x.toNat]'(by omega),Abz (by omega)⟩
    have hat:Ap v x=c:=by simp[Ap,hc]
    have ho:(decide (c.fKind=3)&&(decide (c.fInt<(-1000000000000))||decide (1000000000000<c.fInt)))=KK c:=by
     unfold KK
     cases decide (c.fKind=3) with
     | false=>rfl
     | true=>
      rw[Ab1,Ab1,AbN];simp only[AbR,Abo,AbE,Acd,Abn];omega
    have hb:Ev v x=B2 (KK c) (some (.out (.ret 2))) (some (.next (x+1))):=by
     unfold Ev;rw[Bh (Abt hx),BC h0 hx,hat,ho,AW (by omega) (by omega)]
    cases hq:KK c with
    | true=>
     refine .inr ⟨.ret 2,hb.trans (Bh hq),?_⟩;have:v.any KK=true:=List.any_eq_true.2 ⟨c,AbA hc,hq⟩;rw[RC,this];rfl
    | false=>
     have a3:(v.take (x+1).toNat).any KK=false:=by
      rw[show(x+1).toNat=x.toNat+1 from by omega,List.take_add_one,hc,List.any_append,ha];simp[hq]
     exact .inl ⟨x+1,hb.trans (AZ hq),⟨by omega,by omega,a3⟩,by omega⟩
   ·refine .inr ⟨.go (),by unfold Ev;rw[AZ (Abs hx)],?_⟩;rw[show x.toNat=v.length from by omega,List.take_length] at ha;rw[EY,ha];rfl) F 0 ⟨AbG 0,by omega,by simp⟩ (by simpa using hF)
 rw[B7 h1,h2]
theorem UP {F:Nat}{K:Option Int}(hF:v.length<F)(hv:v.length≤1152921504606846976):B3 (Ci (λσ=>Eu v σ) F 0) (BS λ_=>K)=bif v.any Jv then some 3 else K:=by
 obtain⟨o,h1,h2⟩:=Jb (body:=λσ=>Eu v σ) (λx=>0≤x∧x≤(v.length:Int)∧(v.take x.toNat).any Jv=false) (λx=>v.length-x.toNat)
  (λo=>BS (λ_=>K) o=bif v.any Jv then some 3 else K) (λx ⟨h0,hl,ha⟩=>by
   by_cases hx:x<(v.length:Int)
   ·obtain⟨c,hc⟩:∃c,v[x.toNat]? =some c:=⟨v[x.toNat]'(by omega),Abz (by omega)⟩
    have hat:Ap v x=c:=by simp[Ap,hc]
    have hb:Eu v x=B2 (Jv c) (some (.out (.ret 3))) (some (.next (x+1))):=by
     unfold Eu;rw[Bh (Abt hx),BC h0 hx,hat,AW (by omega) (by omega)];rfl
    cases hq:Jv c with
    | true=>
     refine .inr ⟨.ret 3,hb.trans (Bh hq),?_⟩;have:v.any Jv=true:=List.any_eq_true.2 ⟨c,AbA hc,hq⟩;rw[RC,this];rfl
    | false=>
     have a3:(v.take (x+1).toNat).any Jv=false:=by
      rw[show(x+1).toNat=x.toNat+1 from by omega,List.take_add_one,hc,List.any_append,ha];simp[hq]
     exact .inl ⟨x+1,hb.trans (AZ hq),⟨by omega,by omega,a3⟩,by omega⟩
   ·refine .inr ⟨.go (),by unfold Eu;rw[AZ (Abs hx)],?_⟩;rw[show x.toNat=v.length from by omega,List.take_length] at ha;rw[EY,ha];rfl) F 0 ⟨AbG 0,by omega,by simp⟩ (by simpa using hF)
 rw[B7 h1,h2]
theorem QI:decide (Jt v 0=v.length)=(whole v).isSome:=by
 unfold Jt whole;rw[show v.drop (0:Int).toNat=v from rfl]
 cases hp:Ix v with
 | none=>simp
 | some q=>
  obtain⟨f,ys⟩:=q;have h1:=(Kq hp).1;have hl:v.length=f.flat.length+ys.length:=by rw[h1];simp
  cases ys with
  | nil=>simp at hl ⊢;omega
  | cons c r=>simp at hl ⊢;omega
theorem It (hA:J0 M v)(hM:M≤2000000){F:Nat}(hF:4*M+6<F):JK F v=some (Ji v):=by
 have hvM:=hA.hv;unfold JK;rw[ST (hA.rf (Aby M)) (λc hc=>(hA.hc c hc).2.2) (by omega),B7 rfl,QI];unfold Ji
 cases hwh:whole v with
 | none=>rfl
 | some f=>
  obtain⟨h1,h2,h3⟩:=IC hwh;rw[AZ (p:=!(some f).isSome) rfl]
  change _=some (Mc f)
  have hl:v.length=f.flat.length:=by rw[h1]
  have hc:∀c∈f.flat,c.fStr.length≤M∧BF .i64 c.fInt=true∧c.fN≤9223372036854775807:=λc hc=>hA.hc c (by rw[h1];exact hc);have hb:=KH hM h2 (by omega) hc;have htl:((f.txt true).length:Int)=f.byt:=by rw[HE f false none true h2,Nz h3];simp
  have hd0:v.drop (0:Int).toNat=f.flat++[]:=by rw[AbZ];exact h1
  rw[UQ (by omega) (by omega)];unfold Mc Is;rw[SS hA (AbG 0) h3 h2 hd0 (by omega),Da (by simp[imp]),UP (by omega) (by omega)];unfold Ir;rw[R1 hA (AbG 0) h3 h2 hd0 (by omega) (by omega),B7 rfl];rw[IO,hl,← h1];have a1:decide ((200:Int)<(v.length:Int))=decide (200<v.length):=by rw[AbN];simp;omega
  have a2:decide ((8:Int)<(f.dep:Int))=decide (8<f.dep):=by rw[AbN];simp;omega
  have a3:decide ((4000:Int)<((f.txt true).length:Int))=decide (4000<(f.txt true).length):=by rw[AbN];simp;omega
  rw[a1,a2,a3]
  cases v.any KK<;>cases v.any Jv<;>cases decide (200<v.length)<;>cases decide (8<f.dep)<;>cases decide (4000<(f.txt true).length)<;>rfl
end
theorem DF {α:Type}{n:Nat}{x:Option α}(h:n≤140737488355328):Ba (CX 1 n) x=x:=Da (Abt (by omega))
theorem GM {α β:Type}(a:α)(k:α→Option β):Ls a k=k a:=rfl
theorem H5 {α:Type}{n:Int}{x:Option α}(h:0≤n)(h':n≤255):Ba (BF .u8 n) x=x:=Da (Y9 h h')
theorem XE {s:Al}{x:Int}{c:UInt8}(h:s[x.toNat]? =some c):UInt8.ofNat (Int.toNat (B1 s x))=c∧0≤B1 s x∧B1 s x≤255:=by
 have:=UInt8.toNat_lt c;rw[N9 h];refine⟨?_,by omega,by omega⟩;rw[← UInt8.toNat_inj];simp
theorem Rr {s l:Al}{x:Int}{c:UInt8}(h0:0≤x)(hx:x<(s.length:Int))(hs:s.length≤1152921504606846976)(hl:l.length+2≤140737488355328)(hc:s[x.toNat]? =some c):DI s x l=some (.next (x+1,l++Nl c)):=by
 obtain⟨b1,b2,b3⟩:=XE hc;unfold DI Nl;rw[Bh (Abt hx),BC h0 hx,Zi hc,Zh hc];have l1:(l++[UInt8.ofNat (Int.toNat 92)]).length=l.length+1:=by simp
 cases hq:(decide (c=34)||decide (c=92)) with
 | true=>
  rw[Bh rfl,DF (by omega),H5 (by decide) (by decide),GM,l1,DF (by omega),H5 b2 b3,GM,b1,AW (by omega) (by omega),AbM];rfl
 | false=>
  rw[AZ rfl,DF (by omega),H5 b2 b3,GM,b1,AW (by omega) (by omega)];rfl
theorem Wc {l:Al}(h:l.length+1≤140737488355328):EL l=some (l++[34]):=by
 unfold EL;rw[DF h,GM];rfl
theorem Mk {F:Nat}{l s:Al}(hF:s.length<F)(hl:(l++G6 s).length≤140737488355328):Lf F l s=some (l++G6 s):=by
 have hq:(G6 s).length=(GF s).length+2:=by simp[G6]
 rw[Abr,hq] at hl;have hesc:∀k,(GF (s.take k)).length≤(GF s).length:=λk=>by
  have:GF s=GF (s.take k)++GF (s.drop k):=by rw[GF,GF,GF,← List.flatMap_append,Acl]
  rw[this,Abr];omega
 have hsl:s.length≤(GF s).length:=by rw[Mb];omega
 obtain⟨o,h1,h2⟩:=Jb (body:=λσ=>DI s σ.1 σ.2) (λσ=>0≤σ.1∧σ.1≤(s.length:Int)∧σ.2=l++[34]++GF (s.take σ.1.toNat)) (λσ=>s.length-σ.1.toNat)
  (λo=>BS (λν=>EL ν) o=some (l++G6 s)) (λσ ⟨h0,hlx,ha⟩=>by
   obtain⟨x,out⟩:=σ;simp only at h0 hlx ha;show(∃s',DI s x out=_∧_)∨∃o,DI s x out=_∧_;have hol:out.length=l.length+1+(GF (s.take x.toNat)).length:=by rw[ha];simp;omega
   have he:=hesc x.toNat
   by_cases hx:x<(s.length:Int)
   ·obtain⟨c,hc⟩:∃c,s[x.toNat]? =some c:=⟨s[x.toNat]'(by omega),Abz (by omega)⟩
    have he2:=hesc (x.toNat+1);rw[M7 hc,Abr] at he2;have hc1:1≤(Nl c).length:=by unfold Nl;cases(decide (c=34)||decide (c=92))<;>simp
    have a1:0≤x+1:=by omega
    have a2:x+1≤s.length:=by omega
    have a3:s.length-(x+1).toNat<s.length-x.toNat:=by omega
    have a4:out++Nl c=l++[34]++GF (s.take (x+1).toNat):=by rw[show(x+1).toNat=x.toNat+1 from by omega,M7 hc,ha,AbM]
    exact .inl ⟨(x+1,out++Nl c),Rr h0 hx (by omega) (by omega) hc,⟨a1,a2,a4⟩,a3⟩
   ·have e:x.toNat=s.length:=by omega
    rw[e,List.take_length] at ha;have hf:out++[34]=l++G6 s:=by rw[ha];simp[G6]
    have hgo:DI s x out=some (.out (.go out)):=by unfold DI;rw[AZ (Abs hx)]
    exact .inr ⟨.go out,hgo,(EY (λν=>EL ν) out).trans ((Wc (by omega)).trans (congrArg some hf))⟩) F (0,l++[34]) ⟨AbG 0,by show(0:Int)≤s.length;omega,by show l++[34]=l++[34]++GF (s.take 0);simp[GF]⟩ (by show s.length-0<F;omega)
 unfold Lf;rw[DF (by omega),H5 (by decide) (by decide),GM];have hb:[UInt8.ofNat (Int.toNat 34)]=([34]:Al):=rfl;rw[hb,B7 h1,h2]
theorem NM {F:Nat}{l key:Al}{x:List Ac}{first:Bool}{c:Ac}{k last:Option Al}{tx:Al}(hk:CO (decide (c.fKind=6)) last k=true)(hkey:∀s,k=some s→key=s∧s.length<F)
  (hlen:(l++(Eg first++J8 k++tx)).length≤140737488355328) (hw:∀l':Al,(l'++tx).length≤140737488355328→Gq F l' x=some (l'++tx)):EB (F+1) key x first l c=some (true,false,l++(Eg first++J8 k++tx)):=by
 rw[EB];unfold Lw;have hb:[UInt8.ofNat (Int.toNat 44)]=([44]:Al):=rfl;have ha:[UInt8.ofNat (Int.toNat 58)]=([58]:Al):=rfl;have hlen':=hlen;simp only[Abr] at hlen'
 cases first with
 | true=>
  rw[AZ (p:=!true) rfl]
  cases hm:decide (c.fKind=6) with
  | true=>
   rw[hm] at hk
   cases k with
   | none=>simp[CO] at hk
   | some s=>
    obtain⟨e1,e2⟩:=hkey s rfl;subst e1;simp only[J8,Abr,AbP] at hlen';have h1:(l++G6 key).length≤140737488355328:=by rw[Abr];omega
    have e:((l++G6 key)++[58])++tx=l++(Eg true++J8 (some key)++tx):=AaA _ _ _ _;rw[← e] at hlen ⊢;rw[Bh rfl,Mk e2 h1,B7 rfl,DF (by rw[Abr];omega),H5 (by decide) (by decide),GM,ha,hw _ hlen,B7 rfl]
  | false=>
   rw[hm] at hk
   cases k with
   | some s=>simp[CO] at hk
   | none=>
    have e:l++tx=l++(Eg true++J8 none++tx):=AaC _ _;rw[← e] at hlen ⊢;rw[AZ rfl,hw _ hlen,B7 rfl]
 | false=>
  simp only[Eg,Abu,AbP] at hlen';rw[Bh (p:=!false) rfl,DF (by omega),H5 (by decide) (by decide),GM,hb]
  cases hm:decide (c.fKind=6) with
  | true=>
   rw[hm] at hk
   cases k with
   | none=>simp[CO] at hk
   | some s=>
    obtain⟨e1,e2⟩:=hkey s rfl;subst e1;simp only[J8,Abr,AbP] at hlen';have h1:((l++[44])++G6 key).length≤140737488355328:=by simp only[Abr,AbP];omega
    have e:(((l++[44])++G6 key)++[58])++tx=l++(Eg false++J8 (some key)++tx):=Aa9 _ _ _ _ _;rw[← e] at hlen ⊢;rw[Bh rfl,Mk e2 h1,B7 rfl,DF (by simp only[Abr,AbP];omega),H5 (by decide) (by decide),GM,ha,hw _ hlen,B7 rfl]
  | false=>
   rw[hm] at hk
   cases k with
   | some s=>simp[CO] at hk
   | none=>
    have e:(l++[44])++tx=l++(Eg false++J8 none++tx):=AaB _ _ _;rw[← e] at hlen ⊢;rw[AZ rfl,hw _ hlen,B7 rfl]
section
variable {M : Nat}
theorem NU {F:Nat}{v:List Ac}{c:Ac}{at_ x:Int}{first:Bool}{l l2:Al}{k last:Option Al}{f1:Fo}{ys:List Ac}(hA:J0 M v)(hF:M<F)(hpc:Ap v 0=c)(hx:x<c.fN)(hx0:0≤x)(hcN:c.fN≤9223372036854775807)(h0:0≤at_)(hk:CO (decide (c.fKind=6)) last k=true)
  (hd:v.drop at_.toNat=BM k++(f1.flat++ys)) (h1:f1.one=true) (hw:f1.wf false none=true) (hr:∀key,(∀s,k=some s→key=s)→EB F key f1.flat first l c=some (true,false,l2)) :
  DP F v c (EB F) at_ x first l=some (.next (at_+(BM k).length+f1.flat.length,x+1,false,l2)):=by
 have hM:=hA.hM;have hvM:=hA.hv;have hd1:=CV h0 hd;have hkl:=LY hk;have hfl:=RD h1;have hll:(v.drop (at_+(BM k).length).toNat).length=f1.flat.length+ys.length:=by rw[hd1];simp
 rw[AbS] at hll;have hlook:Jr F (v.drop (at_+(BM k).length).toNat)=some ((f1.flat.length:Int),f1.sh 0 Ob,true):=RS ((hA.drop _).lk hF) h1 hw hd1;have htake:List.take (Int.toNat (at_+(BM k).length+(f1.flat.length:Int))-Int.toNat (at_+(BM k).length)) (v.drop (at_+(BM k).length).toNat)=f1.flat:=by
  rw[hd1,show Int.toNat (at_+(BM k).length+(f1.flat.length:Int))-Int.toNat (at_+(BM k).length)=f1.flat.length from by omega,List.take_left]
 have hmono:0≤at_+(BM k).length+f1.flat.length:=by omega
 unfold DP;rw[hpc,Bh (Abt hx)]
 cases hm:decide (c.fKind=6) with
 | true=>
  rw[hm] at hk hkl
  cases k with
  | none=>simp[CO] at hk
  | some s=>
   have e1:((BM (some s)).length:Int)=1:=rfl;rw[e1] at hlook htake hll hmono ⊢;have hats:(Ap v at_).fStr=s:=by
    have:v.drop at_.toNat=⟨4,0,s,0⟩::(f1.flat++ys):=by simpa[BM] using hd
    rw[D9 h0 this]
   have hin:at_<v.length:=by omega
   rw[Bh rfl,BC h0 hin,AW (by omega) (by omega),Gf (by omega) (by omega),hlook,B7 rfl,AW (by omega) (by omega),Gf (by omega) (by omega),Gf (by omega) (by omega),htake,hats,hr s (λs' h=>by cases h;rfl),B7 rfl];rw[AZ (p:=!true) rfl,AW (by omega) (by omega)]
 | false=>
  rw[hm] at hk hkl
  cases k with
  | some s=>simp[CO] at hk
  | none=>
   have e1:((BM none).length:Int)=0:=rfl;rw[e1,Int.add_zero] at hlook htake hll hmono ⊢;rw[AZ rfl,Gf (by omega) (by omega),hlook,B7 rfl,AW (by omega) (by omega),Gf (by omega) (by omega),Gf (by omega) (by omega),htake,hr [] (λs' h=>by cases h),B7 rfl];rw[AZ (p:=!true) rfl,AW (by omega) (by omega)]
end
section
variable {M : Nat}
theorem Me (l:Al)(c:UInt8):(l++[c]).length=l.length+1:=by rw[Abr,AbP]
theorem Le {F:Nat}{l p:Al}{v:List Ac}{c:Ac}{rf:Al→(List Ac)→Bool→Al→Ac→Option (Bool×Bool×Al)}{rp:(List Ac)→Bool→Al→Ac→Option (Bool×Al)}(hc:Ap v 0=c)(hv:0<v.length)(hk:c.fKind=5∨c.fKind=6)(hlen:(l++OU c p).length≤140737488355328)
  (hp:∀l':Al,l'.length=l.length+1→∃b,rp v true l' c=some (b,l'++p)):Kh F rf rp l v=some (l++OU c p):=by
 have hbl:=Jl c p;rw[Abr,hbl] at hlen;have i0:(0:Int)<(v.length:Int):=by omega
 unfold Kh;rw[BC (AbG 0) i0,hc,AZ (Abs (by omega)),AZ (Abs (by omega)),AZ (Abs (by omega)),AZ (Abs (by omega))];have b1:[UInt8.ofNat (Int.toNat (B1 ([123,125]:Al) 0))]=([123]:Al):=rfl;have b2:[UInt8.ofNat (Int.toNat (B1 ([123,125]:Al) 1))]=([125]:Al):=rfl;have b3:[UInt8.ofNat (Int.toNat (B1 ([91,93]:Al) 0))]=([91]:Al):=rfl;have b4:[UInt8.ofNat (Int.toNat (B1 ([91,93]:Al) 1))]=([93]:Al):=rfl;have c1:B1 ([123,125]:Al) 0=123:=rfl;have c2:B1 ([123,125]:Al) 1=125:=rfl;have c3:B1 ([91,93]:Al) 0=91:=rfl;have c4:B1 ([91,93]:Al) 1=93:=rfl;have n2:(([123,125]:Al).length:Int)=2:=rfl;have n3:(([91,93]:Al).length:Int)=2:=rfl
 cases h6:decide (c.fKind=6) with
 | true=>
  obtain⟨b,hb⟩:=hp _ (Me l 123);rw[Bh rfl,n2,BC (by decide) (by decide),DF (by omega),b1,b2,c1,c2,H5 (by decide) (by decide),GM,hb,B7 rfl,BC (by decide) (by decide)];have e:((l++[123])++p).length=l.length+1+p.length:=by rw[Abr,Me]
  rw[e,DF (by omega),H5 (by decide) (by decide),GM];simp[OU,h6]
 | false=>
  obtain⟨b,hb⟩:=hp _ (Me l 91);rw[AZ rfl,n3,BC (by decide) (by decide),DF (by omega),b3,b4,c3,c4,H5 (by decide) (by decide),GM,hb,B7 rfl,BC (by decide) (by decide)];have e:((l++[91])++p).length=l.length+1+p.length:=by rw[Abr,Me]
  rw[e,DF (by omega),H5 (by decide) (by decide),GM];simp[OU,h6]
theorem MJ {F:Nat}{v:List Ac}{c:Ac}{at_ x:Int}{first:Bool}{l:Al}{rf:Al→(List Ac)→Bool→Al→Ac→Option (Bool×Bool×Al)}(hc:Ap v 0=c)(hx : ¬ x<c.fN):DP F v c rf at_ x first l=some (.out (.go (first,l))):=by
 unfold DP;rw[hc,AZ (Abs hx)]
theorem MI {F:Nat}{l:Al}{c:Ac}(hp:pl c=true)(hn:decide (0<c.fN)=false)(hs:c.fStr.length<F+2)(hi:BF .i64 c.fInt=true)(hlen:(l++Gb c).length≤140737488355328):Gq (F+3) l [c]=some (l++Gb c):=by
 rw[Gq];have hat:Ap [c] 0=c:=rfl;have i0:(0:Int)<(([c]:List Ac).length:Int):=by simp
 have hN : ¬ (0:Int)<c.fN:=by simpa using hn
 by_cases ha:c.fKind=5∨c.fKind=6
 ·have el:Gb c=OU c []:=by
   have k1:decide (c.fKind=1)=false:=Abs (by omega);have k2:decide (c.fKind=2)=false:=Abs (by omega);have k3:decide (c.fKind=3)=false:=Abs (by omega);have k4:decide (c.fKind=4)=false:=Abs (by omega);unfold Gb OU;rw[k1,k2,k3,k4];rfl
  rw[el] at hlen ⊢;refine Le hat (by simp) ha hlen (λl' hl'=>⟨true,?_⟩);rw[GP];unfold Ih;rw[BC (AbG 0) i0,B7 (Ju (o:=.go (true,l')) (MJ hat hN)),EY,AbZ];rfl
 ·unfold Kh Gb;unfold Gb at hlen;rw[BC (AbG 0) i0,hat]
  cases k1:decide (c.fKind=1) with
  | true=>
   rw[k1] at hlen;simp only[Ab0] at hlen;rw[Bh rfl,DF (by rw[Abr] at hlen;exact hlen),GM];rfl
  | false=>
  rw[k1] at hlen;simp only[Abu] at hlen;rw[AZ rfl]
  cases k2:decide (c.fKind=2) with
  | true=>
   rw[k2] at hlen;simp only[Ab0] at hlen;rw[Bh rfl];simp[pl,k1,k2] at hp;simp only[Abr] at hlen;rcases hp.1 with h0 | h1
   ·rw[h0] at hlen ⊢;have a:Ap ([([102,97,108,115,101]:Al),([116,114,117,101]:Al)]:List Al) 0=[102,97,108,115,101]:=rfl;have hlen2:l.length+([102,97,108,115,101]:Al).length≤140737488355328:=hlen;rw[BC (by decide) (by decide),a,DF hlen2,GM];rfl
   ·rw[h1] at hlen ⊢;have a:Ap ([([102,97,108,115,101]:Al),([116,114,117,101]:Al)]:List Al) 1=[116,114,117,101]:=rfl;have hlen2:l.length+([116,114,117,101]:Al).length≤140737488355328:=hlen;rw[BC (by decide) (by decide),a,DF hlen2,GM];rfl
  | false=>
  rw[k2] at hlen;simp only[Abu] at hlen;rw[AZ rfl]
  cases k3:decide (c.fKind=3) with
  | true=>
   rw[k3] at hlen;simp only[Ab0,Abr] at hlen;rw[Bh rfl,Da hi,DF hlen,GM];rfl
  | false=>
  rw[k3] at hlen;simp only[Abu] at hlen;rw[AZ rfl]
  cases k4:decide (c.fKind=4) with
  | true=>
   rw[k4] at hlen;simp only[Ab0] at hlen;rw[Bh rfl,Mk hs hlen,B7 rfl];rfl
  | false=>
   exfalso;simp only[Abn] at k1 k2 k3 k4;simp[pl,k1,k2,k3,k4,show ¬ c.fKind=5 by omega,show ¬ c.fKind=6 by omega] at hp
theorem J0.mem {v:List Ac}(hA:J0 M v){p:Int}{a b:List Ac}(h:v.drop p.toNat=a++b):J0 M a:=by
 have:=(hA.drop p.toNat).take a.length
 rwa [h,List.take_left] at this
theorem OX:∀(g:Fo) (v:List Ac) (c:Ac) (F L:Nat) (at_ x:Int) (first:Bool) (l:Al) (m:Bool) (last:Option Al) (ys:List Ac),J0 M v→Ap v 0=c→decide (c.fKind=6)=m→c.fN≤9223372036854775807→g.wf m last=true→v.drop at_.toNat=g.flat++ys→0≤at_→c.fN=x+g.cnt→0≤x→(l++g.txt first).length≤140737488355328→g.cnt<L→M+5+3*g.flat.length<F→
  ∃o b,Ci (λσ=>DP F v c (EB F) σ.1 σ.2.1 σ.2.2.1 σ.2.2.2) L (at_,x,first,l)=some o∧BS (λν=>Hm ν.1 ν.2) o=some (b,l++g.txt first):=by
 intro g
 induction g with
 | nil=>
  intro v c F L at_ x first l m last ys hA hpc hm hcN hw hd h0 hN hx hlen hL hF
  obtain⟨L,rfl⟩:∃K,L=K+1:=⟨L-1,by omega⟩
  simp only[Fo.cnt] at hN;have hx' : ¬ x<c.fN:=by omega
  refine⟨.go (first,l),first,Ju (MJ hpc hx'),?_⟩;rw[EY,Fo.txt,AbZ];rfl
 | cell k cc r ih=>
  intro v c F L at_ x first l m last ys hA hpc hm hcN hw hd h0 hN hx hlen hL hF
  simp only[Fo.wf,Abv,AbE] at hw;obtain⟨⟨⟨w1,w2⟩,w3⟩,w4⟩:=hw;have hd2:v.drop at_.toNat=BM k++((Fo.cell none cc .nil).flat++(r.flat++ys)):=by rw[hd];simp[Fo.flat,BM]
  have hd1:=CV h0 hd2;simp only[Fo.cnt] at hN hL;simp only[Fo.flat,Abr,AbB] at hF;obtain⟨L,rfl⟩:∃K,L=K+1:=⟨L-1,by omega⟩
  obtain⟨F,rfl⟩:∃K,F=K+4:=⟨F-4,by omega⟩
  have hAe:=hA.mem hd1;have hcM:=hAe.hc cc (by simp[Fo.flat,BM]);have e:l++(Fo.cell k cc r).txt first=(l++(Eg first++J8 k++Gb cc))++r.txt false:=by simp[Fo.txt]
  rw[e] at hlen ⊢;have hl2:(l++(Eg first++J8 k++Gb cc)).length≤140737488355328:=by rw[Abr] at hlen;omega
  have hb:=NU (F:=F+4) (last:=last) hA (by omega) hpc (by omega) hx hcN h0 (by rw[hm];exact w1) hd2 rfl (Qa w2 w3) (first:=first) (l:=l) (λkey hkey=>
   NM (last:=last) (by rw[hm];exact w1) (λs hs=>⟨hkey s hs,by
    have hM:=hA.hM;subst hs;have:=(hA.hc ⟨4,0,s,0⟩ (List.mem_of_mem_drop (by rw[hd2];simp[BM]))).1;simp only at this;omega⟩) hl2 (λl' hl'=>MI (F:=F) w2 w3 (by omega) hcM.2.1 hl'))
  obtain⟨o,b,ho1,ho2⟩:=ih v c (F+4) L (at_+(BM k).length+((Fo.cell none cc .nil).flat.length:Int)) (x+1) false (l++(Eg first++J8 k++Gb cc)) m k ys hA hpc hm hcN w4 (CV (by omega) hd1) (by omega) (by omega) (by omega) hlen (by omega) (by omega);exact⟨o,b,MV hb ho1,ho2⟩
 | node k cc kids r ihk ih=>
  intro v c F L at_ x first l m last ys hA hpc hm hcN hw hd h0 hN hx hlen hL hF
  simp only[Fo.wf,Abv,Abo] at hw;obtain⟨⟨⟨⟨⟨w1,w2⟩,w3⟩,w5⟩,w6⟩,w4⟩:=hw;have hd2:v.drop at_.toNat=BM k++((Fo.node none cc kids .nil).flat++(r.flat++ys)):=by rw[hd];simp[Fo.flat,BM]
  have hd1:=CV h0 hd2;simp only[Fo.cnt] at hN hL;simp only[Fo.flat,Abr,AbB] at hF;obtain⟨L,rfl⟩:∃K,L=K+1:=⟨L-1,by omega⟩
  obtain⟨F,rfl⟩:∃K,F=K+3:=⟨F-3,by omega⟩
  have hAe:=hA.mem hd1;have hfl:(Fo.node none cc kids .nil).flat=cc::kids.flat:=by simp[Fo.flat,BM]
  have hcM:=hAe.hc cc (by rw[hfl];simp);have hcf:=CK kids;have e:l++(Fo.node k cc kids r).txt first=(l++(Eg first++J8 k++OU cc (kids.txt true)))++r.txt false:=by simp[Fo.txt]
  rw[e] at hlen ⊢;have hl2:(l++(Eg first++J8 k++OU cc (kids.txt true))).length≤140737488355328:=by rw[Abr] at hlen;omega
  have hb:=NU (F:=F+3) (last:=last) hA (by omega) hpc (by omega) hx hcN h0 (by rw[hm];exact w1) hd2 rfl (PZ w2 w3 w5 w6) (first:=first) (l:=l) (λkey hkey=>
   NM (last:=last) (by rw[hm];exact w1) (λs hs=>⟨hkey s hs,by
    have hM:=hA.hM;subst hs;have:=(hA.hc ⟨4,0,s,0⟩ (List.mem_of_mem_drop (by rw[hd2];simp[BM]))).1;simp only at this;omega⟩) hl2 (λl' hl'=>by
     rw[Gq];have hat:Ap (Fo.node none cc kids .nil).flat 0=cc:=by rw[hfl];rfl
     have hlen0:0<(Fo.node none cc kids .nil).flat.length:=by rw[hfl];simp
     have hbl:=Jl cc (kids.txt true);rw[Abr,hbl] at hl';have hb:∀l2:Al,l2.length=l'.length+1→∃b,GP (F+1) (Fo.node none cc kids .nil).flat true l2 cc=some (b,l2++kids.txt true):=λl2 hl2'=>by
       rw[GP];unfold Ih;have i0:(0:Int)<((Fo.node none cc kids .nil).flat.length:Int):=by omega
       obtain⟨o,b,ho1,ho2⟩:=ihk (Fo.node none cc kids .nil).flat cc F F 1 0 true l2 _ none [] hAe hat rfl hcM.2.2 w6 (by rw[hfl];simp) (by decide) (by omega) (AbG 0) (by rw[Abr];omega) (by omega) (by omega);exact⟨b,by rw[BC (AbG 0) i0,B7 ho1,ho2]⟩
     exact Le hat hlen0 (IM w2 w3).1 (by rw[Abr,hbl];exact hl') hb))
  obtain⟨o,b,ho1,ho2⟩:=ih v c (F+3) L (at_+(BM k).length+((Fo.node none cc kids .nil).flat.length:Int)) (x+1) false (l++(Eg first++J8 k++OU cc (kids.txt true))) m k ys hA hpc hm hcN w4 (CV (by omega) hd1) (by omega) (by omega) (by omega) hlen (by omega) (by omega);exact⟨o,b,MV hb ho1,ho2⟩
theorem U6 {f:Fo}{F:Nat}{l:Al}(hA:J0 M f.flat)(h1:f.one=true)(hw:f.wf false none=true)(hF:M+8+3*f.flat.length<F)(hlen:(l++f.txt true).length≤140737488355328):Gq F l f.flat=some (l++f.txt true):=by
 have hM:=hA.hM;have hvM:=hA.hv
 cases f with
 | nil=>cases h1
 | cell k c r=>
  cases k with
  | some s=>cases h1
  | none=>
   cases r with
   | nil=>
    simp only[Fo.wf,Abv,AbE] at hw;have hfl:(Fo.cell none c .nil).flat=[c]:=by simp[Fo.flat,BM]
    have hcM:=hA.hc c (by rw[hfl];simp);have et:(Fo.cell none c .nil).txt true=Gb c:=by simp[Fo.txt,Eg,J8]
    rw[et] at hlen ⊢;obtain⟨F,rfl⟩:∃K,F=K+3:=⟨F-3,by omega⟩
    rw[hfl];exact MI hw.1.1.2 hw.1.2 (by omega) hcM.2.1 hlen
   | cell _ _ _=>cases h1
   | node _ _ _ _=>cases h1
 | node k c kids r=>
  cases k with
  | some s=>cases h1
  | none=>
   cases r with
   | nil=>
    simp only[Fo.wf,Abv,Abo] at hw;obtain⟨⟨⟨⟨⟨w1,w2⟩,w3⟩,w5⟩,w6⟩,w4⟩:=hw;have hfl:(Fo.node none c kids .nil).flat=c::kids.flat:=by simp[Fo.flat,BM]
    have hcM:=hA.hc c (by rw[hfl];simp);have et:(Fo.node none c kids .nil).txt true=OU c (kids.txt true):=by simp[Fo.txt,Eg,J8]
    rw[et] at hlen ⊢;have hcf:=CK kids;have hat:Ap (Fo.node none c kids .nil).flat 0=c:=by rw[hfl];rfl
    have hlen0:0<(Fo.node none c kids .nil).flat.length:=by rw[hfl];simp
    have hl1:(Fo.node none c kids .nil).flat.length=kids.flat.length+1:=by rw[hfl];simp
    have hbl:=Jl c (kids.txt true);obtain⟨F,rfl⟩:∃K,F=K+2:=⟨F-2,by omega⟩
    rw[Gq];refine Le hat hlen0 (IM w2 w3).1 hlen (λl2 hl2=>?_);rw[Abr,hbl] at hlen;rw[GP];unfold Ih;have i0:(0:Int)<((Fo.node none c kids .nil).flat.length:Int):=by omega
    obtain⟨o,b,ho1,ho2⟩:=OX kids (Fo.node none c kids .nil).flat c F F 1 0 true l2 _ none [] hA hat rfl hcM.2.2 w6 (by rw[hfl];simp) (by decide) (by omega) (AbG 0) (by rw[Abr];omega) (by omega) (by omega);exact⟨b,by rw[BC (AbG 0) i0,B7 ho1,ho2]⟩
   | cell _ _ _=>cases h1
   | node _ _ _ _=>cases h1
def Ss (v:List Ac):Al×Int:=match whole v with
 | none=>([],1)
 | some f=>bif decide (Mc f=0) then(f.txt true,0) else([],Mc f)
theorem Y7 (n:Int):Lib.itoa n≠[]:=by
 unfold Lib.itoa
 split
 ·simp
 ·intro h;have:=congrArg List.length h;rw[Lib.decDigits_length] at this;have:=Lib.nDigits_pos n.toNat;simp at *;omega
theorem Yc {f:Fo}(hw:f.wf false none=true)(h1:f.one=true):0<(f.txt true).length:=by
 have e:=HE f false none true hw
 cases f with
 | nil=>cases h1
 | cell k c r=>
  have h2:=HT hw;simp only[Fo.txt,Abr];simp only[Fo.wf,Abv] at hw;have hp:=hw.1.1.2;have:0<(Gb c).length:=by
   have hl:=PK hp;have:0<VI c:=by
    unfold VI
    cases h1:decide (c.fKind=1) with
    | true=>simp
    | false=>
     cases h2:decide (c.fKind=2) with
     | true=>
      simp[pl,h1,h2] at hp;simp only[Abu,Ab0];omega
     | false=>
      cases h3:decide (c.fKind=3) with
      | true=>
       simp only[Abu,Ab0];have:Lib.itoa c.fInt≠[]:=Y7 _;have:=List.length_pos_iff.2 this;omega
      | false=>
       cases h4:decide (c.fKind=4) with
       | true=>have:=LK c.fStr;simp only[Abu,Ab0];omega
       | false=>simp
   omega
  omega
 | node k c kids r=>
  have:=Jl c (kids.txt true);simp only[Fo.txt,Abr];omega
theorem SL {v:List Ac}(hA:J0 M v)(hM:M≤2000000){F:Nat}(hF:4*M+8<F):L4 F v=some (Ss v):=by
 have hvM:=hA.hv;unfold L4 Ss;rw[Ml hA hM (by omega),B7 rfl];unfold Ji
 cases hwh:whole v with
 | none=>rfl
 | some f=>
  change B2 (!decide (Mc f=0)) _ _=some (bif decide (Mc f=0) then(f.txt true,0) else([],Mc f))
  cases he:decide (Mc f=0) with
  | false=>rw[Bh (p:=!false) rfl];rfl
  | true=>
   obtain⟨h1,h2,h3⟩:=IC hwh;have hl:v.length=f.flat.length:=by rw[h1]
   have hc:∀c∈f.flat,c.fStr.length≤M∧BF .i64 c.fInt=true∧c.fN≤9223372036854775807:=λc hc=>hA.hc c (by rw[h1];exact hc);have hb:=KH hM h2 (by omega) hc;have htl:((f.txt true).length:Int)=f.byt:=by rw[HE f false none true h2,Nz h3];simp
   have hA':J0 M f.flat:=by rw[← h1];exact hA
   have hw:=U6 (F:=F) (l:=[]) hA' h3 h2 (by omega) (by rw[Acb];omega);rw[AZ (p:=!true) rfl,h1,hw,B7 rfl,Acb,Da (Abt (Yc h2 h3))];rfl
end
def Wm (v:List Ac):Bool:=!decide (300<v.length)&&v.all λc=>!decide (300<c.fStr.length)
def W6 (c:Ac):Bool:=BF .i64 c.fKind&&BF .i64 c.fInt&&okS c.fStr&&BF .i64 c.fN
theorem J0.of {v:List Ac}(hs:Wm v=true)(hc:v.all W6=true):J0 300 v:=by
 unfold Wm at hs;simp only[Abv,AbE,Abn,AbV] at hs hc;refine⟨by decide,by omega,λc h=>?_⟩;obtain h1:=hs.2 c h;obtain h2:=hc c h;unfold W6 at h2;simp only[Abv] at h2;exact⟨by omega,h2.1.1.2,(G2 h2.2).2⟩
theorem To (a:Bool):imp a true=true:=by cases a<;>rfl
section
variable {M : Nat}
end
def pre:Al→Al→Option Al
 | [],s=>some s
 | c::w,d::s=>bif decide (c=d) then pre w s else none
 | _::_,[]=>none
def lf (k i:Int)(t:Al):Fo:=.cell none ⟨k,i,t,0⟩ .nil
def ZU (u S:Al):Prop:=∃p,S=p++u
theorem ZU.len {u S:Al}(h:ZU u S):u.length≤S.length:=by obtain⟨p,rfl⟩:=h;simp
theorem ZU.tail {c:UInt8}{r S:Al}(h:ZU (c::r) S):ZU r S:=by obtain⟨p,rfl⟩:=h;exact⟨p++[c],by simp⟩
theorem ZU.drop {u S:Al}(h:ZU u S):S.drop (Int.toNat ((S.length:Int)-u.length))=u:=by
 obtain⟨p,rfl⟩:=h;rw[show Int.toNat (((p++u).length:Int)-u.length)=p.length from by rw[Abr];omega,List.drop_left]
def hd (m:Bool)(N:Int):Ac:=⟨bif m then 6 else 5,0,[],N⟩
def plr (c:Ac):Bool:=bif decide (c.fKind=4) then decide (c.fInt=0)&&decide (c.fN=0) else pl c
def Fo.rw:Bool→Fo→Bool
 | _,.nil=>true
 | m,.cell k c r=>(k.isSome ==m)&&plr c&&!decide (0<c.fN)&&r.rw m
 | m,.node k c kids r=>(k.isSome ==m)&&plr c&&decide (0<c.fN)&&decide (c.fN=kids.cnt)&&kids.rw (decide (c.fKind=6))&&r.rw m
def X9 (K:Nat)(c:Ac):Prop:=c.fStr.length≤K∧BF .i64 c.fInt=true∧c.fN≤(K:Int)
theorem X9.mono {K K':Nat}{c:Ac}(h:X9 K c)(hk:K≤K'):X9 K' c:=⟨by have:=h.1;omega,h.2.1,by have:=h.2.2;omega⟩
open Go Go.RowKit
section
variable {M : Nat} {v : List Ac}
theorem SU (hA:J0 M v)(hM:M≤2000000){F:Nat}(hF:4*M+8<F):LE F v=some (Ss v):=by
 have hvM:=hA.hv;unfold LE Ss;rw[It hA hM (by omega),B7 rfl];unfold Ji
 cases hwh:whole v with
 | none=>rfl
 | some f=>
  change B2 (!decide (Mc f=0)) _ _=some (bif decide (Mc f=0) then(f.txt true,0) else([],Mc f))
  cases he:decide (Mc f=0) with
  | false=>rw[Bh (p:=!false) rfl];rfl
  | true=>
   obtain⟨h1,h2,h3⟩:=IC hwh;have hl:v.length=f.flat.length:=by rw[h1]
   have hc:∀c∈f.flat,c.fStr.length≤M∧BF .i64 c.fInt=true∧c.fN≤9223372036854775807:=λc hc=>hA.hc c (by rw[h1];exact hc);have hb:=KH hM h2 (by omega) hc;have htl:((f.txt true).length:Int)=f.byt:=by rw[HE f false none true h2,Nz h3];simp
   have hd0:v.drop (0:Int).toNat=f.flat++[]:=by rw[AbZ];exact h1
   rw[AZ (p:=!true) rfl,R1 hA (AbG 0) h3 h2 hd0 (by omega) (by omega),B7 rfl];rfl
end
theorem HU {α:Type}[Inhabited α]{l:List α}{i:Nat}(h:i<l.length):Ap l (i:Int)=l[i]:=by simp[Ap,h]
theorem H3 {α:Type}(p:Bool)(a b:α):B2 p (some a) (some b)=some (bif p then a else b):=by cases p<;>rfl
theorem OG {α:Type}(a b:Option α):B2 true a b=a:=rfl
theorem I7 {α:Type}(a b:Option α):B2 false a b=b:=rfl
theorem Ic {α:Type}(x:Option α):Ba true x=x:=rfl
theorem Jd (a:Bool):imp a true=true:=by cases a<;>rfl
theorem C9 {α β:Type}(a:α)(k:α→Option β):B3 (some a) k=k a:=rfl
def Je (g:Nat→Int):Nat→Nat→Int
 | _,0=>0
 | i,k+1=>bif decide (g i=0) then Je g (i+1) k else g i
theorem O3 {U:Type}{N:Nat}{g:Nat→Int}{body:Int→Option (Stp Int (Out Int U))}{u:U}(hb:∀i:Nat,i<N→body (i:Int)=B2 (!decide (g i=0)) (some (.out (.ret (g i)))) (some (.next ((i:Int)+1))))(he:body (N:Int)=some (.out (.go u))) :
  ∀(k n i:Nat),i+k=N→k<n→B3 (Ci body n (i:Int)) (BS λ_=>some 0)=some (Je g i k):=by
 intro k
 induction k with
 | zero=>
  intro n i h hn;obtain⟨n,rfl⟩:∃m,n=m+1:=⟨n-1,by omega⟩
  obtain rfl:i=N:=by omega
  rw[Ci,he];rfl
 | succ k ih=>
  intro n i h hn;obtain⟨n,rfl⟩:∃m,n=m+1:=⟨n-1,by omega⟩
  rw[Ci,hb i (by omega),Je]
  cases hg:decide (g i=0) with
  | true=>
   have:=ih n (i+1) (by omega) (by omega);exact this
  | false=>rfl
theorem PO {g:Nat→Int}:∀{k i:Nat},Je g i k=0→∀j,i≤j→j<i+k→g j=0
 | 0,i,_,j,h1,h2=>by omega
 | k+1,i,h,j,h1,h2=>by
  rw[Je] at h
  cases hg:decide (g i=0) with
  | false=>
   rw[hg] at h;exact absurd h (Acg hg)
  | true=>
   rw[hg] at h;rcases Nat.eq_or_lt_of_le h1 with rfl | h3
   ·exact AbK hg
   ·exact PO (k:=k) (i:=i+1) h j h3 (by omega)
structure EfA (M:Nat) (x:Ar):Prop where
 v:J0 M x.fValue
 k:x.fKey.length≤1000000000
structure VK (M:Nat) (c:AS):Prop where
 r:J0 M c.fResult
 es:∀x∈c.fEffects,EfA M x
 ev:c.fEvent.length≤1000000000
 tn:c.fTenant.length≤1000000000
def I2 (n:Int):Bool:=decide (0≤n)&&decide (n≤1073741824)
def UW (k:Int):Bool:=decide (k=3)||(decide (k=4)||decide (k=5))
def Vh (x:Ar):Bool:=bif decide (x.fKind=3)||decide (x.fKind=4) then Dx x.fKey else HR x.fKey
def opO (v:List Ac):Bool:=decide (1<(v.length:Int))&&(decide ((Ap v 0).fKind=5)&&decide ((Ap v 1).fKind=4))
def NY (event:Al)(i:Int)(x:Ar):Int:=
 bif decide (x.fKind=5)&&!opO x.fValue then 7 else
 bif (bif !decide (x.fKind=4) then !decide (x.fDelay=0)||!I2 x.fDelay else !I2 x.fDelay) then 2 else
 bif UW x.fKind then Cg event i else 0
def Nm (event:Al)(i:Int)(x:Ar):Int:=
 bif decide (x.fKind<1)||decide (5<x.fKind) then 7 else
 bif !Vh x then 4 else
 bif decide (x.fKind=2) then(bif decide (0<(x.fValue.length:Int)) then 7 else NY event i x) else
 bif !decide (Ji x.fValue=0) then Ji x.fValue else NY event i x
theorem MT (n:Int):BR n=some (I2 n):=rfl
theorem Pz (n:Int):CQ n=some (I2 n):=rfl
theorem Q4 (n:Int):EO n=some (UW n):=rfl
theorem Qs (n:Int):EM n=some (UW n):=rfl
theorem Vc (x:Ar):Q5 x=some (Vh x):=H3 _ _ _
theorem Pe (v:List Ac):CS v=some (opO v):=by
 unfold CS
 by_cases h:1<(v.length:Int)
 ·rw[Tn (by omega) (by omega),Tn (by omega) (by omega)];simp only[Jd,Ic];rfl
 ·unfold opO;rw[Abs h];rfl
theorem WJ {event:Al}{i:Int}(x:Ar)(h1:CX 1 event.length=true)(h2:BF .i64 i=true) :
  (Ba (imp (decide (x.fKind=5)) ((CS x.fValue).isSome))<|B2 (((decide (x.fKind=5))&&(!(ov (CS x.fValue))))) (some 7) (Ba (imp (!decide (x.fKind=4)) (imp (!(!decide (x.fDelay=0))) ((BR x.fDelay).isSome)))<|Ba (imp (!(!decide (x.fKind=4))) ((BR x.fDelay).isSome))<|B2 ((bif !decide (x.fKind=4) then((!decide (x.fDelay=0))||(!(ov (BR x.fDelay)))) else !(ov (BR x.fDelay)))) (some 2) (B3 (EO x.fKind) λha=>B2 (ha) (Ba (CX 1 event.length)<|Ba (BF .i64 i)<|some (Cg event i)) (some 0))))=some (NY event i x):=by
 simp only[Pe,MT,Q4,Option.isSome_some,Jd,Ic,IO,C9,h1,h2,H3];rfl
theorem Te {M F:Nat}{event:Al}{i:Int}{x:Ar}(hA:EfA M x)(hM:M≤2000000)(hF:M<F)(h1:event.length≤1000000000)(h2:BF .i64 i=true):Kw F event x i=some (Nm event i x):=by
 unfold Kw;simp only[WJ x (Abt (by omega):CX 1 event.length=true) h2,Vc,C9,Ml hA.v hM hF,H3];rfl
theorem M1 {v:List Ac}(h:Ji v=0):0<v.length∧((Ap v 0).fKind=5→(Ap v 0).fN≠0→1<v.length)∧((Ap v 0).fN=0→v.length=1):=by
 unfold Ji at h
 cases hw:whole v with
 | none=>rw[hw] at h;simp at h
 | some f=>
  obtain⟨h1,h2,h3⟩:=IC hw
  cases f with
  | nil=>cases h3
  | cell k c r=>
   cases k with
   | some _=>cases h3
   | none=>
    cases r with
    | nil=>
     obtain rfl:v=[c]:=h1;simp only[Fo.wf,Abv,AbE,Abn] at h2;refine⟨by simp,λh5 hn=>?_,λ_=>rfl⟩;exfalso;have hp:=h2.1.1.2;have e0:Ap [c] 0=c:=rfl;rw[e0] at h5 hn;unfold pl at hp;rw[h5] at hp;simp at hp;omega
    | _=>cases h3
  | node k c kids r=>
   cases k with
   | some _=>cases h3
   | none=>
    cases r with
    | nil=>
     have h1':v=c::kids.flat:=by rw[h1];simp[Fo.flat,BM]
     subst h1';simp only[Fo.wf,Abv,Abo] at h2;have hk:kids.flat≠[]:=by
      cases kids with
      | nil=>intro _;have:=h2.1.1.1.2;have:=h2.1.1.2;simp[Fo.cnt] at this;omega
      | cell k c r=>cases k<;>simp[Fo.flat,BM]
      | node k c kids r=>cases k<;>simp[Fo.flat,BM]
     have e0:Ap (c::kids.flat) 0=c:=rfl;refine⟨by simp,λ_ _=>?_,λhn=>?_⟩
     ·have:=List.length_pos_iff.2 hk;simp only[AbB];omega
     ·rw[e0] at hn;have:=h2.1.1.1.2;omega
    | _=>cases h3
theorem Zw {v:List Ac}(h:Ji v=0):((!decide ((Ap v 0).fKind=5))||((decide ((Ap v 0).fN=0))||(!decide ((Ap v 1).fKind=4)))) = !opO v:=by
 obtain⟨h0,h1,h2⟩:=M1 h;unfold opO
 by_cases h5:(Ap v 0).fKind=5
 ·by_cases hn:(Ap v 0).fN=0
  ·have:=h2 hn;rw[Abt h5,Abt hn,Abs (by omega : ¬ 1<(v.length:Int))];rfl
  ·have:=h1 h5 hn;rw[Abt h5,Abs hn,Abt (by omega:1<(v.length:Int))];simp
 ·rw[Abs h5];simp
theorem We (k d:Int):(bif decide (k=4) then !(I2 d) else !decide (d=0))=(bif !decide (k=4) then !decide (d=0)||!I2 d else !I2 d):=by
 by_cases h4:k=4
 ·rw[Abt h4];rfl
 ·rw[Abs h4]
  by_cases hd:d=0
  ·subst hd;rfl
  ·rw[Abs hd];rfl
theorem R2 {event:Al}{i:Int}(x:Ar)(hv:x.fKind≠2→Ji x.fValue=0)(h1:CX 1 event.length=true)(h2:BF .i64 i=true) :
  (Ba (imp (decide (x.fKind=5)) (CP 0 (x.fValue.length:Int)))<|Ba (imp (decide (x.fKind=5)) (imp (!(!decide (((Ap x.fValue 0).fKind)=5))) (imp (!(decide (((Ap x.fValue 0).fN)=0))) (CP 1 (x.fValue.length:Int)))))<|B2 (((decide (x.fKind=5))&&((!decide (((Ap x.fValue 0).fKind)=5))||((decide (((Ap x.fValue 0).fN)=0))||(!decide (((Ap x.fValue 1).fKind)=4)))))) (some 7) (Ba (imp (decide (x.fKind=4)) ((CQ x.fDelay).isSome))<|B2 ((bif decide (x.fKind=4) then !(ov (CQ x.fDelay)) else !decide (x.fDelay=0))) (some 2) (B3 (EM x.fKind) λha=>B2 (!ha) (some 0) (Ba (CX 1 event.length)<|Ba (BF .i64 i)<|some (Cg event i)))))=some (NY event i x):=by
 have c1:imp (decide (x.fKind=5)) (CP 0 (x.fValue.length:Int))=true:=by
  by_cases h5:x.fKind=5
  ·have:=(M1 (hv (by omega))).1;rw[Tn (by omega) (by omega)];exact Jd _
  ·rw[Abs h5];rfl
 have c2:imp (decide (x.fKind=5)) (imp (!(!decide (((Ap x.fValue 0).fKind)=5))) (imp (!(decide (((Ap x.fValue 0).fN)=0))) (CP 1 (x.fValue.length:Int))))=true:=by
  by_cases h5:x.fKind=5
  ·by_cases k5:(Ap x.fValue 0).fKind=5
   ·by_cases hn:(Ap x.fValue 0).fN=0
    ·rw[Abt hn];simp[imp]
    ·have:=(M1 (hv (by omega))).2.1 k5 hn;rw[Tn (by omega) (by omega)];simp only[Jd]
   ·rw[Abs k5];simp[imp]
  ·rw[Abs h5];rfl
 have c3:((decide (x.fKind=5))&&((!decide (((Ap x.fValue 0).fKind)=5))||((decide (((Ap x.fValue 0).fN)=0))||(!decide (((Ap x.fValue 1).fKind)=4)))))=(decide (x.fKind=5)&&!opO x.fValue):=by
  by_cases h5:x.fKind=5
  ·rw[Zw (hv (by omega))]
  ·rw[Abs h5];rfl
 have c4:(λb:Bool=>(bif !b then(0:Int) else Cg event i))=λb=>bif b then Cg event i else 0:=by funext b;cases b<;>rfl
 simp only[c1,c2,c3,Pz,Qs,Option.isSome_some,Jd,Ic,IO,C9,h1,h2,H3,We];unfold NY
 cases UW x.fKind<;>rfl
theorem SV {M F:Nat}{event:Al}{i:Int}{x:Ar}(hA:EfA M x)(hM:M≤2000000)(hF:4*M+6<F)(h1:event.length≤1000000000)(h2:BF .i64 i=true):LF F event i x=some (Nm event i x):=by
 unfold LF Nm;have hk:CX 1 x.fKey.length=true:=Abt (by have:=hA.k;omega);have he:CX 1 event.length=true:=Abt (by omega)
 by_cases h2k:x.fKind=2
 ·have ht:=R2 x (λh=>absurd h2k h) he h2;simp only[ht,hk,Ic,It hA.v hM hF,C9,H3,Abt h2k];unfold Vh
  cases decide (x.fKind=3)||decide (x.fKind=4)<;>rfl
 ·by_cases hv:Ji x.fValue=0
  ·have ht:=R2 x (λ_=>hv) he h2;simp only[ht,hk,Ic,It hA.v hM hF,C9,H3,Abs h2k,I7];unfold Vh
   cases decide (x.fKind=3)||decide (x.fKind=4)<;>rfl
  ·rw[It hA.v hM hF,hk,Ic,C9,Abs h2k,Abs hv];unfold Vh;simp only[Ab5,OG,I7,H3]
   cases decide (x.fKind=3)||decide (x.fKind=4)<;>rfl
def Pj (c:AS):Int:=
 bif !(HR c.fEvent)||!(Dx c.fTenant) then 4 else
 bif decide (c.fAttempt<1)||(decide (1073741824<c.fAttempt)||!I2 c.fAt) then 2 else
 bif !decide (Ji c.fResult=0) then Ji c.fResult else
 bif decide (32<(c.fEffects.length:Int)) then 3 else
 Je (λi=>Nm c.fEvent (i:Int) (Ap c.fEffects (i:Int))) 0 c.fEffects.length
theorem PE {M F:Nat}{c:AS}(hA:VK M c)(hM:M≤2000000)(hF:M<F)(hF0:32<F):Gw F c=some (Pj c):=by
 unfold Gw Pj;simp only[MT,Option.isSome_some,Jd,Ic,IO,Ml hA.r hM hF,C9]
 by_cases hl:32<(c.fEffects.length:Int)
 ·rw[Abt hl];simp only[OG,H3];rfl
 ·have:=O3 (N:=c.fEffects.length) (g:=λi=>Nm c.fEvent (i:Int) (Ap c.fEffects (i:Int))) (body:=λσ=>EQ F c σ) (u:=()) (λi hi=>by
   unfold EQ;rw[Bh (Abt (by omega)),BC (by omega) (by omega),Te (hA.es _ (by rw[HU hi];exact List.getElem_mem hi)) hM hF hA.ev (Hz (by omega) (by omega)),C9,AW (by omega) (by omega)]) (by unfold EQ;rw[AZ (Abs (by omega))]) c.fEffects.length F 0 (by omega) (by omega)
  rw[Abs hl];rw[show B3 (Ci (λσ=>EQ F c σ) F 0) (BS λν=>I1)=some (Je (λi=>Nm c.fEvent (i:Int) (Ap c.fEffects (i:Int))) 0 c.fEffects.length) from this];simp only[I7,H3]
theorem MP {M F:Nat}{c:AS}(hA:VK M c)(hM:M≤2000000)(hF:4*M+100<F):DW F c=some (Pj c):=by
 unfold DW Pj;have h1:CX 1 c.fEvent.length=true:=Abt (by have:=hA.ev;omega);have h2:CX 1 c.fTenant.length=true:=Abt (by have:=hA.tn;omega);simp only[h1,h2,Pz,Option.isSome_some,Jd,Ic,IO,It hA.r hM (by omega:4*M+6<F),C9]
 by_cases hl:32<(c.fEffects.length:Int)
 ·rw[Abt hl];simp only[OG,H3];rfl
 ·have:=O3 (N:=c.fEffects.length) (g:=λi=>Nm c.fEvent (i:Int) (Ap c.fEffects (i:Int))) (body:=λσ=>DM F c σ) (u:=()) (λi hi=>by
   unfold DM;rw[Bh (Abt (by omega)),BC (by omega) (by omega),SV (hA.es _ (by rw[HU hi];exact List.getElem_mem hi)) hM (by omega) hA.ev (Hz (by omega) (by omega)),C9,AW (by omega) (by omega)]) (by unfold DM;rw[AZ (Abs (by omega))]) c.fEffects.length F 0 (by omega) (by omega)
  rw[Abs hl];rw[show B3 (Ci (λσ=>DM F c σ) F 0) (BS λν=>G5)=some (Je (λi=>Nm c.fEvent (i:Int) (Ap c.fEffects (i:Int))) 0 c.fEffects.length) from this];simp only[I7,H3]
def sB (b:BitVec 32):BitVec 32:=if b.getLsbD 0=true then(b>>>1)^^^3988292384#32 else b>>>1
def Ra:Nat→BitVec 32→BitVec 32
 | 0,b=>b
 | n+1,b=>Ra n (sB b)
theorem Zt (a b:BitVec 32):sB (a^^^b)=sB a^^^sB b:=by
 unfold sB;rw[BitVec.getLsbD_xor,BitVec.ushiftRight_xor_distrib]
 cases a.getLsbD 0<;>cases b.getLsbD 0
 ·simp
 ·simp[BitVec.xor_assoc]
 ·simp only[Bool.xor_false,AbL,Abx,AbH];rw[BitVec.xor_assoc,BitVec.xor_assoc,BitVec.xor_comm (b>>>1)]
 ·simp only[Bool.xor_self,Abx,AbH,AbL];rw[BitVec.xor_assoc,BitVec.xor_comm 3988292384#32,BitVec.xor_assoc,BitVec.xor_self,BitVec.xor_zero]
theorem TD:∀(n:Nat) (a b:BitVec 32),Ra n (a^^^b)=Ra n a^^^Ra n b
 | 0,_,_=>rfl
 | n+1,a,b=>by rw[Ra,Zt,TD n];rfl
theorem Px:∀(n:Nat) (b:BitVec 32),(∀i,i<n→b.getLsbD i=false)→Ra n b=b>>>n
 | 0,b,_=>by simp[Ra]
 | n+1,b,h=>by
  have h0:sB b=b>>>1:=by unfold sB;rw[h 0 (by omega)];simp
  rw[Ra,h0,Px n (b>>>1) (λi hi=>by rw[BitVec.getLsbD_ushiftRight];exact h _ (by omega))];rw[← BitVec.shiftRight_add,Nat.add_comm]
theorem UG (x:BitVec 32):Ra 8 x=Ra 8 (x&&& 255#32)^^^(x>>>8):=by
 have e:x=(x&&& 255#32)^^^(x&&& 4294967040#32):=by
  apply BitVec.eq_of_getLsbD_eq;intro i hi;rw[BitVec.getLsbD_xor,BitVec.getLsbD_and,BitVec.getLsbD_and];have hh:∀j:_root_.Fin 32,(4294967040#32).getLsbD j = !(255#32).getLsbD j:=by decide
  rw[hh ⟨i,hi⟩]
  cases x.getLsbD i<;>cases(255#32).getLsbD i<;>rfl
 have hz:∀i,i<8→(x&&& 4294967040#32).getLsbD i=false:=λi hi=>by
  rw[BitVec.getLsbD_and];have:(4294967040#32).getLsbD i=false:=by
   have hh:∀i:_root_.Fin 8,(4294967040#32).getLsbD i=false:=by decide
   exact hh ⟨i,hi⟩
  rw[this,Ab7]
 have hs:(x&&& 4294967040#32)>>>8=x>>>8:=by
  apply BitVec.eq_of_getLsbD_eq;intro i hi;rw[BitVec.getLsbD_ushiftRight,BitVec.getLsbD_ushiftRight,BitVec.getLsbD_and]
  by_cases h:8+i<32
  ·have hh:∀j:_root_.Fin 24,(4294967040#32).getLsbD (8+j)=true:=by decide
   rw[hh ⟨i,by omega⟩,Ab8]
  ·rw[BitVec.getLsbD_of_ge x _ (by omega)];rfl
 conv=>lhs;rw[e]
 rw[TD,Px 8 _ hz,hs]
def bv (x:Int):BitVec 32:=BitVec.ofInt 32 x
def nv (b:BitVec 32):Int:=(b.toNat:Int)
def W32 (x:Int):Prop:=0≤x∧x<4294967296
theorem W32.nv (b:BitVec 32):W32 (nv b):=⟨by unfold Proofs.YtfobhhegpkinaaaGreatDoor.nv;omega,by have:=b.isLt;unfold Proofs.YtfobhhegpkinaaaGreatDoor.nv;omega⟩
theorem Aav {x:Int}(h:W32 x):nv (bv x)=x:=by
 unfold nv bv;have h1:=h.1;have h2:=h.2;rw[BitVec.toNat_ofInt];have:x % ((2 ^ 32:Nat):Int)=x:=Int.emod_eq_of_lt h1 (by simpa using h2);rw[this];omega
theorem OL (b:BitVec 32):bv (nv b)=b:=by
 apply BitVec.eq_of_toNat_eq;have h:=Aav (W32.nv b);unfold nv at h;exact Int.ofNat_inj.1 h
theorem T4 (b:BitVec 32):IntKind.wrap .u32 (b.toNat:Int)=nv b:=by
 have:=b.isLt;unfold nv;simp[IntKind.wrap,IntKind.signed,IntKind.bits];omega
theorem N4 (x y:Int):E0 .u32 x y=nv (bv x^^^bv y):=T4 (bv x^^^bv y)
theorem YC (x y:Int):Lp .u32 x y=nv (bv x&&& bv y):=T4 (bv x&&& bv y)
theorem Ub {n:Nat}(hn:n≤32)(b:BitVec 32):Ce .u32 (nv b) (n:Int)=nv (b>>>n):=by
 unfold Ce nv;have e:min (n:Int).toNat (IntKind.bits .u32)=n:=by
  have:IntKind.bits .u32=32:=rfl;rw[this];omega
 rw[e,BitVec.toNat_ushiftRight,Nat.shiftRight_eq_div_pow];rw[Int.fdiv_eq_ediv_of_nonneg _ (by exact Int.pow_nonneg (by omega))];simp
theorem Z9 (b:BitVec 32):decide (Lp .u32 (nv b) 1=1)=b.getLsbD 0:=by
 rw[YC,OL];have e:bv 1=1#32:=by decide
 rw[e];have h:(b&&& 1#32).toNat=b.toNat % 2:=by
  rw[BitVec.toNat_and];exact Nat.and_one_is_mod _
 unfold nv;rw[h,BitVec.getLsbD,Nat.testBit_zero];rw[AbN];simp only[Abo];omega
theorem Ry (b:BitVec 32):(bif decide (Lp .u32 (nv b) 1=1) then E0 .u32 (Ce .u32 (nv b) 1) 3988292384 else Ce .u32 (nv b) 1)=nv (sB b):=by
 have hs:Ce .u32 (nv b) 1=nv (b>>>1):=Ub (n:=1) (by omega) b;have e:bv 3988292384=3988292384#32:=by decide
 rw[Z9,hs,N4,OL,e];unfold sB
 cases b.getLsbD 0<;>rfl
def ZR (n:Nat):Al:=[UInt8.ofNat (n/16777216),UInt8.ofNat (n/65536),UInt8.ofNat (n/256),UInt8.ofNat n]
def HS (c:UInt8):BitVec 32:=BitVec.ofNat 32 c.toNat
def V4 (b:BitVec 32):Al→BitVec 32
 | []=>b
 | c::s=>V4 (Ra 8 (b^^^HS c)) s
def ZQ (s:Al):Nat:=(~~~ (V4 4294967295#32 s)).toNat
def Dr (b:Al):Al:=ZR b.length++ZR (ZQ b)++b
theorem Kj (b:Al):(Dr b).length=8+b.length:=by simp[Dr,ZR];omega
theorem Pi (l:List Al):∀b∈l,8+b.length≤(l.flatMap Dr).length:=by
 induction l with
 | nil=>intro b hb;cases hb
 | cons c l ih=>
  intro b hb;rw[Acj,Abr,Kj];rcases List.mem_cons.1 hb with rfl | hb
  ·omega
  ·have:=ih b hb;omega
def MW (l:List Al):Al×Int:=bif decide ((l.flatMap Dr).length≤262144) then(l.flatMap Dr,0) else([],3)
theorem Kr (s:Al):Iz (Du s)=s:=by
 unfold Iz Du;rw[Acm];have:((λx:Int=>UInt8.ofNat x.toNat) ∘ λc:UInt8=>(c.toNat:Int))=id:=by funext c;simp
 rw[this,List.map_id]
theorem Qf (a b:Al):Du a++Du b=Du (a++b):=by simp[Du]
theorem SN (a:Al):(Du a).length=a.length:=by simp[Du]
theorem KO (n:Nat):IntKind.wrap .u8 (n:Int)=((UInt8.ofNat n).toNat:Int):=by
 simp[IntKind.wrap,IntKind.signed,IntKind.bits]
theorem AaS (n:Nat):Ce .i64 (n:Int) 8=((n/256:Nat):Int):=by
 unfold Ce;have e:min (8:Int).toNat (IntKind.bits .i64)=8:=by decide
 rw[e,Int.fdiv_eq_ediv_of_nonneg _ (by decide)];simp
def QL (f:Al):Al:=UInt8.ofNat (f.length/256)::UInt8.ofNat (f.length % 256)::f
def LM (l:List Al):Al:=UInt8.ofNat l.length::l.flatMap QL
def UX (l:List Al):Bool:=decide (l.length≤64)&&l.all λf=>decide (f.length≤4000)
def KR (l:List Al):Al×Int:=bif UX l then(LM l,0) else([],3)
theorem P6 (l:List Al)(b:List Int×Int→Option (Stp (List Int×Int) (Out (Al×Int) (List Int))))(hl:l.length≤64)
  (hb:∀(acc:List Int) (x:Int) (f:Al),acc.length≤300000→0≤x→x<(l.length:Int)→Ap l x=f→b (acc,x)=bif decide (4000<f.length) then some (.out (.ret ([],3))) else some (.next (acc++Du (QL f),x+1)))
  (he:∀acc,b (acc,(l.length:Int))=some (.out (.go acc))) {F:Nat} (hF:64<F) :
  B3 (Ci b F (Du [UInt8.ofNat l.length],0)) (BS λq=>some (Iz q,0))=some (KR l):=by
 have key:∀(k:Nat) (F:Nat) (acc:Al),k<F→k≤l.length→acc.length≤1+(l.length-k)*4002→
   B3 (Ci b F (Du acc,((l.length-k:Nat):Int))) (BS λq=>some (Iz q,0))=some (bif (l.drop (l.length-k)).all (λf=>decide (f.length≤4000)) then(acc++(l.drop (l.length-k)).flatMap QL,0) else([],3)):=by
  intro k
  induction k with
  | zero=>
   intro F acc hF _ _
   cases F with
   | zero=>omega
   | succ F=>rw[Ci,Nat.sub_zero,he];simp[B3,BS,Kr]
  | succ k ih=>
   intro F acc hF hk hacc
   cases F with
   | zero=>omega
   | succ F=>
    have hlt:l.length-(k+1)<l.length:=by omega
    have hat:Ap l ((l.length-(k+1):Nat):Int)=l[l.length-(k+1)]:=by simp[Ap,hlt]
    have hd:l.drop (l.length-(k+1))=l[l.length-(k+1)]::l.drop (l.length-k):=by
     rw[List.drop_eq_getElem_cons hlt];congr 2;omega
    have ha:(l.length-(k+1))*4002≤64*4002:=Nat.mul_le_mul_right _ (by omega);rw[Ci,hb _ _ _ (by rw[SN];omega) (by omega) (by omega) hat,hd];generalize l[l.length-(k+1)]=f at *
    cases h4:decide (4000<f.length) with
    | true=>
     simp only[Abo] at h4;rw[List.all_cons,Abs (by omega),Ab6];rfl
    | false=>
     simp only[Abn] at h4;have e2:(l.length-(k+1))*4002+4002=(l.length-k)*4002:=by
      rw[show l.length-k=l.length-(k+1)+1 from by omega,Nat.succ_mul]
     have:=ih F (acc++QL f) (by omega) (by omega) (by simp[QL];omega);rw[show((l.length-(k+1):Nat):Int)+1=((l.length-k:Nat):Int) from by omega];simp only[Abu,Qf];rw[this,List.all_cons,Abt (by omega),Ab1,Acj,AbM]
 have:=key l.length F [UInt8.ofNat l.length] (by omega) (AbI _) (by simp);simp only[Nat.sub_self,List.drop_zero] at this;refine Eq.trans this ?_;unfold KR UX LM;rw[Abt hl,Ab1];rfl
theorem H6 {α:Type}{n:Nat}{x:Option α}(h:n≤1000000000):Ba (CX 1 n) x=x:=Da (Abt (by omega))
theorem Na (f:Al):decide ((4000:Int)<(f.length:Int))=decide (4000<f.length):=by rw[AbN];simp;omega
theorem X0 {F:Nat}{l:List Al}(hF:64<F):Sj F l=some (KR l):=by
 unfold Sj
 by_cases ha:l.length≤64
 ·rw[AZ (Abs (by omega)),KO];refine P6 l _ ha (λacc x f hacc h0 hx hat=>?_) (λacc=>?_) hF
  ·show GD l acc x=_;unfold GD;rw[Bh (Abt hx),BC h0 hx,hat,Na]
   cases h4:decide (4000<f.length) with
   | true=>rfl
   | false=>
    simp only[Abn] at h4;have e1:([IntKind.wrap .u8 (Ce .i64 (f.length:Int) 8),IntKind.wrap .u8 (f.length:Int)]:List Int)++Du f=Du (QL f):=by
     rw[AaS,KO,KO];simp[Du,QL]
    rw[AZ rfl,H6 (by simp;omega),H6 (by simp;omega),AW (by omega) (by omega),AbM,e1];rfl
  ·show GD l acc _=_;unfold GD;rw[AZ (Abs (by omega))]
 ·rw[Bh (Abt (by omega))];unfold KR UX;rw[Abs ha];rfl
theorem UT {F:Nat}{l:List Al}(hF:64<F):Ol F l=some (KR l):=by
 unfold Ol
 by_cases ha:l.length≤64
 ·rw[AZ (Abs (by omega)),KO];refine P6 l _ ha (λacc x f hacc h0 hx hat=>?_) (λacc=>?_) hF
  ·show EN l acc x=_;unfold EN;rw[Bh (Abt hx),BC h0 hx,hat,Na]
   cases h4:decide (4000<f.length) with
   | true=>rfl
   | false=>
    simp only[Abn] at h4;have ed:Int.tdiv (f.length:Int) 256=((f.length/256:Nat):Int):=by rw[Int.tdiv_eq_ediv_of_nonneg (by omega)];rfl
    have em:Int.tmod (f.length:Int) 256=((f.length % 256:Nat):Int):=by rw[Int.tmod_eq_emod_of_nonneg (by omega)];rfl
    have e1:([IntKind.wrap .u8 (Int.tdiv (f.length:Int) 256),IntKind.wrap .u8 (Int.tmod (f.length:Int) 256)]:List Int)++Du f=Du (QL f):=by
     rw[ed,em,KO,KO];simp[Du,QL]
    rw[AZ rfl,AW (by rw[ed];omega) (by rw[ed];omega),H6 (by simp;omega),H6 (by simp;omega),AW (by omega) (by omega),AbM,e1];rfl
  ·show EN l acc _=_;unfold EN;rw[AZ (Abs (by omega))]
 ·rw[Bh (Abt (by omega))];unfold KR UX;rw[Abs ha];rfl
theorem S3 {s:Al}{k:Nat}{a:UInt8}{r:Al}(h:s.drop k=a::r):B1 s (k:Int)=(a.toNat:Int):=by
 have:s[k]? =some a:=by rw[← List.head?_drop,h];rfl
 simp[B1,this]
def tb (i:Nat):Int:=nv (Ra 8 (BitVec.ofNat 32 i))
def J4 (x:Nat):List Int:=(List.range 256).map λi=>if i<x then tb i else 0
theorem JG (x:Nat):(J4 x).length=256:=by simp[J4]
theorem Wf {x:Nat}(h:x<256):(J4 x).set x (tb x)=J4 (x+1):=by
 apply List.ext_getElem (by simp[J4]);intro i h1 h2;simp only[J4,List.getElem_set,List.getElem_map,List.getElem_range]
 by_cases e:x=i
 ·subst e;simp
 ·rw[Aca e]
  by_cases g:i<x
  ·rw[Aci g,Aci (by omega)]
  ·rw[Aca g,Aca (by omega)]
theorem Zq:J4 0=List.replicate 256 (0:Int):=by
 apply List.ext_getElem
 ·rw[JG,List.length_replicate]
 ·intro i h1 h2;rw[List.getElem_replicate];simp only[J4,List.getElem_map,List.getElem_range,Nat.not_lt_zero,AbH]
theorem ZS {i:Nat}(h:i<256):Ap (J4 256) (i:Int)=tb i:=by simp[Ap,J4,h]
theorem Xq (k:Nat):∀(n:Nat) (b:BitVec 32) (x:Int),0≤x→x+k=8→k<n→Ci (λσ:Int×Int=>Gz σ.1 σ.2) n (nv b,x)=some (.go (nv (Ra k b),8,false)):=by
 induction k with
 | zero=>
  intro n b x h0 h hn;obtain⟨n,rfl⟩:∃m,n=m+1:=⟨n-1,by omega⟩
  have:x=8:=by omega
  subst this;rfl
 | succ k ih=>
  intro n b x h0 h hn;obtain⟨n,rfl⟩:∃m,n=m+1:=⟨n-1,by omega⟩
  have hb:Gz (nv b) x=some (.next (nv (sB b),x+1)):=by
   unfold Gz;rw[Bh (Abt (by omega)),AW (by omega) (by omega),Ry]
  rw[Ci,hb];exact ih n (sB b) (x+1) (by omega) (by omega) (by omega)
theorem Wq (k:Nat):∀(n:Nat) (b:BitVec 32) (x:Int),0≤x→x+k=8→k<n→Ci (λσ:Int×Int=>Ht σ.1 σ.2) n (nv b,x)=some (.go (nv (Ra k b),8,8,false)):=by
 induction k with
 | zero=>
  intro n b x h0 h hn;obtain⟨n,rfl⟩:∃m,n=m+1:=⟨n-1,by omega⟩
  have:x=8:=by omega
  subst this;rfl
 | succ k ih=>
  intro n b x h0 h hn;obtain⟨n,rfl⟩:∃m,n=m+1:=⟨n-1,by omega⟩
  have hb:Ht (nv b) x=some (.next (nv (sB b),x+1)):=by
   unfold Ht;rw[Bh (Abt (by omega)),AW (by omega) (by omega),Ry]
  rw[Ci,hb];exact ih n (sB b) (x+1) (by omega) (by omega) (by omega)
theorem SF (n:Nat):IntKind.wrap .u32 (n:Int)=nv (BitVec.ofNat 32 n):=by
 unfold nv;rw[BitVec.toNat_ofNat];simp[IntKind.wrap,IntKind.signed,IntKind.bits]
theorem Sd {F:Nat}(hF:8<F)(k:Nat):∀(n:Nat) (x:Nat),x+k=256→k<n→Ci (λσ:Int×List Int=>G0 F σ.1 σ.2) n ((x:Int),J4 x)=some (.go (J4 256)):=by
 induction k with
 | zero=>
  intro n x h hn;obtain⟨n,rfl⟩:∃m,n=m+1:=⟨n-1,by omega⟩
  have:x=256:=by omega
  subst this;rfl
 | succ k ih=>
  intro n x h hn;obtain⟨n,rfl⟩:∃m,n=m+1:=⟨n-1,by omega⟩
  have hb:G0 F (x:Int) (J4 x)=some (.next (((x+1:Nat):Int),J4 (x+1))):=by
   unfold G0;rw[Bh (Abt (by omega)),SF,B7 (Xq 8 F _ 0 (by omega) (by omega) hF),EY];unfold I3;rw[show nv (Ra 8 (BitVec.ofNat 32 x))=tb x from rfl];rw[BC (by omega) (by omega),BC (by omega) (by rw[JG];omega),AW (by omega) (by omega),Int.toNat_natCast,Wf (by omega)];rfl
  rw[Ci,hb];exact ih n (x+1) (by omega) (by omega)
theorem Vt {F:Nat}(hF:300<F):O9 F=some (J4 256):=by
 unfold O9;have:=Sd (F:=F) (by omega) 256 F 0 (by omega) (by omega);rw[Zq] at this;rw[show((0:Int),List.replicate 256 (0:Int))=(((0:Nat):Int),List.replicate 256 (0:Int)) from rfl,B7 this,EY];unfold I4;rw[Da (Abt (JG 256)),Da (Abt List.length_replicate)]
theorem JY {α:Type}[Inhabited α]{l:List α}{i:Nat}{b:α}{r:List α}(h:l.drop i=b::r):Ap l (i:Int)=b∧i<l.length∧l.drop (i+1)=r:=by
 have hl:i<l.length:=by
  have:=congrArg List.length h;simp only[AbS,AbB] at this;omega
 have hg:l[i]? =some b:=by
  have:=congrArg (λt=>t[0]?) h;simpa using this
 refine⟨by simp[Ap,hg],hl,?_⟩;rw[← List.drop_drop,h];rfl
theorem XA (b:BitVec 32)(c:UInt8):E0 .u8 (IntKind.wrap .u8 (nv b)) (c.toNat:Int)=(((b^^^HS c).toNat % 256:Nat):Int):=by
 have hc:=c.toNat_lt;have e1:IntKind.wrap .u8 (nv b)=((b.toNat % 256:Nat):Int):=by
  unfold nv;simp[IntKind.wrap,IntKind.signed,IntKind.bits]
 have h1:(BitVec.ofInt (IntKind.bits .u8) ((b.toNat % 256:Nat):Int)^^^BitVec.ofInt (IntKind.bits .u8) (c.toNat:Int)).toNat=(b^^^HS c).toNat % 256:=by
  rw[BitVec.toNat_xor,BitVec.toNat_ofInt,BitVec.toNat_ofInt,BitVec.toNat_xor];have hbits:IntKind.bits .u8=8:=rfl;have e1:(((b.toNat % 256:Nat):Int) % ((2 ^ 8:Nat):Int)).toNat=b.toNat % 256:=by omega
  have e2:(((c.toNat:Nat):Int) % ((2 ^ 8:Nat):Int)).toNat=c.toNat % 256:=by omega
  have e3:(HS c).toNat=c.toNat:=by unfold HS;rw[BitVec.toNat_ofNat];omega
  rw[hbits,e1,e2,e3];exact(Nat.xor_mod_two_pow (n:=8)).symm
 unfold E0;rw[e1,h1];simp[IntKind.wrap,IntKind.signed,IntKind.bits]
theorem NG (b:BitVec 32)(c:UInt8):(b^^^HS c)>>>8=b>>>8:=by
 rw[BitVec.ushiftRight_xor_distrib];have:HS c>>>8=0#32:=by
  apply BitVec.eq_of_toNat_eq;have hc:=c.toNat_lt;rw[BitVec.toNat_ushiftRight,Nat.shiftRight_eq_div_pow];unfold HS;rw[BitVec.toNat_ofNat];show c.toNat % 4294967296/256=0;omega
 rw[this];simp
theorem Xd (z:BitVec 32):BitVec.ofNat 32 (z.toNat % 256)=z&&& 255#32:=by
 apply BitVec.eq_of_toNat_eq;have hz:=z.isLt;rw[BitVec.toNat_ofNat,BitVec.toNat_and];have:z.toNat&&& 255=z.toNat % 256:=Nat.and_two_pow_sub_one_eq_mod z.toNat 8;show z.toNat % 256 % 4294967296=z.toNat&&& 255;rw[this];omega
theorem X6 (b:BitVec 32)(c:UInt8):E0 .u32 (tb ((b^^^HS c).toNat % 256)) (Ce .u32 (nv b) 8)=nv (Ra 8 (b^^^HS c)):=by
 unfold tb;have hs:Ce .u32 (nv b) 8=nv (b>>>8):=Ub (n:=8) (by omega) b;rw[hs,N4,OL,OL,Xd,← NG b c,← UG]
theorem WT (b:BitVec 32):QG .u32 (nv b)=((~~~b).toNat:Int):=by
 show E0 .u32 4294967295 (nv b)=_;rw[N4,OL];have:bv 4294967295=BitVec.allOnes 32:=by decide
 rw[this,BitVec.allOnes_xor];rfl
theorem PM (s:Al):∀(r:Al) (n i:Nat) (b:BitVec 32),s.drop i=r→s.length≤1000000000→r.length<n→i≤s.length→Ci (λσ:Int×Int=>GS s (J4 256) σ.1 σ.2) n (nv b,(i:Int))=some (.go (nv (V4 b r)))
 | [],n,i,b,h,hs,hn,hi=>by
  obtain⟨n,rfl⟩:∃m,n=m+1:=⟨n-1,by simp at hn;omega⟩
  have:s.length≤i:=by simpa using h
  have hb:GS s (J4 256) (nv b) (i:Int)=some (.out (.go (nv b))):=by
   unfold GS;rw[AZ (Abs (by omega))]
  rw[Ci,hb];rfl
 | c::r,n,i,b,h,hs,hn,hi=>by
  obtain⟨n,rfl⟩:∃m,n=m+1:=⟨n-1,by simp at hn;omega⟩
  obtain⟨_,hl,hd⟩:=JY h;have hbt:=S3 h;have hz:(b^^^HS c).toNat % 256<256:=by omega
  have hb:GS s (J4 256) (nv b) (i:Int)=some (.next (nv (Ra 8 (b^^^HS c)),((i+1:Nat):Int))):=by
   unfold GS;rw[Bh (Abt (by omega)),BC (by omega) (by omega),hbt,XA,BC (by omega) (by omega),BC (by omega) (by rw[JG];omega),AW (by omega) (by omega),ZS hz,X6];rfl
  rw[Ci,hb];exact PM s r n (i+1) _ hd hs (by simp at hn;omega) (by omega)
theorem YD {F:Nat}{s:Al}(hF:300<F)(hs:s.length<F)(hl:s.length≤1000000000):Vu F s=some (ZQ s:Int):=by
 unfold Vu;rw[B7 (Vt hF),Da (Abt List.length_replicate),Da (Abt (JG 256))];rw[show((4294967295:Int),(0:Int))=(nv 4294967295#32,((0:Nat):Int)) from rfl,B7 (PM s s F 0 _ rfl hl hs (by omega))];show some (QG .u32 (nv (V4 4294967295#32 s)))=_;rw[WT];rfl
theorem On {F:Nat}(hF:8<F)(s:Al):∀(r:Al) (n i:Nat) (b:BitVec 32),s.drop i=r→s.length≤1000000000→r.length<n→i≤s.length→Ci (λσ:Int×Int=>EX F s σ.1 σ.2) n (nv b,(i:Int))=some (.go (nv (V4 b r)))
 | [],n,i,b,h,hs,hn,hi=>by
  obtain⟨n,rfl⟩:∃m,n=m+1:=⟨n-1,by simp at hn;omega⟩
  have:s.length≤i:=by simpa using h
  have hb:EX F s (nv b) (i:Int)=some (.out (.go (nv b))):=by
   unfold EX;rw[AZ (Abs (by omega))]
  rw[Ci,hb];rfl
 | c::r,n,i,b,h,hs,hn,hi=>by
  obtain⟨n,rfl⟩:∃m,n=m+1:=⟨n-1,by simp at hn;omega⟩
  obtain⟨_,hl,hd⟩:=JY h;have hbt:=S3 h;have e:E0 .u32 (nv b) (IntKind.wrap .u32 (c.toNat:Int))=nv (b^^^HS c):=by
   rw[SF,N4,OL,OL];rfl
  have hb:EX F s (nv b) (i:Int)=some (.next (nv (Ra 8 (b^^^HS c)),((i+1:Nat):Int))):=by
   unfold EX;rw[Bh (Abt (by omega)),BC (by omega) (by omega),hbt,e,B7 (Wq 8 F _ 0 (by omega) (by omega) hF),EY];unfold JL;rw[AW (by omega) (by omega)];rfl
  rw[Ci,hb];exact On hF s r n (i+1) _ hd hs (by simp at hn;omega) (by omega)
theorem W0 {F:Nat}{s:Al}(hF:300<F)(hs:s.length<F)(hl:s.length≤1000000000):R8 F s=some (ZQ s:Int):=by
 unfold R8;rw[show((4294967295:Int),(0:Int))=(nv 4294967295#32,((0:Nat):Int)) from rfl,B7 (On (by omega) s s F 0 _ rfl hl hs (by omega))];show some (QG .u32 (nv (V4 4294967295#32 s)))=_;rw[WT];rfl
theorem Wn (n k:Nat)(h:k≤32):Ce .u32 (n:Int) (k:Int)=((n/2 ^ k:Nat):Int):=by
 unfold Ce;have e:min (k:Int).toNat (IntKind.bits .u32)=k:=by
  have:IntKind.bits .u32=32:=rfl;rw[this];omega
 rw[e,Int.fdiv_eq_ediv_of_nonneg _ (Int.pow_nonneg (by omega))];simp
theorem Se (n:Nat):([IntKind.wrap .u8 (Ce .u32 (n:Int) 24),IntKind.wrap .u8 (Ce .u32 (n:Int) 16),IntKind.wrap .u8 (Ce .u32 (n:Int) 8),IntKind.wrap .u8 (n:Int)]:List Int)=Du (ZR n):=by
 have ha:Ce .u32 (n:Int) 24=((n/16777216:Nat):Int):=Wn n 24 (by omega);have hb:Ce .u32 (n:Int) 16=((n/65536:Nat):Int):=Wn n 16 (by omega);have h8:Ce .u32 (n:Int) 8=((n/256:Nat):Int):=Wn n 8 (by omega);rw[ha,hb,h8,KO,KO,KO,KO];rfl
theorem OD (n:Nat):KE (n:Int)=some (ZR n):=by
 unfold KE;rw[Se,Kr]
theorem P4 (n:Nat):Mt (n:Int)=some (Du (ZR n)):=by
 unfold Mt;rw[Se]
theorem T5 {n:Nat}(h:n<4294967296):IntKind.wrap .u32 (n:Int)=(n:Int):=by
 rw[SF];unfold nv;rw[BitVec.toNat_ofNat];omega
theorem DG (n:Nat):(ZR n).length=4:=rfl
theorem Dc (s:Al):(Du s).length=s.length:=by simp[Du]
theorem Si {F:Nat}(hF:262200<F)(b:Al):OB F b=some (bif decide (262136<b.length) then([],3) else(Dr b,0)):=by
 unfold OB
 cases h:decide (262136<b.length) with
 | true=>rw[Bh (Abt (by have:=AbK h;omega))];rfl
 | false=>
  have h':=Acg h;rw[AZ (Abs (by omega)),T5 (by omega),B7 (OD _),B7 (YD (by omega) (by omega) (by omega)),B7 (OD _)];rw[AW (by rw[DG,DG];omega) (by rw[DG,DG];omega),AW (by rw[Abr,DG,DG];omega) (by rw[Abr,DG,DG];omega)];rfl
theorem US {F:Nat}(hF:262200<F)(b:Al):Mr F b=some (bif decide (262136<b.length) then([],3) else(Dr b,0)):=by
 unfold Mr
 cases h:decide (262136<b.length) with
 | true=>rw[Bh (Abt (by have:=AbK h;omega))];rfl
 | false=>
  have h':=Acg h;rw[AZ (Abs (by omega)),T5 (by omega),B7 (P4 _),B7 (W0 (by omega) (by omega) (by omega)),B7 (P4 _)];rw[Kr,Kr,AW (by rw[DG,DG];omega) (by rw[DG,DG];omega),AW (by rw[Abr,DG,DG];omega) (by rw[Abr,DG,DG];omega)];rfl
theorem OC {F:Nat}(hF:262200<F)(l:List Al)(hl:l.length≤1000000000):∀(r:List Al) (n i:Nat) (acc:Al),l.drop i=r→i≤l.length→r.length<n→acc.length≤262144→
  B3 (Ci (λσ:List Int×Int=>Gd F l σ.1 σ.2) n (Du acc,(i:Int))) (BS λν=>JS ν)=some (bif decide ((acc++r.flatMap Dr).length≤262144) then(acc++r.flatMap Dr,0) else([],3))
 | [],n,i,acc,h,hi,hn,ha=>by
  obtain⟨n,rfl⟩:∃m,n=m+1:=⟨n-1,by simp at hn;omega⟩
  have:l.length≤i:=by simpa using h
  have hb:Gd F l (Du acc) (i:Int)=some (.out (.go (Du acc))):=by
   unfold Gd;rw[AZ (Abs (by omega))]
  rw[Ci,hb,List.flatMap_nil,AbZ,Abt ha];show some (Iz (Du acc),0)=_;rw[Kr];rfl
 | c::r,n,i,acc,h,hi,hn,ha=>by
  obtain⟨n,rfl⟩:∃m,n=m+1:=⟨n-1,by simp at hn;omega⟩
  obtain⟨hat,hlt,hd⟩:=JY h;have hs:=Kj c;have hlen:(acc++(c::r).flatMap Dr).length=acc.length+(8+c.length)+(r.flatMap Dr).length:=by
   rw[Acj,Abr,Abr,hs];omega
  have hb:Gd F l (Du acc) (i:Int)=bif decide (acc.length+(8+c.length)≤262144) then some (.next (Du (acc++Dr c),((i+1:Nat):Int))) else some (.out (.ret ([],3))):=by
   unfold Gd;rw[Bh (Abt (by omega)),BC (by omega) (by omega),hat]
   cases h1:decide (262136<c.length) with
   | true=>
    have hsl:OB F c=some ([],3):=by rw[Si hF c,h1];rfl
    rw[B7 hsl,Abs (p:=acc.length+(8+c.length)≤262144) (by have:=AbK h1;omega)];rfl
   | false=>
    have h1':=Acg h1;have hsl:OB F c=some (Dr c,0):=by rw[Si hF c,h1];rfl
    have hk:BF .i64 (((Du acc).length:Int)+((Dr c).length:Int))=true:=Hz (by rw[Dc,hs];omega) (by rw[Dc,hs];omega);rw[B7 hsl,Da (by rw[hk];exact To _)]
    cases h2:decide (acc.length+(8+c.length)≤262144) with
    | false=>
     have h2':=Acg h2;have hx:decide ((262144:Int)<((Du acc).length:Int)+((Dr c).length:Int))=true:=Abt (by rw[Dc,hs];omega);rw[Bh (by rw[hx,AbC])];rfl
    | true=>
     have h2':=AbK h2;have hx:decide ((262144:Int)<((Du acc).length:Int)+((Dr c).length:Int))=false:=Abs (by rw[Dc,hs];omega);rw[AZ (by rw[hx];rfl),H6 (by rw[Dc,hs];omega),AW (by omega) (by omega),Qf];rfl
  rw[Ci,hb]
  cases h2:decide (acc.length+(8+c.length)≤262144) with
  | false=>
   have h2':=Acg h2;rw[Abs (p:=(acc++(c::r).flatMap Dr).length≤262144) (by rw[hlen];omega)];rfl
  | true=>
   have h2':=AbK h2;have:=OC hF l hl r n (i+1) (acc++Dr c) hd (by omega) (by simp at hn;omega) (by rw[Abr,hs];omega);simp only[Ab0];rw[this,Acj,AbM]
theorem X2 {F:Nat}(hF:262200<F){l:List Al}(hl:l.length<F)(hb:l.length≤1000000000):Sk F l=some (MW l):=by
 unfold Sk;have:=OC hF l hb l F 0 [] rfl (by omega) hl (by simp);rw[Acb] at this;exact this
theorem LH {F:Nat}(hF:262200<F)(l:List Al)(hb:∀b∈l,b.length≤262136)(hl:l.length≤1000000000):∀(r:List Al) (n i:Nat) (acc:Al),l.drop i=r→i≤l.length→r.length<n→(acc++r.flatMap Dr).length≤262144→
  B3 (Ci (λσ:List Int×Int=>Ew F l σ.1 σ.2) n (Du acc,(i:Int))) (BS λν=>Iu ν)=some (acc++r.flatMap Dr,0)
 | [],n,i,acc,h,hi,hn,ha=>by
  obtain⟨n,rfl⟩:∃m,n=m+1:=⟨n-1,by simp at hn;omega⟩
  have:l.length≤i:=by simpa using h
  have hb:Ew F l (Du acc) (i:Int)=some (.out (.go (Du acc))):=by
   unfold Ew;rw[AZ (Abs (by omega))]
  rw[Ci,hb,List.flatMap_nil,AbZ];show some (Iz (Du acc),0)=_;rw[Kr]
 | c::r,n,i,acc,h,hi,hn,ha=>by
  obtain⟨n,rfl⟩:∃m,n=m+1:=⟨n-1,by simp at hn;omega⟩
  obtain⟨hat,hlt,hd⟩:=JY h;have hs:=Kj c;have hc:c.length≤262136:=hb c (List.mem_of_mem_drop (i:=i) (by rw[h];simp));have hlen:(acc++(c::r).flatMap Dr).length=acc.length+(8+c.length)+(r.flatMap Dr).length:=by
   rw[Acj,Abr,Abr,hs];omega
  rw[hlen] at ha;have hbd:Ew F l (Du acc) (i:Int)=some (.next (Du (acc++Dr c),((i+1:Nat):Int))):=by
   unfold Ew;rw[Bh (Abt (by omega)),BC (by omega) (by omega),hat];have hsl:Mr F c=some (Dr c,0):=by rw[US hF c,Abs (p:=262136<c.length) (by omega)];rfl
   rw[B7 hsl,H6 (by rw[Dc,hs];omega),AW (by omega) (by omega),Qf];rfl
  rw[Ci,hbd];have:=LH hF l hb hl r n (i+1) (acc++Dr c) hd (by omega) (by simp at hn;omega) (by rw[Abr,Abr,hs];omega);simp only;rw[this,Acj,AbM]
theorem LI {F:Nat}(l:List Al)(K:Int→Option (Al×Int))(hl:l.length≤1000000000):∀(r:List Al) (n i z:Nat),l.drop i=r→i≤l.length→r.length<n→z≤262144→
  B3 (Ci (λσ:Int×Int=>Ex l σ.1 σ.2) n ((z:Int),(i:Int))) (BS λν=>K ν)=bif decide (z+(r.flatMap Dr).length≤262144) then K ((z+(r.flatMap Dr).length:Nat):Int) else some ([],3)
 | [],n,i,z,h,hi,hn,hz=>by
  obtain⟨n,rfl⟩:∃m,n=m+1:=⟨n-1,by simp at hn;omega⟩
  have:l.length≤i:=by simpa using h
  have hb:Ex l (z:Int) (i:Int)=some (.out (.go (z:Int))):=by
   unfold Ex;rw[AZ (Abs (by omega))]
  rw[Ci,hb,List.flatMap_nil,Acf,Nat.add_zero,Abt hz];rfl
 | c::r,n,i,z,h,hi,hn,hz=>by
  obtain⟨n,rfl⟩:∃m,n=m+1:=⟨n-1,by simp at hn;omega⟩
  obtain⟨hat,hlt,hd⟩:=JY h;have hlen:z+((c::r).flatMap Dr).length=z+(8+c.length)+(r.flatMap Dr).length:=by
   rw[Acj,Abr,Kj];omega
  have hb:Ex l (z:Int) (i:Int)=bif decide (z+(8+c.length)≤262144) then some (.next (((z+(8+c.length):Nat):Int),((i+1:Nat):Int))) else some (.out (.ret ([],3))):=by
   unfold Ex;rw[Bh (Abt (by omega)),BC (by omega) (by omega),hat]
   cases h1:decide (262136<c.length) with
   | true=>
    have h1':=AbK h1;rw[Abt (p:=(262136:Int)<(c.length:Int)) (by omega),Abs (p:=z+(8+c.length)≤262144) (by omega)];rfl
   | false=>
    have h1':=Acg h1;have hk1:BF .i64 ((z:Int)+8)=true:=Hz (by omega) (by omega);have hk2:BF .i64 ((z:Int)+8+(c.length:Int))=true:=Hz (by omega) (by omega);rw[Abs (p:=(262136:Int)<(c.length:Int)) (by omega),Da (by rw[hk1];exact To _),Da (by rw[hk2];exact To _)]
    cases h2:decide (z+(8+c.length)≤262144) with
    | false=>
     have h2':=Acg h2;rw[Bh (by rw[Abt (p:=(262144:Int)<_) (by omega)];rfl)];rfl
    | true=>
     have h2':=AbK h2;rw[AZ (by rw[Abs (p:=(262144:Int)<_) (by omega)];rfl),AW (by omega) (by omega),AW (by omega) (by omega),AW (by omega) (by omega)];rw[show(z:Int)+8+(c.length:Int)=((z+(8+c.length):Nat):Int) from by omega];rfl
  rw[Ci,hb,hlen]
  cases h2:decide (z+(8+c.length)≤262144) with
  | false=>
   have h2':=Acg h2;rw[Abs (p:=z+(8+c.length)+(r.flatMap Dr).length≤262144) (by omega)];rfl
  | true=>
   have h2':=AbK h2;simp only[Ab0];exact LI (F:=F) l K hl r n (i+1) (z+(8+c.length)) hd (by omega) (by simp at hn;omega) h2'
theorem UU {F:Nat}(hF:262200<F){l:List Al}(hl:l.length<F)(hb:l.length≤1000000000):Om F l=some (MW l):=by
 unfold Om;have:=LI (F:=F) l (Ha F l) hb l F 0 0 rfl (by omega) hl (by omega);rw[AbX] at this;refine Eq.trans this ?_;unfold MW
 cases h:decide ((l.flatMap Dr).length≤262144) with
 | false=>rfl
 | true=>
  have h':=AbK h;simp only[Ab0];unfold Ha;rw[Int.toNat_natCast,H6 (by omega),Da (Abt (by omega))];have:=LH hF l (λb hb=>by have:=Pi l b hb;omega) hb l F 0 [] rfl (by omega) hl (by rw[Acb];exact h');rw[Acb] at this;exact this
def Ng {α β R:Type}(g:Nat→β→α→Out R β):Nat→β→List α→Out R β
 | _,acc,[]=>.go acc
 | i,acc,x::r=>match g i acc x with
  | .ret q=>.ret q
  | .go b=>Ng g (i+1) b r
def Aao {R β U:Type}(f:β→U):Out R β→Out R U
 | .ret q=>.ret q
 | .go b=>.go (f b)
def Aau {S R U β:Type}(mk:β→S):Out R β→Stp S (Out R U)
 | .ret q=>.out (.ret q)
 | .go b=>.next (mk b)
theorem Xe {α β R S U:Type}{l:List α}{mk:Nat→β→S}{body:S→Option (Stp S (Out R U))}{fin:β→U}(g:Nat→β→α→Out R β)(P:Nat→β→Prop)
  (hb:∀(i:Nat) (h:i<l.length) (acc:β),P i acc→body (mk i acc)=some (Aau (mk (i+1)) (g i acc l[i]))∧∀b,g i acc l[i] = .go b→P (i+1) b)
  (he:∀acc,P l.length acc→body (mk l.length acc)=some (.out (.go (fin acc)))) :
  ∀(d i n:Nat) (acc:β),i+d=l.length→d<n→P i acc→Ci body n (mk i acc)=some (Aao fin (Ng g i acc (l.drop i)))∧∀b,Ng g i acc (l.drop i) = .go b→P l.length b:=by
 intro d
 induction d with
 | zero=>
  intro i n acc h hn hP;obtain⟨n,rfl⟩:∃m,n=m+1:=⟨n-1,by omega⟩
  obtain rfl:i=l.length:=by omega
  rw[Ci,he _ hP,List.drop_length];exact⟨rfl,λb hb=>by cases hb;exact hP⟩
 | succ d ih=>
  intro i n acc h hn hP;obtain⟨n,rfl⟩:∃m,n=m+1:=⟨n-1,by omega⟩
  have hi:i<l.length:=by omega
  obtain⟨h1,h2⟩:=hb i hi acc hP;rw[Ci,h1,List.drop_eq_getElem_cons hi,Ng]
  cases hg:g i acc l[i] with
  | ret q=>exact⟨rfl,λb hb=>by cases hb⟩
  | go b=>exact ih (i+1) n b (by omega) (by omega) (h2 b hg)
theorem N2 {α β R S U:Type}{l:List α}{mk:Nat→β→S}{body:S→Option (Stp S (Out R U))}{fin:β→U}(g:Nat→β→α→Out R β)(P:Nat→β→Prop)
  (hb:∀(i:Nat) (h:i<l.length) (acc:β),P i acc→body (mk i acc)=some (Aau (mk (i+1)) (g i acc l[i]))∧∀b,g i acc l[i] = .go b→P (i+1) b)
  (he:∀acc,P l.length acc→body (mk l.length acc)=some (.out (.go (fin acc)))) {F:Nat} (hF:l.length<F) {a:β} (hP:P 0 a) :
  Ci body F (mk 0 a)=some (Aao fin (Ng g 0 a l))∧∀b,Ng g 0 a l = .go b→P l.length b:=by
 have h:=Xe (fin:=fin) g P hb he l.length 0 F a (by omega) hF hP;rw[List.drop_zero] at h;exact h
theorem Od {α β R:Type}(f:α→β):∀(l:List α) (i:Nat) (a:List β),Ng (R:=R) (λ_ acc x=>.go (acc++[f x])) i a l = .go (a++l.map f)
 | [],i,a=>by simp[Ng]
 | x::l,i,a=>by
  show Ng (R:=R) (λ_ acc x=>.go (acc++[f x])) (i+1) (a++[f x]) l=_;rw[Od f l];simp
theorem Qn {α β R:Type}(ok:α→Bool)(f:α→β)(q:R):∀(l:List α) (i:Nat) (a:List β),Ng (λ_ acc x=>bif ok x then .go (acc++[f x]) else .ret q) i a l=bif l.all ok then .go (a++l.map f) else .ret q
 | [],i,a=>by simp[Ng]
 | x::l,i,a=>by
  rw[Ng,List.all_cons]
  cases ok x with
  | false=>rfl
  | true=>simp only[Ab0,Ab1];rw[Qn ok f q l];simp
theorem JV {p:Bool}{a b:Int}(h:(bif p then a else b)=0)(ha:a≠0):p=false∧b=0:=by
 cases p with
 | true=>exact absurd h ha
 | false=>exact⟨rfl,h⟩
theorem K3 {n:Int}(h:I2 n=true):0≤n∧n≤1073741824:=by
 unfold I2 at h;simpa using h
theorem Pt {ev:Al}{i:Int}{x:Ar}(h:NY ev i x=0):I2 x.fDelay=true∧(UW x.fKind=true→Cg ev i=0):=by
 unfold NY at h;obtain⟨_,h⟩:=JV h (by decide);obtain⟨h1,h⟩:=JV h (by decide);refine⟨?_,λho=>by rw[ho] at h;exact h⟩
 cases hk:decide (x.fKind=4) with
 | true=>rw[hk] at h1;simpa using h1
 | false=>rw[hk] at h1;simp at h1;exact h1.2
theorem Sm {ev:Al}{i:Int}{x:Ar}(h:Nm ev i x=0):1≤x.fKind∧x.fKind≤5∧Vh x=true∧(x.fKind=2→x.fValue=[])∧(x.fKind≠2→Ji x.fValue=0)∧I2 x.fDelay=true∧(UW x.fKind=true→Cg ev i=0):=by
 unfold Nm at h;obtain⟨h1,h⟩:=JV h (by decide);obtain⟨h2,h⟩:=JV h (by decide);simp only[AbT,Abn,Acc] at h1 h2
 by_cases hk:x.fKind=2
 ·rw[Abt hk,Ab0] at h;obtain⟨h3,h⟩:=JV h (by decide);have ht:=Pt h;simp only[Abn] at h3;exact⟨by omega,by omega,h2,λ_=>AbF (by omega),λh=>absurd hk h,ht⟩
 ·rw[Abs hk,Abu] at h
  by_cases hv:Ji x.fValue=0
  ·rw[Abt hv,Abw,Abu] at h;exact⟨by omega,by omega,h2,λh=>absurd h hk,λ_=>hv,Pt h⟩
  ·rw[Abs hv] at h;exact absurd h hv
structure OkM (c:AS):Prop where
 id:HR c.fEvent=true
 nm:Dx c.fTenant=true
 at1:1≤c.fAttempt
 at2:c.fAttempt≤1073741824
 now:I2 c.fAt=true
 res:Ji c.fResult=0
 len:c.fEffects.length≤32
 ef:∀i:Nat,i<c.fEffects.length→Nm c.fEvent (i:Int) (Ap c.fEffects (i:Int))=0
theorem Sn {c:AS}(h:Pj c=0):OkM c:=by
 unfold Pj at h;obtain⟨h1,h⟩:=JV h (by decide);obtain⟨h2,h⟩:=JV h (by decide);simp only[AbT,Abn,Acc] at h1 h2
 by_cases hv:Ji c.fResult=0
 ·rw[Abt hv] at h;obtain⟨h3,h⟩:=JV (show(bif decide (32<(c.fEffects.length:Int)) then 3 else Je (λi=>Nm c.fEvent (i:Int) (Ap c.fEffects (i:Int))) 0 c.fEffects.length)=0 from h) (by decide);simp only[Abn] at h3;exact⟨h1.1,h1.2,by omega,by omega,h2.2.2,hv,by omega,λi hi=>PO h i (by omega) (by omega)⟩
 ·rw[Abs hv] at h;exact absurd h hv
abbrev Yg:Al:=[99,111,109,109,105,116]
abbrev AaT:Al:=[97,99,107]
def ZK (x:Ar):List Al:=[Lib.itoa x.fKind,x.fKey,Lib.itoa x.fDelay,(Ss x.fValue).1]
def hdM (c:AS):List Al:=[Yg,c.fEvent,c.fTenant,Lib.itoa c.fAttempt,Lib.itoa c.fAt,(Ss c.fResult).1]
def Wp (c:AS):List (List Al):=hdM c::c.fEffects.map ZK
def PL (rs:List (List Al)):Al×Int:=bif rs.all UX then MW (rs.map LM) else([],3)
def V1 (c:AS):Al×Int:=bif decide (Pj c=0) then PL (Wp c) else([],Pj c)
def YW (id:Al):Al×Int:=bif HR id then PL [[AaT,id]] else([],4)
theorem Vr {l:List Al}(h : ¬ (MW l).2=0):MW l=([],3):=by
 unfold MW at h ⊢
 cases hd:decide ((l.flatMap Dr).length≤262144) with
 | true=>rw[hd] at h;exact absurd rfl h
 | false=>rfl
theorem TL {l:List Al}(h:UX l=true):KR l=(LM l,0):=by unfold KR;rw[h];rfl
theorem TM {l:List Al}(h:UX l=false):KR l=([],3):=by unfold KR;rw[h];rfl
theorem OK {α:Type}{n:Nat}{x:Option α}(h:n≤1000000000):Ba (CX 16 n) x=x:=Da (Abt (by omega))
theorem OJ {α:Type}{n:Nat}{x:Option α}(h:n≤1000000000):Ba (CX 24 n) x=x:=Da (Abt (by omega))
theorem RM {F:Nat}(hF:270000<F){rs:List (List Al)}(hl:rs.length≤1000):Ov F rs=some (PL rs):=by
 unfold Ov PL;have h:=(N2 (l:=rs) (mk:=λi (acc:List Al)=>(acc,(i:Int))) (fin:=id) (body:=λσ=>G9 F rs σ.1 σ.2) (λ_ acc x=>bif UX x then .go (acc++[LM x]) else .ret (([]:Al),(3:Int))) (λi acc=>acc.length=i) (λi hi acc hP=>by
   unfold G9;simp only;rw[Bh (Abt (by omega)),BC (by omega) (by omega),HU hi,X0 (by omega),C9]
   cases ho:UX rs[i] with
   | false=>rw[TM ho];exact⟨rfl,λb hb=>by cases hb⟩
   | true=>
    rw[TL ho,AZ (by rfl),OK (by simp;omega),AW (by omega) (by omega)];exact⟨rfl,λb hb=>by cases hb;simp[hP]⟩) (λacc hP=>by unfold G9;simp only;rw[AZ (Abs (by omega))];rfl) (F:=F) (by omega) (a:=[]) rfl).1
 show B3 (Ci (λσ=>G9 F rs σ.1 σ.2) F ([],((0:Nat):Int))) (BS λν=>Hv F ν)=_;rw[h,Qn,C9]
 cases ho:rs.all UX with
 | false=>rfl
 | true=>
  show Hv F ([]++rs.map LM)=_;rw[Acb];unfold Hv;rw[X2 (by omega) (by rw[Ab3];omega) (by rw[Ab3];omega),C9]
  by_cases hj:(MW (rs.map LM)).2=0
  ·rw[AZ (by simp[hj])];exact congrArg some (Prod.ext rfl hj.symm)
  ·rw[Bh (by simp[hj])];exact congrArg some (Vr hj).symm
theorem Oi {F:Nat}(hF:270000<F){rs:List (List Al)}(hl:rs.length≤1000):Kn F rs=some (PL rs):=by
 unfold Kn PL;have h:=(N2 (l:=rs) (mk:=λi (acc:List Al)=>(acc,(i:Int))) (fin:=id) (body:=λσ=>Ek F rs σ.1 σ.2) (λ_ acc x=>bif UX x then .go (acc++[LM x]) else .ret (([]:Al),(3:Int))) (λi acc=>acc.length=i) (λi hi acc hP=>by
   unfold Ek;simp only;rw[Bh (Abt (by omega)),BC (by omega) (by omega),HU hi,UT (by omega),C9]
   cases ho:UX rs[i] with
   | false=>rw[TM ho];exact⟨rfl,λb hb=>by cases hb⟩
   | true=>
    rw[TL ho,AZ (by rfl),OK (by simp;omega),AW (by omega) (by omega)];exact⟨rfl,λb hb=>by cases hb;simp[hP]⟩) (λacc hP=>by unfold Ek;simp only;rw[AZ (Abs (by omega))];rfl) (F:=F) (by omega) (a:=[]) rfl).1
 show B3 (Ci (λσ=>Ek F rs σ.1 σ.2) F ([],((0:Nat):Int))) (BS λν=>EE F ν)=_;rw[h,Qn,C9]
 cases ho:rs.all UX with
 | false=>rfl
 | true=>
  show EE F ([]++rs.map LM)=_;rw[Acb];unfold EE;rw[UU (by omega) (by rw[Ab3];omega) (by rw[Ab3];omega),C9];rfl
theorem RK {M F:Nat}{v:List Ac}(hA:J0 M v)(hM:M≤2000000)(hF:4*M+8<F):MS F v=some (Ss v).1:=by
 unfold MS;rw[SL hA hM hF,C9]
theorem Og {M F:Nat}{v:List Ac}(hA:J0 M v)(hM:M≤2000000)(hF:4*M+8<F):Kk F v=some (Ss v).1:=by
 unfold Kk
 cases v with
 | nil=>rfl
 | cons c r=>
  rw[AZ (Abs (by simp;omega)),SU hA hM hF,C9]
theorem Tc {M F:Nat}{c:AS}(hA:VK M c)(hM:M≤2000000)(hF:4*M+8<F)(hF0:270000<F):IR F c=some (V1 c):=by
 unfold IR V1;rw[PE hA hM (by omega) (by omega),C9]
 by_cases he:Pj c=0
 ·rw[AZ (by simp[he]),Abt he];have ho:=Sn he;have b:=K3 ho.now;have hl:=ho.len;rw[AW (by have:=ho.at1;omega) (by have:=ho.at2;omega),AW (by omega) (by omega),RK hA.r hM hF,C9];have h:=(N2 (l:=c.fEffects) (mk:=λi (acc:List (List Al))=>(acc,(i:Int))) (fin:=id) (body:=λσ=>Eo F c σ.1 σ.2) (λ_ acc x=>.go (acc++[ZK x])) (λi acc=>acc.length=i+1) (λi hi acc hP=>by
    unfold Eo;simp only;obtain⟨h1,h2,h3,h4,h5,h6,_⟩:=Sm (ho.ef i hi);have b:=K3 h6;rw[HU hi] at h1 h2 b;rw[Bh (Abt (by omega)),BC (by omega) (by omega),HU hi,AW (by omega) (by omega),AW (by omega) (by omega),RK (hA.es _ (List.getElem_mem hi)).v hM hF,C9,OJ (by simp;omega),AW (by omega) (by omega)];exact⟨rfl,λb hb=>by cases hb;simp[hP]⟩) (λacc hP=>by unfold Eo;simp only;rw[AZ (Abs (by omega))];rfl) (F:=F) (by omega) (a:=[hdM c]) rfl).1
  show B3 (Ci (λσ=>Eo F c σ.1 σ.2) F ([hdM c],((0:Nat):Int))) (BS λν=>EG F ν)=_;rw[h,Od,C9];show EG F (Wp c)=_;unfold EG;rw[RM hF0 (by simp[Wp];omega),C9];rfl
 ·rw[Bh (by simp[he]),Abs he];rfl
theorem Qu {M F:Nat}{c:AS}(hA:VK M c)(hM:M≤2000000)(hF:4*M+100<F)(hF0:270000<F):GY F c=some (V1 c):=by
 unfold GY V1;rw[MP hA hM (by omega),C9]
 by_cases he:Pj c=0
 ·rw[AZ (by simp[he]),Abt he];have ho:=Sn he;have b:=K3 ho.now;have hl:=ho.len;rw[AW (by have:=ho.at1;omega) (by have:=ho.at2;omega),AW (by omega) (by omega),Og hA.r hM (by omega),C9];have h:=(N2 (l:=c.fEffects) (mk:=λi (acc:List (List Al))=>(acc,(i:Int))) (fin:=id) (body:=λσ=>D7 F c σ.1 σ.2) (λ_ acc x=>.go (acc++[ZK x])) (λi acc=>acc.length=i+1) (λi hi acc hP=>by
    unfold D7;simp only;obtain⟨h1,h2,h3,h4,h5,h6,_⟩:=Sm (ho.ef i hi);have b:=K3 h6;rw[HU hi] at h1 h2 b;rw[Bh (Abt (by omega)),BC (by omega) (by omega),HU hi,AW (by omega) (by omega),AW (by omega) (by omega),Og (hA.es _ (List.getElem_mem hi)).v hM (by omega),C9,OJ (by simp;omega),AW (by omega) (by omega)];exact⟨rfl,λb hb=>by cases hb;simp[hP]⟩) (λacc hP=>by unfold D7;simp only;rw[AZ (Abs (by omega))];rfl) (F:=F) (by omega) (a:=[hdM c]) rfl).1
  show B3 (Ci (λσ=>D7 F c σ.1 σ.2) F ([hdM c],((0:Nat):Int))) (BS λν=>DS F ν)=_;rw[h,Od,C9];show DS F (Wp c)=_;unfold DS;rw[Oi hF0 (by simp[Wp];omega),C9];rfl
 ·rw[Bh (by simp[he]),Abs he];rfl
theorem Pf {F:Nat}(hF:270000<F)(id:Al):EH F id=some (YW id):=by
 unfold EH YW
 cases HR id with
 | false=>rfl
 | true=>
  rw[AZ (by rfl),RM hF (by simp),C9];rfl
theorem Nh {F:Nat}(hF:270000<F){id:Al}(hi:id.length≤1000000000):EW F id=some (YW id):=by
 unfold EW YW;rw[Da (show CX 1 id.length=true from Abt (by omega))]
 cases HR id with
 | false=>rfl
 | true=>
  rw[AZ (by rfl),Oi hF (by simp),C9];rfl
theorem Qh:∀a:Al,CA a a=false
 | []=>rfl
 | x::a=>by
  show Op.bytesLess (x::a) (x::a)=false;have h : ¬ x<x:=λh=>absurd h (by simp);have ih:Op.bytesLess a a=false:=Qh a;simp[Op.bytesLess,h,ih]
theorem Qi (x y:UInt8)(a b:Al):CA (x::a) (y::b)=(decide (x<y)||(decide (x=y)&&CA a b)):=by
 show Op.bytesLess (x::a) (y::b)=_;simp only[Op.bytesLess]
 by_cases h:x<y
 ·simp[h]
 ·by_cases e:x=y
  ·subst e;simp[h]
  ·have:y<x:=by
    rcases Nat.lt_trichotomy x.toNat y.toNat with h1 | h1 | h1
    ·exact absurd (UInt8.lt_iff_toNat_lt.2 h1) h
    ·exact absurd (UInt8.toNat_inj.1 h1) e
    ·exact UInt8.lt_iff_toNat_lt.2 h1
   simp[h,e,this]
theorem Oa:∀{a b c:Al},CA a b=true→CA b c=true→CA a c=true
 | [],[],_,h,_=>by cases h
 | [],_::_,[],_,h=>by cases h
 | [],_::_,_::_,_,_=>rfl
 | _::_,[],_,h,_=>by cases h
 | _::_,_::_,[],_,h=>by cases h
 | x::a,y::b,z::c,h,h'=>by
  rw[Qi] at h h' ⊢;simp only[AbR,Abo,Abv] at h h' ⊢;have t:∀{u v:UInt8},u<v↔u.toNat<v.toNat:=UInt8.lt_iff_toNat_lt;rcases h with h | ⟨rfl,h⟩
  ·rcases h' with h' | ⟨rfl,h'⟩
   ·exact .inl (t.2 (Nat.lt_trans (t.1 h) (t.1 h')))
   ·exact .inl h
  ·rcases h' with h' | ⟨rfl,h'⟩
   ·exact .inl h'
   ·exact .inr ⟨rfl,Oa h h'⟩
theorem Ru:∀(a b:Al),CA a b=true∨a=b∨CA b a=true
 | [],[]=>.inr (.inl rfl)
 | [],_::_=>.inl rfl
 | _::_,[]=>.inr (.inr rfl)
 | x::a,y::b=>by
  rw[Qi,Qi];simp only[AbR,Abo,Abv];rcases Nat.lt_trichotomy x.toNat y.toNat with h1 | h1 | h1
  ·exact .inl (.inl (UInt8.lt_iff_toNat_lt.2 h1))
  ·have e:=UInt8.toNat_inj.1 h1;subst e;rcases Ru a b with h | rfl | h
   ·exact .inl (.inr ⟨rfl,h⟩)
   ·exact .inr (.inl rfl)
   ·exact .inr (.inr (.inr ⟨rfl,h⟩))
  ·exact .inr (.inr (.inl (UInt8.lt_iff_toNat_lt.2 h1)))
section
variable {T : Type}
def Ms (xs:List (Al×T)):Prop:=xs.Pairwise λp q=>CA p.1 q.1=true
theorem Ms.nil:Ms ([]:List (Al×T)):=List.Pairwise.nil
theorem LT {xs:List (Al×T)}{k:Al}:Dy xs k=none↔∀p∈xs,p.1≠k:=by
 induction xs with
 | nil=>simp[Dy]
 | cons p r ih=>
  rw[Dy]
  by_cases h:p.1=k
  ·rw[Abt h];simp[h]
  ·rw[Abs h];simp[h,ih]
theorem KX {xs:List (Al×T)}{k:Al}{v:T}(h:Dy xs k=some v):(k,v)∈xs:=by
 induction xs with
 | nil=>cases h
 | cons p r ih=>
  rw[Dy] at h
  by_cases e:p.1=k
  ·rw[Abt e] at h;cases h;subst e;exact List.mem_cons_self ..
  ·rw[Abs e] at h;exact List.mem_cons_of_mem _ (ih h)
theorem RQ {k:Al}{v:T}{q:Al×T}:∀{xs:List (Al×T)},q∈mins k v xs→q=(k,v)∨q∈xs
 | [],h=>by simp[mins] at h;exact .inl h
 | p::r,h=>by
  rw[mins] at h
  cases hs:CA k p.1 with
  | true=>rw[hs] at h;simpa using h
  | false=>
   rw[hs] at h;rcases List.mem_cons.1 h with h | h
   ·exact .inr (by rw[h];exact List.mem_cons_self ..)
   ·rcases RQ h with h | h
    ·exact .inl h
    ·exact .inr (List.mem_cons_of_mem _ h)
theorem Ms.mins {k:Al}{v:T}:∀{xs:List (Al×T)},Ms xs→Dy xs k=none→Ms (mins k v xs)
 | [],_,_=>List.pairwise_singleton ..
 | p::r,h,hk=>by
  obtain⟨h1,h2⟩:=List.pairwise_cons.1 h;rw[Dy] at hk
  by_cases e:p.1=k
  ·rw[Abt e] at hk;cases hk
  ·rw[Abs e] at hk;rw[Proofs.YtfobhhegpkinaaaGreatDoor.mins]
   cases hs:CA k p.1 with
   | true=>exact List.pairwise_cons.2 ⟨λq hq=>by
     rcases List.mem_cons.1 hq with rfl | hq
     ·exact hs
     ·exact Oa hs (h1 q hq),h⟩
   | false=>
    have hp:CA p.1 k=true:=by
     rcases Ru p.1 k with h | h | h
     ·exact h
     ·exact absurd h e
     ·rw[h] at hs;cases hs
    exact List.pairwise_cons.2 ⟨λq hq=>by
     rcases RQ hq with rfl | hq
     ·exact hp
     ·exact h1 q hq,Ms.mins h2 hk⟩
theorem Ms.mput {xs:List (Al×T)}(h:Ms xs)(k:Al)(v:T):Ms (mput xs k v):=by
 unfold Proofs.YtfobhhegpkinaaaGreatDoor.mput;unfold Ms;rw[List.pairwise_map];refine h.imp fun {p q} hpq=>?_;have e:∀p:Al×T,(bif decide (p.1=k) then(k,v) else p).1=p.1:=λp=>by
  by_cases hp:p.1=k
  ·rw[Abt hp];exact hp.symm
  ·rw[Abs hp];rfl
 rw[e,e];exact hpq
theorem Ms.mset {xs:List (Al×T)}(h:Ms xs)(k:Al)(v:T):Ms (mset xs k v):=by
 unfold Proofs.YtfobhhegpkinaaaGreatDoor.mset Gj
 cases hk:Dy xs k with
 | none=>exact h.mins hk
 | some w=>exact h.mput k v
theorem Ms.mdel {xs:List (Al×T)}(h:Ms xs)(k:Al):Ms (mdel xs k):=h.sublist (List.filter_sublist ..)
theorem Ms.ext:∀{xs ys:List (Al×T)},Ms xs→Ms ys→(∀k,Dy xs k=Dy ys k)→xs=ys
 | [],[],_,_,_=>rfl
 | [],q::s,_,_,h=>by
  have:=h q.1;rw[Dy,Dy,Abt rfl] at this;cases this
 | p::r,[],_,_,h=>by
  have:=h p.1;rw[Dy,Dy,Abt rfl] at this;cases this
 | p::r,q::s,hx,hy,h=>by
  obtain⟨x1,x2⟩:=List.pairwise_cons.1 hx;obtain⟨y1,y2⟩:=List.pairwise_cons.1 hy;have hpq:p.1=q.1:=by
   have a1:=h p.1;have a2:=h q.1;rw[Dy,Abt rfl] at a1;rw[show Dy (q::s) q.1=bif decide (q.1=q.1) then some q.2 else Dy s q.1 from rfl,Abt rfl] at a2;simp only[Ab0] at a1 a2;have m1:=KX a1.symm;have m2:=KX a2;rcases List.mem_cons.1 m1 with e | m1
   ·exact congrArg Prod.fst e
   ·rcases List.mem_cons.1 m2 with e | m2
    ·exact(congrArg Prod.fst e).symm
    ·have c1:=y1 _ m1;have c2:=x1 _ m2;have:=Oa c1 c2;rw[Qh] at this;cases this
  have e:p=q:=by
   have a1:=h p.1;rw[Dy,Abt rfl,Dy,Abt hpq.symm] at a1;simp only[Ab0,Option.some.injEq] at a1;exact Prod.ext hpq a1
  subst e;rw[Ms.ext x2 y2 λk=>by
   have a1:=h k;rw[Dy,Dy] at a1
   by_cases e:p.1=k
   ·have n1:Dy r k=none:=LT.2 λz hz e'=>by have:=x1 z hz;rw[e',← e,Qh] at this;cases this
    have n2:Dy s k=none:=LT.2 λz hz e'=>by have:=y1 z hz;rw[e',← e,Qh] at this;cases this
    rw[n1,n2]
   ·rw[Abs e] at a1;exact a1]
end
section
variable {T : Type}
end
abbrev ZZ:=List (Al×Aj)
def kmO (o:AR)(t:Al):ZZ:=BL o.fKeys t []
structure YZ (B:Nat) (m:ZZ):Prop where
 ms:Ms m
 len:m.length≤256
 val:∀p∈m,0≤p.2.fVersion∧p.2.fVersion≤B∧p.2.fValue.length≤200
structure Inv (n:Nat) (o:AR):Prop where
 made:o.fMade=true
 ev:∀k,Gj o.fResults k=decide (k∈o.fEvents)
 ln:o.fEvents.length≤n
 rs:∀p∈o.fResults,p.2.length≤200
 ks:∀t,YZ (32*n) (kmO o t)
 pn:o.fPending.length≤32*n
 pv:∀x∈o.fPending,x.fEffect.fValue.length≤200
 pc:∀x∈o.fPending,x.fCause∈o.fEvents∧∃i:Int,Cg x.fCause i=0∧x.fID=BY x.fCause i
 pu:(o.fPending.map (·.fID)).Nodup
theorem YZ.mono {B B':Nat}{m:ZZ}(h:YZ B m)(hb:B≤B'):YZ B' m:=⟨h.ms,h.len,λp hp=>by have:=h.val p hp;exact⟨this.1,by omega,this.2.2⟩⟩
theorem RX:Hy 5000000=some true:=by decide +kernel
def Yr (y:Ac):Bool:=(BF .i64) y.fKind&&(BF .i64) y.fInt&&Mw y.fStr&&(BF .i64) y.fN
def Zz (y:Ar):Bool:=(BF .i64) y.fKind&&Mw y.fKey&&(λys:(List Ac)=>ys.all Yr&&decide (ys.length≤1048576)) y.fValue&&(BF .i64) y.fDelay
def Zy (y:AS):Bool:=Mw y.fEvent&&Mw y.fTenant&&(BF .i64) y.fAttempt&&(λys:(List Ac)=>ys.all Yr&&decide (ys.length≤1048576)) y.fResult&&(λys:(List Ar)=>ys.all Zz&&decide (ys.length≤1048576)) y.fEffects&&(BF .i64) y.fAt
def Aaq (y:Jm):Bool:=(BF .i64) y.fKind&&Zy y.fC&&Mw y.fS&&(BF .i64) y.fN
theorem Iy {s:Al}(h:Mw s=true):s.length≤1048576:=AbK h
theorem J0.ofB {v:List Ac}(h:(v.all Yr&&decide (v.length≤1048576))=true):J0 1048576 v:=by
 simp only[Abv,Abo,AbV] at h;refine⟨by decide,h.2,λc hc=>?_⟩;have:=h.1 c hc;unfold Yr at this;simp only[Abv] at this;exact⟨Iy this.1.2,this.1.1.2,(G2 this.2).2⟩
theorem EfA.ofB {x:Ar}(h:Zz x=true):EfA 1048576 x:=by
 unfold Zz at h;simp only[Abv] at h;exact⟨J0.ofB (by simp only[Abv];exact h.1.2),by have:=Iy h.1.1.2;omega⟩
theorem VK.ofB {c:AS}(h:Zy c=true):VK 1048576 c:=by
 unfold Zy at h;simp only[Abv] at h;obtain⟨⟨⟨⟨⟨h1,h2⟩,_⟩,h3⟩,h4⟩,_⟩:=h;exact⟨J0.ofB (by simp only[Abv];exact h3),λx hx=>EfA.ofB (List.all_eq_true.1 h4.1 x hx),by have:=Iy h1;omega,by have:=Iy h2;omega⟩
structure OpS (x:Jm):Prop where
 c:VK 1048576 x.fC
 s:x.fS.length≤1048576
theorem OpS.ofB {x:Jm}(h:Aaq x=true):OpS x:=by
 unfold Aaq at h;simp only[Abv] at h;exact⟨VK.ofB h.1.1.2,Iy h.1.2⟩
abbrev FF:Nat:=5000000
theorem AaY {c:AS}(h:VK 1048576 c):IR FF c=some (V1 c):=Tc h (by decide) (by decide) (by decide)
theorem Aai {c:AS}(h:VK 1048576 c):GY FF c=some (V1 c):=Qu h (by decide) (by decide) (by decide)
theorem RW {c:AS}{id:Al}(h:VK 1048576 c)(hi:id.length≤1048576):LX FF c id=some true:=by
 unfold LX;rw[AaY h,C9,Aai h,C9,PE h (by decide) (by decide) (by decide),MP h (by decide) (by decide)];simp only[Option.isSome_some,Jd,Ic,IO,decide_true,Abw,Bool.or_self,I7];rw[Pf (by decide),C9,Nh (by decide) (by omega),C9,RX];simp only[Option.isSome_some,Jd,Ic,IO,decide_true,Bool.and_self]
end Go.Proofs.YtfobhhegpkinaaaGreatDoor
namespace Go.Proofs.YtfobhhegpkinaaaGreatDoor.lawOutboxTexts
open Go
set_option linter.unusedVariables false
theorem law:Law:=λc id h0 h1=>⟨FF,RW (VK.ofB h0) (Iy h1)⟩
end Go.Proofs.YtfobhhegpkinaaaGreatDoor.lawOutboxTexts
