/-
  Texts of the proof, put together: LvN, LvO, LvP, LsA, LrA, LdA, LdB, LdC, LdD, LdE, LdF, LdG, LdH, LdI, LdJ, LdK, LtA, LrB, LtB, LtD, LsB, LsC, LsD, PN, PO, LkA, LkB, LkC, LkD, LkE, LkF, LsE, LsF, LsG, LsH, LsI, LwSnapshots.
-/
import Derived.Test.YtjfnokmpfekniaaGreatDoorKS4
import Derived.Sort.Walk0
namespace Go.Proofs.YtjfnokmpfekniaaGreatDoor
open Go
set_option linter.unusedVariables false
set_option linter.unusedSimpArgs false
section
variable {M : Nat}
theorem IO (l:Af)(c:UInt8):(l++[c]).length=l.length+1:=by rw[AcF,Ade]
theorem KR {F:Nat}{l p:Af}{v:List Aa}{c:Aa}{rf:Af→(List Aa)→Bool→Af→Aa→Option (Bool×Bool×Af)}{rp:(List Aa)→Bool→Af→Aa→Option (Bool×Af)}(hc:Ao v 0=c)(hv:0<v.length)(hk:c.fKind=5∨c.fKind=6)(hlen:(l++Nj c p).length≤140737488355328)
  (hp:∀l':Af,l'.length=l.length+1→∃b,rp v true l' c=some (b,l'++p)):JZ F rf rp l v=some (l++Nj c p):=by
 have hbl:=Ji c p;rw[AcF,hbl] at hlen;have i0:(0:Int)<(v.length:Int):=by omega
 unfold JZ;rw[AP (AcX 0) i0,hc,A0 (AcB (by omega)),A0 (AcB (by omega)),A0 (AcB (by omega)),A0 (AcB (by omega))];have b1:[UInt8.ofNat (Int.toNat (Bm ([123,125]:Af) 0))]=([123]:Af):=rfl;have b2:[UInt8.ofNat (Int.toNat (Bm ([123,125]:Af) 1))]=([125]:Af):=rfl;have b3:[UInt8.ofNat (Int.toNat (Bm ([91,93]:Af) 0))]=([91]:Af):=rfl;have b4:[UInt8.ofNat (Int.toNat (Bm ([91,93]:Af) 1))]=([93]:Af):=rfl;have c1:Bm ([123,125]:Af) 0=123:=rfl;have c2:Bm ([123,125]:Af) 1=125:=rfl;have c3:Bm ([91,93]:Af) 0=91:=rfl;have c4:Bm ([91,93]:Af) 1=93:=rfl;have n2:(([123,125]:Af).length:Int)=2:=rfl;have n3:(([91,93]:Af).length:Int)=2:=rfl
 cases h6:decide (c.fKind=6) with
 | true=>
  obtain⟨b,hb⟩:=hp _ (IO l 123);rw[AF rfl,n2,AP (by decide) (by decide),Dk (by omega),b1,b2,c1,c2,HH (by decide) (by decide),Ga,hb,AI rfl,AP (by decide) (by decide)];have e:((l++[123])++p).length=l.length+1+p.length:=by rw[AcF,IO]
  rw[e,Dk (by omega),HH (by decide) (by decide),Ga];simp[Nj,h6]
 | false=>
  obtain⟨b,hb⟩:=hp _ (IO l 91);rw[A0 rfl,n3,AP (by decide) (by decide),Dk (by omega),b3,b4,c3,c4,HH (by decide) (by decide),Ga,hb,AI rfl,AP (by decide) (by decide)];have e:((l++[91])++p).length=l.length+1+p.length:=by rw[AcF,IO]
  rw[e,Dk (by omega),HH (by decide) (by decide),Ga];simp[Nj,h6]
theorem MP {F:Nat}{v:List Aa}{c:Aa}{at_ x:Int}{first:Bool}{l:Af}{rf:Af→(List Aa)→Bool→Af→Aa→Option (Bool×Bool×Af)}(hc:Ao v 0=c)(hx : ¬ x<c.fN):DA F v c rf at_ x first l=some (.out (.go (first,l))):=by
 unfold DA;rw[hc,A0 (AcB hx)]
theorem MO {F:Nat}{l:Af}{c:Aa}(hp:pl c=true)(hn:decide (0<c.fN)=false)(hs:c.fStr.length<F+2)(hi:B9 .i64 c.fInt=true)(hlen:(l++D4 c).length≤140737488355328):Gy (F+3) l [c]=some (l++D4 c):=by
 rw[Gy];have hat:Ao [c] 0=c:=rfl;have i0:(0:Int)<(([c]:List Aa).length:Int):=by simp
 have hN : ¬ (0:Int)<c.fN:=by simpa using hn
 by_cases ha:c.fKind=5∨c.fKind=6
 ·have el:D4 c=Nj c []:=by
   have k1:decide (c.fKind=1)=false:=AcB (by omega);have k2:decide (c.fKind=2)=false:=AcB (by omega);have k3:decide (c.fKind=3)=false:=AcB (by omega);have k4:decide (c.fKind=4)=false:=AcB (by omega);unfold D4 Nj;rw[k1,k2,k3,k4];rfl
  rw[el] at hlen ⊢;refine KR hat (by simp) ha hlen (λl' hl'=>⟨true,?_⟩);rw[GT];unfold Ip;rw[AP (AcX 0) i0,AI (DO (o:=.go (true,l')) (MP hat hN)),CC,Adk];rfl
 ·unfold JZ D4;unfold D4 at hlen;rw[AP (AcX 0) i0,hat]
  cases k1:decide (c.fKind=1) with
  | true=>
   rw[k1] at hlen;simp only[AcH] at hlen;rw[AF rfl,Dk (by rw[AcF] at hlen;exact hlen),Ga];rfl
  | false=>
  rw[k1] at hlen;simp only[AcD] at hlen;rw[A0 rfl]
  cases k2:decide (c.fKind=2) with
  | true=>
   rw[k2] at hlen;simp only[AcH] at hlen;rw[AF rfl];simp[pl,k1,k2] at hp;simp only[AcF] at hlen;rcases hp.1 with h0 | h1
   ·rw[h0] at hlen ⊢;have a:Ao ([([102,97,108,115,101]:Af),([116,114,117,101]:Af)]:List Af) 0=[102,97,108,115,101]:=rfl;have hlen2:l.length+([102,97,108,115,101]:Af).length≤140737488355328:=hlen;rw[AP (by decide) (by decide),a,Dk hlen2,Ga];rfl
   ·rw[h1] at hlen ⊢;have a:Ao ([([102,97,108,115,101]:Af),([116,114,117,101]:Af)]:List Af) 1=[116,114,117,101]:=rfl;have hlen2:l.length+([116,114,117,101]:Af).length≤140737488355328:=hlen;rw[AP (by decide) (by decide),a,Dk hlen2,Ga];rfl
  | false=>
  rw[k2] at hlen;simp only[AcD] at hlen;rw[A0 rfl]
  cases k3:decide (c.fKind=3) with
  | true=>
   rw[k3] at hlen;simp only[AcH,AcF] at hlen;rw[AF rfl,BL hi,Dk hlen,Ga];rfl
  | false=>
  rw[k3] at hlen;simp only[AcD] at hlen;rw[A0 rfl]
  cases k4:decide (c.fKind=4) with
  | true=>
   rw[k4] at hlen;simp only[AcH] at hlen;rw[AF rfl,Mn hs hlen,AI rfl];rfl
  | false=>
   exfalso;simp only[AcA] at k1 k2 k3 k4;simp[pl,k1,k2,k3,k4,show ¬ c.fKind=5 by omega,show ¬ c.fKind=6 by omega] at hp
theorem Hn.mem {v:List Aa}(hA:Hn M v){p:Int}{a b:List Aa}(h:v.drop p.toNat=a++b):Hn M a:=by
 have:=(hA.drop p.toNat).take a.length
 rwa [h,List.take_left] at this
theorem Pg:∀(g:Fo) (v:List Aa) (c:Aa) (F L:Nat) (at_ x:Int) (first:Bool) (l:Af) (m:Bool) (last:Option Af) (ys:List Aa),Hn M v→Ao v 0=c→decide (c.fKind=6)=m→c.fN≤9223372036854775807→g.wf m last=true→v.drop at_.toNat=g.flat++ys→0≤at_→c.fN=x+g.cnt→0≤x→(l++g.txt first).length≤140737488355328→g.cnt<L→M+5+3*g.flat.length<F→
  ∃o b,B7 (λσ=>DA F v c (EJ F) σ.1 σ.2.1 σ.2.2.1 σ.2.2.2) L (at_,x,first,l)=some o∧B5 (λν=>Hw ν.1 ν.2) o=some (b,l++g.txt first):=by
 intro g
 induction g with
 | nil=>
  intro v c F L at_ x first l m last ys hA hpc hm hcN hw hd h0 hN hx hlen hL hF
  obtain⟨L,rfl⟩:∃K,L=K+1:=⟨L-1,by omega⟩
  simp only[Fo.cnt] at hN;have hx' : ¬ x<c.fN:=by omega
  refine⟨.go (first,l),first,DO (MP hpc hx'),?_⟩;rw[CC,Fo.txt,Adk];rfl
 | cell k cc r ih=>
  intro v c F L at_ x first l m last ys hA hpc hm hcN hw hd h0 hN hx hlen hL hF
  simp only[Fo.wf,AcG,AcV] at hw;obtain⟨⟨⟨w1,w2⟩,w3⟩,w4⟩:=hw;have hd2:v.drop at_.toNat=Bu k++((Fo.cell none cc .nil).flat++(r.flat++ys)):=by rw[hd];simp[Fo.flat,Bu]
  have hd1:=C4 h0 hd2;simp only[Fo.cnt] at hN hL;simp only[Fo.flat,AcF,AcE] at hF;obtain⟨L,rfl⟩:∃K,L=K+1:=⟨L-1,by omega⟩
  obtain⟨F,rfl⟩:∃K,F=K+4:=⟨F-4,by omega⟩
  have hAe:=hA.mem hd1;have hcM:=hAe.hc cc (by simp[Fo.flat,Bu]);have e:l++(Fo.cell k cc r).txt first=(l++(CA first++Gu k++D4 cc))++r.txt false:=by simp[Fo.txt]
  rw[e] at hlen ⊢;have hl2:(l++(CA first++Gu k++D4 cc)).length≤140737488355328:=by rw[AcF] at hlen;omega
  have hb:=NY (F:=F+4) (last:=last) hA (by omega) hpc (by omega) hx hcN h0 (by rw[hm];exact w1) hd2 rfl (Nx w2 w3) (first:=first) (l:=l) (λkey hkey=>
   NS (last:=last) (by rw[hm];exact w1) (λs hs=>⟨hkey s hs,by
    have hM:=hA.hM;subst hs;have:=(hA.hc ⟨4,0,s,0⟩ (Ad0 (by rw[hd2];simp[Bu]))).1;simp only at this;omega⟩) hl2 (λl' hl'=>MO (F:=F) w2 w3 (by omega) hcM.2.1 hl'))
  obtain⟨o,b,ho1,ho2⟩:=ih v c (F+4) L (at_+(Bu k).length+((Fo.cell none cc .nil).flat.length:Int)) (x+1) false (l++(CA first++Gu k++D4 cc)) m k ys hA hpc hm hcN w4 (C4 (by omega) hd1) (by omega) (by omega) (by omega) hlen (by omega) (by omega);exact⟨o,b,ID hb ho1,ho2⟩
 | node k cc kids r ihk ih=>
  intro v c F L at_ x first l m last ys hA hpc hm hcN hw hd h0 hN hx hlen hL hF
  simp only[Fo.wf,AcG,Ac9] at hw;obtain⟨⟨⟨⟨⟨w1,w2⟩,w3⟩,w5⟩,w6⟩,w4⟩:=hw;have hd2:v.drop at_.toNat=Bu k++((Fo.node none cc kids .nil).flat++(r.flat++ys)):=by rw[hd];simp[Fo.flat,Bu]
  have hd1:=C4 h0 hd2;simp only[Fo.cnt] at hN hL;simp only[Fo.flat,AcF,AcE] at hF;obtain⟨L,rfl⟩:∃K,L=K+1:=⟨L-1,by omega⟩
  obtain⟨F,rfl⟩:∃K,F=K+3:=⟨F-3,by omega⟩
  have hAe:=hA.mem hd1;have hfl:(Fo.node none cc kids .nil).flat=cc::kids.flat:=by simp[Fo.flat,Bu]
  have hcM:=hAe.hc cc (by rw[hfl];simp);have hcf:=Cf kids;have e:l++(Fo.node k cc kids r).txt first=(l++(CA first++Gu k++Nj cc (kids.txt true)))++r.txt false:=by simp[Fo.txt]
  rw[e] at hlen ⊢;have hl2:(l++(CA first++Gu k++Nj cc (kids.txt true))).length≤140737488355328:=by rw[AcF] at hlen;omega
  have hb:=NY (F:=F+3) (last:=last) hA (by omega) hpc (by omega) hx hcN h0 (by rw[hm];exact w1) hd2 rfl (Nw w2 w3 w5 w6) (first:=first) (l:=l) (λkey hkey=>
   NS (last:=last) (by rw[hm];exact w1) (λs hs=>⟨hkey s hs,by
    have hM:=hA.hM;subst hs;have:=(hA.hc ⟨4,0,s,0⟩ (Ad0 (by rw[hd2];simp[Bu]))).1;simp only at this;omega⟩) hl2 (λl' hl'=>by
     rw[Gy];have hat:Ao (Fo.node none cc kids .nil).flat 0=cc:=by rw[hfl];rfl
     have hlen0:0<(Fo.node none cc kids .nil).flat.length:=by rw[hfl];simp
     have hbl:=Ji cc (kids.txt true);rw[AcF,hbl] at hl';have hb:∀l2:Af,l2.length=l'.length+1→∃b,GT (F+1) (Fo.node none cc kids .nil).flat true l2 cc=some (b,l2++kids.txt true):=λl2 hl2'=>by
       rw[GT];unfold Ip;have i0:(0:Int)<((Fo.node none cc kids .nil).flat.length:Int):=by omega
       obtain⟨o,b,ho1,ho2⟩:=ihk (Fo.node none cc kids .nil).flat cc F F 1 0 true l2 _ none [] hAe hat rfl hcM.2.2 w6 (by rw[hfl];simp) (by decide) (by omega) (AcX 0) (by rw[AcF];omega) (by omega) (by omega);exact⟨b,by rw[AP (AcX 0) i0,AI ho1,ho2]⟩
     exact KR hat hlen0 (HO w2 w3).1 (by rw[AcF,hbl];exact hl') hb))
  obtain⟨o,b,ho1,ho2⟩:=ih v c (F+3) L (at_+(Bu k).length+((Fo.node none cc kids .nil).flat.length:Int)) (x+1) false (l++(CA first++Gu k++Nj cc (kids.txt true))) m k ys hA hpc hm hcN w4 (C4 (by omega) hd1) (by omega) (by omega) (by omega) hlen (by omega) (by omega);exact⟨o,b,ID hb ho1,ho2⟩
theorem UC {f:Fo}{F:Nat}{l:Af}(hA:Hn M f.flat)(h1:f.one=true)(hw:f.wf false none=true)(hF:M+8+3*f.flat.length<F)(hlen:(l++f.txt true).length≤140737488355328):Gy F l f.flat=some (l++f.txt true):=by
 have hM:=hA.hM;have hvM:=hA.hv
 cases f with
 | nil=>cases h1
 | cell k c r=>
  cases k with
  | some s=>cases h1
  | none=>
   cases r with
   | nil=>
    simp only[Fo.wf,AcG,AcV] at hw;have hfl:(Fo.cell none c .nil).flat=[c]:=by simp[Fo.flat,Bu]
    have hcM:=hA.hc c (by rw[hfl];simp);have et:(Fo.cell none c .nil).txt true=D4 c:=by simp[Fo.txt,CA,Gu]
    rw[et] at hlen ⊢;obtain⟨F,rfl⟩:∃K,F=K+3:=⟨F-3,by omega⟩
    rw[hfl];exact MO hw.1.1.2 hw.1.2 (by omega) hcM.2.1 hlen
   | cell _ _ _=>cases h1
   | node _ _ _ _=>cases h1
 | node k c kids r=>
  cases k with
  | some s=>cases h1
  | none=>
   cases r with
   | nil=>
    simp only[Fo.wf,AcG,Ac9] at hw;obtain⟨⟨⟨⟨⟨w1,w2⟩,w3⟩,w5⟩,w6⟩,w4⟩:=hw;have hfl:(Fo.node none c kids .nil).flat=c::kids.flat:=by simp[Fo.flat,Bu]
    have hcM:=hA.hc c (by rw[hfl];simp);have et:(Fo.node none c kids .nil).txt true=Nj c (kids.txt true):=by simp[Fo.txt,CA,Gu]
    rw[et] at hlen ⊢;have hcf:=Cf kids;have hat:Ao (Fo.node none c kids .nil).flat 0=c:=by rw[hfl];rfl
    have hlen0:0<(Fo.node none c kids .nil).flat.length:=by rw[hfl];simp
    have hl1:(Fo.node none c kids .nil).flat.length=kids.flat.length+1:=by rw[hfl];simp
    have hbl:=Ji c (kids.txt true);obtain⟨F,rfl⟩:∃K,F=K+2:=⟨F-2,by omega⟩
    rw[Gy];refine KR hat hlen0 (HO w2 w3).1 hlen (λl2 hl2=>?_);rw[AcF,hbl] at hlen;rw[GT];unfold Ip;have i0:(0:Int)<((Fo.node none c kids .nil).flat.length:Int):=by omega
    obtain⟨o,b,ho1,ho2⟩:=Pg kids (Fo.node none c kids .nil).flat c F F 1 0 true l2 _ none [] hA hat rfl hcM.2.2 w6 (by rw[hfl];simp) (by decide) (by omega) (AcX 0) (by rw[AcF];omega) (by omega) (by omega);exact⟨b,by rw[AP (AcX 0) i0,AI ho1,ho2]⟩
   | cell _ _ _=>cases h1
   | node _ _ _ _=>cases h1
def Ii (v:List Aa):Af×Int:=match whole v with
 | none=>([],1)
 | some f=>bif decide (ER f=0) then(f.txt true,0) else([],ER f)
theorem ZS (n:Int):Lib.itoa n≠[]:=by
 unfold Lib.itoa
 split
 ·simp
 ·intro h;have:=congrArg List.length h;rw[Lib.decDigits_length] at this;have:=Lib.nDigits_pos n.toNat;simp at *;omega
theorem Zt {f:Fo}(hw:f.wf false none=true)(h1:f.one=true):0<(f.txt true).length:=by
 have e:=HM f false none true hw
 cases f with
 | nil=>cases h1
 | cell k c r=>
  have h2:=HX hw;simp only[Fo.txt,AcF];simp only[Fo.wf,AcG] at hw;have hp:=hw.1.1.2;have:0<(D4 c).length:=by
   have hl:=PG hp;have:0<Wh c:=by
    unfold Wh
    cases h1:decide (c.fKind=1) with
    | true=>simp
    | false=>
     cases h2:decide (c.fKind=2) with
     | true=>
      simp[pl,h1,h2] at hp;simp only[AcD,AcH];omega
     | false=>
      cases h3:decide (c.fKind=3) with
      | true=>
       simp only[AcD,AcH];have:Lib.itoa c.fInt≠[]:=ZS _;have:=List.length_pos_iff.2 this;omega
      | false=>
       cases h4:decide (c.fKind=4) with
       | true=>have:=LA c.fStr;simp only[AcD,AcH];omega
       | false=>simp
   omega
  omega
 | node k c kids r=>
  have:=Ji c (kids.txt true);simp only[Fo.txt,AcF];omega
theorem SM {v:List Aa}(hA:Hn M v)(hM:M≤1000000){F:Nat}(hF:4*M+8<F):Lu F v=some (Ii v):=by
 have hvM:=hA.hv;unfold Lu Ii;rw[Iu hA hM (by omega),AI rfl];unfold GO
 cases hwh:whole v with
 | none=>rfl
 | some f=>
  change Bf (!decide (ER f=0)) _ _=some (bif decide (ER f=0) then(f.txt true,0) else([],ER f))
  cases he:decide (ER f=0) with
  | false=>rw[AF (p:=!false) rfl];rfl
  | true=>
   obtain⟨h1,h2,h3⟩:=Hu hwh;have hl:v.length=f.flat.length:=by rw[h1]
   have hc:∀c∈f.flat,c.fStr.length≤M∧B9 .i64 c.fInt=true∧c.fN≤9223372036854775807:=λc hc=>hA.hc c (by rw[h1];exact hc);have hb:=K2 hM h2 (by omega) hc;have htl:((f.txt true).length:Int)=f.byt:=by rw[HM f false none true h2,N6 h3];simp
   have hA':Hn M f.flat:=by rw[← h1];exact hA
   have hw:=UC (F:=F) (l:=[]) hA' h3 h2 (by omega) (by rw[Adg];omega);rw[A0 (p:=!true) rfl,h1,hw,AI rfl,Adg,BL (AcC (Zt h2 h3))];rfl
end
def WD (v:List Aa):Bool:=!decide (300<v.length)&&v.all λc=>!decide (300<c.fStr.length)
def Xp (c:Aa):Bool:=B9 .i64 c.fKind&&B9 .i64 c.fInt&&okS c.fStr&&B9 .i64 c.fN
theorem Hn.of {v:List Aa}(hs:WD v=true)(hc:v.all Xp=true):Hn 300 v:=by
 unfold WD at hs;simp only[AcG,AcV,AcA,Adn] at hs hc;refine⟨by decide,by omega,λc h=>?_⟩;obtain h1:=hs.2 c h;obtain h2:=hc c h;unfold Xp at h2;simp only[AcG] at h2;exact⟨by omega,h2.1.1.2,(GD h2.2).2⟩
theorem Tr (a:Bool):imp a true=true:=by cases a<;>rfl
section
variable {M : Nat}
end
def Ux (n:Nat):Af:=[UInt8.ofNat (n/16777216),UInt8.ofNat (n/65536),UInt8.ofNat (n/256),UInt8.ofNat n]
def Gq:Af→Nat
 | a::b::c::d::_=>((a.toNat*256+b.toNat)*256+c.toNat)*256+d.toNat
 | _=>0
def HW (c:UInt8):BitVec 32:=BitVec.ofNat 32 c.toNat
def Tv (b:BitVec 32):Af→BitVec 32
 | []=>b
 | c::s=>Tv (QO 8 (b^^^HW c)) s
def OU (s:Af):Nat:=(~~~ (Tv 4294967295#32 s)).toNat
theorem Aaq (s:Af):OU s<4294967296:=(~~~ (Tv 4294967295#32 s)).isLt
def BU (b:Af):Af:=Ux b.length++Ux (OU b)++b
theorem D0 (b:Af):(BU b).length=8+b.length:=by simp[BU,Ux];omega
def Dm (s:Af):Af×Int×Int:=
 bif decide (s.length<8) then([],0,14)
 else bif decide (262136<Gq s) then([],0,13)
 else bif decide (s.length-8<Gq s) then([],0,14)
 else bif !decide (OU ((s.drop 8).take (Gq s))=Gq (s.drop 4)) then([],0,13)
 else((s.drop 8).take (Gq s),((8+Gq s:Nat):Int),0)
def BN:Nat→Af→List Af×Nat
 | 0,_=>([],0)
 | n+1,s=>bif decide ((Dm s).2.2=0) then((Dm s).1::(BN n (s.drop (Dm s).2.1.toNat)).1,(Dm s).2.1.toNat+(BN n (s.drop (Dm s).2.1.toNat)).2) else([],0)
theorem RL {n:Nat}(h:n<4294967296)(r:Af):Gq (Ux n++r)=n:=by
 show((((UInt8.ofNat (n/16777216)).toNat*256+(UInt8.ofNat (n/65536)).toNat)*256+(UInt8.ofNat (n/256)).toNat)*256+(UInt8.ofNat n).toNat)=n;simp only[UInt8.toNat_ofNat'];omega
theorem S6 {s:Af}(h:4≤s.length):Ux (Gq s)=s.take 4:=by
 match s,h with
 | a::b::c::d::r,_=>
  have ha:=a.toNat_lt;have hb:=b.toNat_lt;have hc:=c.toNat_lt;have hd:=d.toNat_lt;show Ux (((a.toNat*256+b.toNat)*256+c.toNat)*256+d.toNat)=[a,b,c,d];unfold Ux;have e:∀x y:UInt8,x.toNat=y.toNat→x=y:=λx y h=>UInt8.toNat_inj.1 h
  congr 1
  ·apply e;simp only[UInt8.toNat_ofNat'];omega
  ·congr 1
   ·apply e;simp only[UInt8.toNat_ofNat'];omega
   ·congr 1
    ·apply e;simp only[UInt8.toNat_ofNat'];omega
    ·congr 1
     apply e;simp only[UInt8.toNat_ofNat'];omega
theorem ZB (s:Af):Gq s<4294967296:=by
 match s with
 | a::b::c::d::r=>
  have ha:=a.toNat_lt;have hb:=b.toNat_lt;have hc:=c.toNat_lt;have hd:=d.toNat_lt;show((a.toNat*256+b.toNat)*256+c.toNat)*256+d.toNat<_;omega
 | []=>decide
 | [_]=>show 0<_;decide
 | [_,_]=>show 0<_;decide
 | [_,_,_]=>show 0<_;decide
theorem Vk {b:Af}(h:b.length≤262136)(r:Af):Dm (BU b++r)=(b,((8+b.length:Nat):Int),0):=by
 have h1:Gq (BU b++r)=b.length:=by
  unfold BU;rw[AcU,AcU];exact RL (by omega) _
 have h2:Gq ((BU b++r).drop 4)=OU b:=by
  have:(BU b++r).drop 4=Ux (OU b)++(b++r):=by unfold BU Ux;simp
  rw[this];exact RL (Aaq b) _
 have h3:((BU b++r).drop 8).take b.length=b:=by
  have:(BU b++r).drop 8=b++r:=by unfold BU Ux;simp
  rw[this];simp
 have hl:=D0 b;unfold Dm;rw[h1,h2,h3,AcF,hl];rw[AcB (by omega),AcB (by omega),AcB (by omega),AcC rfl];rfl
theorem Ow {s:Af}(h:(Dm s).2.2=0):(Dm s).1.length≤262136∧(Dm s).2.1=((8+(Dm s).1.length:Nat):Int)∧s=BU (Dm s).1++s.drop (8+(Dm s).1.length):=by
 unfold Dm at h ⊢
 cases h1:decide (s.length<8) with
 | true=>rw[h1] at h;cases h
 | false=>
  rw[h1] at h;simp only[AcD] at h ⊢
  cases h2:decide (262136<Gq s) with
  | true=>rw[h2] at h;cases h
  | false=>
   rw[h2] at h;simp only[AcD] at h ⊢
   cases h3:decide (s.length-8<Gq s) with
   | true=>rw[h3] at h;cases h
   | false=>
    rw[h3] at h;simp only[AcD] at h ⊢
    cases h4:decide (OU ((s.drop 8).take (Gq s))=Gq (s.drop 4)) with
    | false=>rw[h4] at h;cases h
    | true=>
     simp only[AcA,Ac9] at h1 h2 h3 h4;simp only[AcP,AcD];have hl:((s.drop 8).take (Gq s)).length=Gq s:=by simp;omega
     refine⟨by omega,by rw[hl],?_⟩;rw[hl];unfold BU;rw[hl,S6 (by omega),h4,S6 (by simp;omega)];rw[AcU,AcU,← AdC,Ady];rw[show s.drop 8=(s.drop 4).drop 4 from by rw[AdC],Ady,Ady]
theorem KL (l:List Af):∀b∈l,8+b.length≤(l.flatMap BU).length:=by
 induction l with
 | nil=>intro b hb;cases hb
 | cons c l ih=>
  intro b hb;rw[Ad1,AcF,D0];rcases List.mem_cons.1 hb with rfl | hb
  ·omega
  ·have:=ih b hb;omega
theorem RC:(Dm []).2.2=14:=rfl
theorem MT:∀(l:List Af) (n:Nat),(∀b∈l,b.length≤262136)→l.length≤n→BN n (l.flatMap BU)=(l,(l.flatMap BU).length)
 | [],0,_,_=>rfl
 | [],n+1,_,_=>by
  rw[BN];show(bif decide ((Dm []).2.2=0) then _ else _)=_;rw[RC];rfl
 | b::l,0,_,h=>by simp at h
 | b::l,n+1,hb,h=>by
  simp only[AcE] at h;rw[BN,Ad1,Vk (hb b (by simp))];have hd:(BU b++l.flatMap BU).drop (8+b.length)=l.flatMap BU:=by rw[← D0 b];simp
  simp only[decide_true,AcH];rw[show(((8+b.length:Nat):Int)).toNat=8+b.length from by omega,hd,MT l n (λx hx=>hb x (by simp[hx])) (by omega)];rw[AcF,D0]
theorem Kb:∀(n:Nat) (s:Af),(BN n s).2≤s.length∧s.take (BN n s).2=(BN n s).1.flatMap BU∧∀b∈(BN n s).1,b.length≤262136
 | 0,s=>⟨Adt _,by simp[BN],λb hb=>by cases hb⟩
 | n+1,s=>by
  rw[BN]
  cases h:decide ((Dm s).2.2=0) with
  | false=>exact⟨Adt _,by simp,λb hb=>by cases hb⟩
  | true=>
   simp only[AcH];obtain⟨h1,h2,h3⟩:=Ow (AcK h);generalize(Dm s).1=b at *;rw[h2,show(((8+b.length:Nat):Int)).toNat=8+b.length from by omega];obtain⟨g1,g2,g3⟩:=Kb n (s.drop (8+b.length));generalize BN n (s.drop (8+b.length))=t at *;have hl:s.length=8+b.length+(s.drop (8+b.length)).length:=by
    have:=congrArg List.length h3;rw[AcF,D0] at this;exact this
   refine⟨by omega,?_,λx hx=>?_⟩
   ·rw[Ad1,← g2]
    conv=>lhs;rw[h3]
    rw[← D0 b,List.take_length_add_append]
   ·rcases List.mem_cons.1 hx with rfl | hx
    ·exact h1
    ·exact g3 x hx
def PL (l:List Af):Af×Int:=bif decide ((l.flatMap BU).length≤262144) then(l.flatMap BU,0) else([],3)
theorem Kn (s:Af):Id (C8 s)=s:=by
 unfold Id C8;rw[AdB];have:((λx:Int=>UInt8.ofNat x.toNat) ∘ λc:UInt8=>(c.toNat:Int))=id:=by funext c;simp
 rw[this,List.map_id]
theorem Qk (a b:Af):C8 a++C8 b=C8 (a++b):=by simp[C8]
theorem SO (a:Af):(C8 a).length=a.length:=by simp[C8]
theorem KE (n:Nat):IntKind.wrap .u8 (n:Int)=((UInt8.ofNat n).toNat:Int):=by
 simp[IntKind.wrap,IntKind.signed,IntKind.bits]
theorem Acp (n:Nat):BH .i64 (n:Int) 8=((n/256:Nat):Int):=by
 unfold BH;have e:min (8:Int).toNat (IntKind.bits .i64)=8:=by decide
 rw[e,Int.fdiv_eq_ediv_of_nonneg _ (by decide)];simp
def MB (f:Af):Af:=UInt8.ofNat (f.length/256)::UInt8.ofNat (f.length % 256)::f
def LE (l:List Af):Af:=UInt8.ofNat l.length::l.flatMap MB
def Xo (l:List Af):Bool:=decide (l.length≤64)&&l.all λf=>decide (f.length≤4000)
def MW (l:List Af):Af×Int:=bif Xo l then(LE l,0) else([],3)
theorem P6 (l:List Af)(b:List Int×Int→Option (Stp (List Int×Int) (Out (Af×Int) (List Int))))(hl:l.length≤64)
  (hb:∀(acc:List Int) (x:Int) (f:Af),acc.length≤300000→0≤x→x<(l.length:Int)→Ao l x=f→b (acc,x)=bif decide (4000<f.length) then some (.out (.ret ([],3))) else some (.next (acc++C8 (MB f),x+1)))
  (he:∀acc,b (acc,(l.length:Int))=some (.out (.go acc))) {F:Nat} (hF:64<F) :
  Br (B7 b F (C8 [UInt8.ofNat l.length],0)) (B5 λq=>some (Id q,0))=some (MW l):=by
 have key:∀(k:Nat) (F:Nat) (acc:Af),k<F→k≤l.length→acc.length≤1+(l.length-k)*4002→
   Br (B7 b F (C8 acc,((l.length-k:Nat):Int))) (B5 λq=>some (Id q,0))=some (bif (l.drop (l.length-k)).all (λf=>decide (f.length≤4000)) then(acc++(l.drop (l.length-k)).flatMap MB,0) else([],3)):=by
  intro k
  induction k with
  | zero=>
   intro F acc hF _ _
   cases F with
   | zero=>omega
   | succ F=>rw[B7,Nat.sub_zero,he];simp[Br,B5,Kn]
  | succ k ih=>
   intro F acc hF hk hacc
   cases F with
   | zero=>omega
   | succ F=>
    have hlt:l.length-(k+1)<l.length:=by omega
    have hat:Ao l ((l.length-(k+1):Nat):Int)=l[l.length-(k+1)]:=by simp[Ao,hlt]
    have hd:l.drop (l.length-(k+1))=l[l.length-(k+1)]::l.drop (l.length-k):=by
     rw[List.drop_eq_getElem_cons hlt];congr 2;omega
    have ha:(l.length-(k+1))*4002≤64*4002:=Nat.mul_le_mul_right _ (by omega);rw[B7,hb _ _ _ (by rw[SO];omega) (by omega) (by omega) hat,hd];generalize l[l.length-(k+1)]=f at *
    cases h4:decide (4000<f.length) with
    | true=>
     simp only[Ac9] at h4;rw[Ado,AcB (by omega),Adb];rfl
    | false=>
     simp only[AcA] at h4;have e2:(l.length-(k+1))*4002+4002=(l.length-k)*4002:=by
      rw[show l.length-k=l.length-(k+1)+1 from by omega,Nat.succ_mul]
     have:=ih F (acc++MB f) (by omega) (by omega) (by simp[MB];omega);rw[show((l.length-(k+1):Nat):Int)+1=((l.length-k:Nat):Int) from by omega];simp only[AcD,Qk];rw[this,Ado,AcC (by omega),AcQ,Ad1,AcU]
 have:=key l.length F [UInt8.ofNat l.length] (by omega) (AcY _) (by simp);simp only[Nat.sub_self,List.drop_zero] at this;refine Eq.trans this ?_;unfold MW Xo LE;rw[AcC hl,AcQ];rfl
theorem Gn {α:Type}{n:Nat}{x:Option α}(h:n≤1000000000):AX (Dw 1 n) x=x:=BL (AcC (by omega))
theorem G9 {α:Type}{n:Nat}{x:Option α}(h:n≤1000000000):AX (Dw 16 n) x=x:=BL (AcC (by omega))
theorem Ng (f:Af):decide ((4000:Int)<(f.length:Int))=decide (4000<f.length):=by rw[AcT];simp;omega
theorem Sq {F:Nat}{l:List Af}(hF:64<F):PT F l=some (MW l):=by
 unfold PT
 by_cases ha:l.length≤64
 ·rw[A0 (AcB (by omega)),KE];refine P6 l _ ha (λacc x f hacc h0 hx hat=>?_) (λacc=>?_) hF
  ·show GJ l acc x=_;unfold GJ;rw[AF (AcC hx),AP h0 hx,hat,Ng]
   cases h4:decide (4000<f.length) with
   | true=>rfl
   | false=>
    simp only[AcA] at h4;have e1:([IntKind.wrap .u8 (BH .i64 (f.length:Int) 8),IntKind.wrap .u8 (f.length:Int)]:List Int)++C8 f=C8 (MB f):=by
     rw[Acp,KE,KE];simp[C8,MB]
    rw[A0 rfl,Gn (by simp;omega),Gn (by simp;omega),AB (by omega) (by omega),AcU,e1];rfl
  ·show GJ l acc _=_;unfold GJ;rw[A0 (AcB (by omega))]
 ·rw[AF (AcC (by omega))];unfold MW Xo;rw[AcB ha];rfl
theorem P4 {F:Nat}{l:List Af}(hF:64<F):JB F l=some (MW l):=by
 unfold JB
 by_cases ha:l.length≤64
 ·rw[A0 (AcB (by omega)),KE];refine P6 l _ ha (λacc x f hacc h0 hx hat=>?_) (λacc=>?_) hF
  ·show EV l acc x=_;unfold EV;rw[AF (AcC hx),AP h0 hx,hat,Ng]
   cases h4:decide (4000<f.length) with
   | true=>rfl
   | false=>
    simp only[AcA] at h4;have ed:Int.tdiv (f.length:Int) 256=((f.length/256:Nat):Int):=by rw[Int.tdiv_eq_ediv_of_nonneg (by omega)];rfl
    have em:Int.tmod (f.length:Int) 256=((f.length % 256:Nat):Int):=by rw[Int.tmod_eq_emod_of_nonneg (by omega)];rfl
    have e1:([IntKind.wrap .u8 (Int.tdiv (f.length:Int) 256),IntKind.wrap .u8 (Int.tmod (f.length:Int) 256)]:List Int)++C8 f=C8 (MB f):=by
     rw[ed,em,KE,KE];simp[C8,MB]
    rw[A0 rfl,AB (by rw[ed];omega) (by rw[ed];omega),Gn (by simp;omega),Gn (by simp;omega),AB (by omega) (by omega),AcU,e1];rfl
  ·show EV l acc _=_;unfold EV;rw[A0 (AcB (by omega))]
 ·rw[AF (AcC (by omega))];unfold MW Xo;rw[AcB ha];rfl
def No:Nat→Af→List Af→List Af×Int
 | 0,s,acc=>bif decide (s=[]) then(acc,0) else([],13)
 | n+1,a::b::r,acc=>bif decide (4000<a.toNat*256+b.toNat) then([],13) else bif decide (r.length<a.toNat*256+b.toNat) then([],14) else No n (r.drop (a.toNat*256+b.toNat)) (acc++[r.take (a.toNat*256+b.toNat)])
 | n+1,_,acc=>([],14)
def GU:Af→List Af×Int
 | []=>([],14)
 | c::s=>bif decide (64<c.toNat) then([],13) else No c.toNat s []
theorem Acv (a b:UInt8):IR .i64 (CS .i64 (a.toNat:Int) 8) (b.toNat:Int)=((a.toNat*256+b.toNat:Nat):Int):=by
 have ha:=a.toNat_lt;have hb:=b.toNat_lt;have e0:CS .i64 (a.toNat:Int) 8=((a.toNat*256:Nat):Int):=by
  unfold CS;have e:min (8:Int).toNat (IntKind.bits .i64)=8:=by decide
  rw[e,IntKind.wrap_i64];omega
 rw[e0];unfold IR;have h1:(BitVec.ofInt (IntKind.bits .i64) ((a.toNat*256:Nat):Int)||| BitVec.ofInt (IntKind.bits .i64) (b.toNat:Int)).toNat=a.toNat*256+b.toNat:=by
  rw[BitVec.toNat_or,BitVec.toNat_ofInt,BitVec.toNat_ofInt];have hbits:IntKind.bits .i64=64:=rfl;rw[hbits];have e1:(((a.toNat*256:Nat):Int) % ((2 ^ 64:Nat):Int)).toNat=a.toNat*256:=by omega
  have e2:(((b.toNat:Nat):Int) % ((2 ^ 64:Nat):Int)).toNat=b.toNat:=by omega
  rw[e1,e2,show a.toNat*256=a.toNat <<< 8 from by rw[Nat.shiftLeft_eq]];rw[Nat.shiftLeft_add_eq_or_of_lt (by simpa using hb)]
 rw[h1,IntKind.wrap_i64];omega
theorem Aca (a:UInt8)(r:Af):Bm (a::r) 0=(a.toNat:Int):=rfl
theorem Acw (a b:UInt8)(r:Af):Bm (a::b::r) 1=(b.toNat:Int):=rfl
theorem Yq (s:Af)(c:UInt8)(hs:Bm s 0=(c.toNat:Int)):∀(k:Nat) (F:Nat) (t:Af) (acc:List Af) (z i:Int),k<F→i+k=(c.toNat:Int)→0≤i→acc.length≤64-k→k≤64→t.length≤1000000000→
  Br (B7 (λσ=>C6 s σ.1 σ.2.1 σ.2.2.1 σ.2.2.2) F (t,acc,z,i)) (B5 λν=>EQ ν.1 ν.2)=some (No k t acc)
 | k,0,t,acc,z,i,h,_,_,_,_,_=>by omega
 | 0,F+1,t,acc,z,i,hF,hi,h0,ha,hk,ht=>by
  rw[B7];have hb:C6 s t acc z i=some (.out (.go (t,acc))):=by
   unfold C6;rw[A0 (AcB (by omega))]
  simp only[hb];show EQ t acc=_;unfold EQ No
  cases h:decide (t=[]) with
  | true=>rw[A0 (p:=!true) rfl,Ca (by omega) (AcX _)];simp
  | false=>rfl
 | k+1,F+1,t,acc,z,i,hF,hi,h0,ha,hk,ht=>by
  rw[B7];have hcc:=c.toNat_lt
  match t,ht with
  | [],ht=>
   have hb:C6 s [] acc z i=some (.out (.ret ([],14))):=by
    unfold C6;rw[AF (AcC (by omega)),AF (by decide)];rfl
   simp only[hb];rfl
  | [a],ht=>
   have hb:C6 s [a] acc z i=some (.out (.ret ([],14))):=by
    unfold C6;rw[AF (AcC (by omega)),AF (by simp)];rfl
   simp only[hb];rfl
  | a::b::r,ht=>
   have haa:=a.toNat_lt;have hbb:=b.toNat_lt;simp only[AcE] at ht;have hd:List.drop (Int.toNat 2) (a::b::r)=r:=rfl;have hb:C6 s (a::b::r) acc z i=bif decide (4000<a.toNat*256+b.toNat) then some (.out (.ret ([],13))) else bif decide (r.length<a.toNat*256+b.toNat) then some (.out (.ret ([],14))) else some (.next (r.drop (a.toNat*256+b.toNat),acc++[r.take (a.toNat*256+b.toNat)],((a.toNat*256+b.toNat:Nat):Int),i+1)):=by
    unfold C6;rw[AF (AcC (by omega)),A0 (AcB (by simp only[AcE];omega)),Aca,Acw,hd,Acv];have hlen:((a::b::r).length:Int)=(r.length:Int)+2:=by simp only[AcE];omega
    rw[hlen,AP (by omega) (by omega),AB (by omega) (by omega),AP (by omega) (by omega),AB (by omega) (by omega),Ca (by omega) (by omega)];generalize a.toNat*256+b.toNat=m;rw[show decide ((4000:Int)<(m:Int))=decide (4000<m) from by rw[AcT];simp;omega,show decide ((r.length:Int)<(m:Int))=decide (r.length<m) from by rw[AcT];simp]
    cases h1:decide (4000<m) with
    | true=>rfl
    | false=>
     cases h2:decide (r.length<m) with
     | true=>rfl
     | false=>
      simp only[AcA] at h1 h2;rw[A0 rfl,A0 rfl,Ca (by omega) (by omega),G9 (by simp;omega),AB (by omega) (by omega)];rfl
   simp only[hb];rw[No]
   cases h1:decide (4000<a.toNat*256+b.toNat) with
   | true=>rfl
   | false=>
    cases h2:decide (r.length<a.toNat*256+b.toNat) with
    | true=>rfl
    | false=>
     simp only[AcD];exact Yq s c hs k F _ _ _ _ (by omega) (by omega) (by omega) (by simp;omega) (by omega) (by simp;omega)
theorem Tt {F:Nat}{s:Af}(hF:64<F)(hs:s.length≤1000000000):LX F s=some (GU s):=by
 unfold LX
 cases s with
 | nil=>rfl
 | cons c t=>
  have hc:=c.toNat_lt;simp only[AcE] at hs;rw[A0 (by simp),AP (by omega) (by simp only[AcE];omega),Aca,AB (by omega) (by omega),Ca (by omega) (by simp only[AcE];omega)];rw[show decide ((64:Int)<(c.toNat:Int))=decide (64<c.toNat) from by rw[AcT];simp;omega];rw[GU]
  cases h:decide (64<c.toNat) with
  | true=>rfl
  | false=>
   simp only[AcA] at h;rw[A0 rfl];exact Yq (c::t) c rfl c.toNat F t [] 0 0 (by omega) (by omega) (AcX 0) (by simp) (by omega) (by omega)
theorem S7 {s:Af}{k:Nat}{a:UInt8}{r:Af}(h:s.drop k=a::r):Bm s (k:Int)=(a.toNat:Int):=by
 have:s[k]? =some a:=by rw[← List.head?_drop,h];rfl
 simp[Bm,this]
theorem Pu:∀(l:List Af) (acc:List Af),(l.all λf=>decide (f.length≤4000))=true→No l.length (l.flatMap MB) acc=(acc++l,0)
 | [],acc,_=>by simp[No]
 | f::l,acc,h=>by
  simp only[Ado,AcG,Ac9] at h;rw[Ad1,AcE];show No (l.length+1) (UInt8.ofNat (f.length/256)::UInt8.ofNat (f.length % 256)::(f++l.flatMap MB)) acc=_;rw[No];have e:(UInt8.ofNat (f.length/256)).toNat*256+(UInt8.ofNat (f.length % 256)).toNat=f.length:=by
   simp only[UInt8.toNat_ofNat'];omega
  rw[e,AcB (by omega),AcB (by simp),AcD,AcD,List.take_left,List.drop_left,Pu l _ (by simpa using h.2)];simp
theorem W0 {l:List Af}(h:Xo l=true):GU (LE l)=(l,0):=by
 unfold Xo at h;simp only[AcG,Ac9] at h;unfold LE;rw[GU];have e:(UInt8.ofNat l.length).toNat=l.length:=by simp only[UInt8.toNat_ofNat'];omega
 rw[e,AcB (by omega),AcD,Pu l [] h.2];rfl
theorem Rk:∀(n:Nat) (s:Af) (acc:List Af) (q:List Af),No n s acc=(q,0)→∃l,q=acc++l∧l.length=n∧(l.all λf=>decide (f.length≤4000))=true∧l.flatMap MB=s
 | 0,s,acc,q,h=>by
  rw[No] at h
  cases hs:decide (s=[]) with
  | true=>rw[hs] at h;simp only[AcH,Prod.mk.injEq] at h;exact⟨[],by simp[h.1],rfl,rfl,by rw[AcK hs];rfl⟩
  | false=>rw[hs] at h;cases h
 | n+1,[],acc,q,h=>by have h2:(([]:List Af),(14:Int))=(q,0):=h;cases h2
 | n+1,[a],acc,q,h=>by have h2:(([]:List Af),(14:Int))=(q,0):=h;cases h2
 | n+1,a::b::r,acc,q,h=>by
  rw[No] at h;have ha:=a.toNat_lt;have hb:=b.toNat_lt
  cases h1:decide (4000<a.toNat*256+b.toNat) with
  | true=>rw[h1] at h;cases h
  | false=>
   cases h2:decide (r.length<a.toNat*256+b.toNat) with
   | true=>rw[h1,h2] at h;cases h
   | false=>
    rw[h1,h2] at h;simp only[AcD] at h;simp only[AcA] at h1 h2;obtain⟨l,e1,e2,e3,e4⟩:=Rk n _ _ _ h;have hl:(r.take (a.toNat*256+b.toNat)).length=a.toNat*256+b.toNat:=by simp;omega
    refine⟨r.take (a.toNat*256+b.toNat)::l,by rw[e1];simp,by simp[e2],?_,?_⟩
    ·rw[Ado,e3,AcZ,Ac9,hl];omega
    ·rw[Ad1,e4];unfold MB;rw[hl];have x1:UInt8.ofNat ((a.toNat*256+b.toNat)/256)=a:=by
      apply UInt8.toNat_inj.1;simp only[UInt8.toNat_ofNat'];omega
     have x2:UInt8.ofNat ((a.toNat*256+b.toNat) % 256)=b:=by
      apply UInt8.toNat_inj.1;simp only[UInt8.toNat_ofNat'];omega
     rw[x1,x2];simp
theorem RB {s:Af}{l:List Af}(h:GU s=(l,0)):Xo l=true∧LE l=s:=by
 cases s with
 | nil=>cases h
 | cons c t=>
  rw[GU] at h
  cases h1:decide (64<c.toNat) with
  | true=>rw[h1] at h;cases h
  | false=>
   rw[h1] at h;simp only[AcD] at h;simp only[AcA] at h1;obtain⟨l',e1,e2,e3,e4⟩:=Rk _ _ _ _ h;simp only[Adg] at e1;subst e1;unfold Xo LE;rw[e3,e4,e2,AcC (by omega)];exact⟨rfl,by simp⟩
theorem UJ {s:Af}{f:Af}(h:f∈(GU s).1)(h0:(GU s).2=0):f.length≤4000:=by
 have:=(RB (s:=s) (l:=(GU s).1) (by rw[← h0])).1;unfold Xo at this;simp only[AcG,Ac9,Adn] at this;exact this.2 f h
def pre:Af→Af→Option Af
 | [],s=>some s
 | c::w,d::s=>bif decide (c=d) then pre w s else none
 | _::_,[]=>none
def CY (strict:Bool):Af→Option (Af×Af)
 | []=>none
 | c::r=>
  bif decide (c=34) then some ([],r) else
  bif strict&&!K6 c then none else
  bif decide (c=92) then(match r with
   | []=>none
   | d::r'=>bif decide (d=34)||decide (d=92) then(match CY strict r' with
    | none=>none
    | some (t,u)=>some (d::t,u)) else none)
  else(match CY strict r with
   | none=>none
   | some (t,u)=>some (c::t,u))
def BX (c:UInt8):Bool:=decide (48≤c.toNat)&&decide (c.toNat≤57)
def C7:Af→Af×Af
 | []=>([],[])
 | c::r=>bif BX c then(c::(C7 r).1,(C7 r).2) else([],c::r)
def Po (d:Af):Int:=d.foldl (λn c=>10*n+((c.toNat:Int)-48)) 0
def K7 (neg:Bool)(d:Af):Int:=
 bif decide (18<d.length) then(bif neg then -2000000000000 else 2000000000000) else bif neg then -(Po d) else Po d
def EZ (neg:Bool)(d:Af):Bool:=!decide (d=[])&&!(decide (d.head? =some 48)&&(decide (1<d.length)||neg))
def IG (s:Af):Option (Fo×Af):=
 let neg:=decide (s.head? =some 45)
 let r:=bif neg then s.tail else s
 bif EZ neg (C7 r).1 then some (.cell none ⟨3,K7 neg (C7 r).1,[],0⟩ .nil,(C7 r).2) else none
def lf (k i:Int)(t:Af):Fo:=.cell none ⟨k,i,t,0⟩ .nil
def nd (m:Bool)(g:Fo):Fo:=bif decide (g.cnt=0) then .cell none ⟨bif m then 6 else 5,0,[],0⟩ .nil else .node none ⟨bif m then 6 else 5,0,[],(g.cnt:Int)⟩ g .nil
def BW (m:Bool):UInt8:=bif m then 125 else 93
def EP (strict m:Bool)(last:Option Af)(s:Af):Option (Option Af×Af):=
 bif m then(match s with
  | []=>none
  | c::r=>bif decide (c=34) then(match CY strict r with
   | none=>none
   | some (k,u)=>bif strict&&!B1 true last (some k) then none else(match u with
    | []=>none
    | d::u'=>bif decide (d=58) then some (some k,u') else none)) else none)
 else some (none,s)
mutual
def G2 (strict:Bool):Nat→Af→Option (Fo×Af)
 | 0,_=>none
 | F+1,s=>
  match pre [110,117,108,108] s with
  | some r=>some (lf 1 0 [],r)
  | none=>match pre [116,114,117,101] s with
   | some r=>some (lf 2 1 [],r)
   | none=>match pre [102,97,108,115,101] s with
    | some r=>some (lf 2 0 [],r)
    | none=>match s with
     | []=>none
     | c::r=>
      bif decide (c=34) then(match CY strict r with
       | none=>none
       | some (t,u)=>some (lf 4 0 t,u)) else
      bif decide (c=91)||decide (c=123) then(match r with
       | []=>none
       | d::r'=>bif decide (d=BW (decide (c=123))) then some (nd (decide (c=123)) .nil,r') else(match DM strict F (decide (c=123)) none (d::r') with
        | none=>none
        | some (g,u)=>some (nd (decide (c=123)) g,u))) else
      IG (c::r)
def DM (strict:Bool):Nat→Bool→Option Af→Af→Option (Fo×Af)
 | 0,_,_,_=>none
 | F+1,m,last,s=>
  match EP strict m last s with
  | none=>none
  | some (key,s1)=>match G2 strict F s1 with
   | none=>none
   | some (f,s2)=>match s2 with
    | []=>none
    | c::s3=>
     bif decide (c=BW m) then some (f.put key .nil,s3) else
     bif decide (c=44) then(match DM strict F m key s3 with
      | none=>none
      | some (g,u)=>some (f.put key g,u)) else none
end
theorem DL (strict:Bool)(F:Nat)(s:Af):G2 strict (F+1) s =
  match pre [110,117,108,108] s with
  | some r=>some (lf 1 0 [],r)
  | none=>match pre [116,114,117,101] s with
   | some r=>some (lf 2 1 [],r)
   | none=>match pre [102,97,108,115,101] s with
    | some r=>some (lf 2 0 [],r)
    | none=>match s with
     | []=>none
     | c::r=>
      bif decide (c=34) then(match CY strict r with
       | none=>none
       | some (t,u)=>some (lf 4 0 t,u)) else
      bif decide (c=91)||decide (c=123) then(match r with
       | []=>none
       | d::r'=>bif decide (d=BW (decide (c=123))) then some (nd (decide (c=123)) .nil,r') else(match DM strict F (decide (c=123)) none (d::r') with
        | none=>none
        | some (g,u)=>some (nd (decide (c=123)) g,u))) else
      IG (c::r):=by
 rw[G2.eq_def]
theorem D2 (strict:Bool)(F:Nat)(m:Bool)(last:Option Af)(s:Af):DM strict (F+1) m last s =
  match EP strict m last s with
  | none=>none
  | some (key,s1)=>match G2 strict F s1 with
   | none=>none
   | some (f,s2)=>match s2 with
    | []=>none
    | c::s3=>
     bif decide (c=BW m) then some (f.put key .nil,s3) else
     bif decide (c=44) then(match DM strict F m key s3 with
      | none=>none
      | some (g,u)=>some (f.put key g,u)) else none:=by
 rw[DM.eq_def]
theorem DF:∀{w s r:Af},pre w s=some r→s=w++r
 | [],s,r,h=>by cases h;rfl
 | c::w,[],r,h=>by cases h
 | c::w,d::s,r,h=>by
  rw[pre] at h
  cases hc:decide (c=d) with
  | false=>rw[hc] at h;cases h
  | true=>
   rw[hc] at h;simp only[Ac9] at hc;rw[hc,DF h];rfl
theorem DS (b:Bool)(c:UInt8)(r:Af):CY b (c::r) =
  bif decide (c=34) then some ([],r) else
  bif b&&!K6 c then none else
  bif decide (c=92) then(match r with
   | []=>none
   | d::r'=>bif decide (d=34)||decide (d=92) then(match CY b r' with
    | none=>none
    | some (t,u)=>some (d::t,u)) else none)
  else(match CY b r with
   | none=>none
   | some (t,u)=>some (c::t,u)):=by
 rw[CY.eq_def]
 cases r<;>rfl
theorem J8 (b:Bool):∀(n:Nat) (s t u:Af),s.length=n→CY b s=some (t,u)→u.length<s.length:=by
 intro n
 induction n using Nat.strongRecOn with
 | ind n ih=>
  intro s t u hn h
  cases s with
  | nil=>cases h
  | cons c r=>
   simp only[AcE] at hn ⊢;rw[DS] at h
   cases h1:decide (c=34) with
   | true=>rw[h1] at h;cases h;omega
   | false=>
    rw[h1] at h;simp only[AcD] at h
    cases h2:(b&&!K6 c) with
    | true=>rw[h2] at h;cases h
    | false=>
     rw[h2] at h;simp only[AcD] at h
     cases h3:decide (c=92) with
     | true=>
      rw[h3] at h
      cases r with
      | nil=>cases h
      | cons d r'=>
       simp only[AcH] at h
       cases h4:(decide (d=34)||decide (d=92)) with
       | false=>rw[h4] at h;cases h
       | true=>
        rw[h4] at h;simp only[AcH] at h
        cases h5:CY b r' with
        | none=>rw[h5] at h;cases h
        | some q=>
         obtain⟨t',u'⟩:=q;rw[h5] at h;cases h;simp only[AcE] at hn ⊢;have:=ih r'.length (by omega) r' t' u rfl h5;omega
     | false=>
      rw[h3] at h;simp only[AcD] at h
      cases h5:CY b r with
      | none=>rw[h5] at h;cases h
      | some q=>
       obtain⟨t',u'⟩:=q;rw[h5] at h;cases h;have:=ih r.length (by omega) r t' u rfl h5;omega
theorem NE:∀s:Af,s=(C7 s).1++(C7 s).2
 | []=>rfl
 | c::r=>by
  have:=NE r;rw[C7]
  cases BX c with
  | true=>simp only[AcH,Ads];rw[← this]
  | false=>rfl
theorem OF {s u:Af}{f:Fo}(h:IG s=some (f,u)):u.length<s.length:=by
 unfold IG at h;simp only at h
 cases hc:EZ (decide (s.head? =some 45)) (C7 (bif decide (s.head? =some 45) then s.tail else s)).1 with
 | false=>rw[hc] at h;cases h
 | true=>
  rw[hc] at h;simp only[AcH,Option.some.injEq,Prod.mk.injEq] at h;obtain⟨_,h⟩:=h;have e:=congrArg List.length (NE (bif decide (s.head? =some 45) then s.tail else s));rw[AcF,h] at e;have h1:0<(C7 (bif decide (s.head? =some 45) then s.tail else s)).1.length:=by
   unfold EZ at hc;simp only[AcG,AcV,AcA] at hc;exact List.length_pos_iff.2 hc.1
  have h2:(bif decide (s.head? =some 45) then s.tail else s).length≤s.length:=by
   cases decide (s.head? =some 45)<;>simp
  omega
theorem Sb {b m:Bool}{last key:Option Af}{s u:Af}(h:EP b m last s=some (key,u)):u.length≤s.length:=by
 unfold EP at h
 cases m with
 | false=>cases h;exact AcY _
 | true=>
  simp only[AcH] at h
  cases s with
  | nil=>cases h
  | cons c r=>
   simp only at h
   cases h1:decide (c=34) with
   | false=>rw[h1] at h;cases h
   | true=>
    rw[h1] at h;simp only[AcH] at h
    cases h2:CY b r with
    | none=>rw[h2] at h;cases h
    | some q=>
     obtain⟨k,w⟩:=q;have:=J8 b _ r k w rfl h2;rw[h2] at h;simp only at h
     cases h3:(b&&!B1 true last (some k)) with
     | true=>rw[h3] at h;cases h
     | false=>
      rw[h3] at h;simp only[AcD] at h
      cases w with
      | nil=>cases h
      | cons d w'=>
       simp only at h
       cases h4:decide (d=58) with
       | false=>rw[h4] at h;cases h
       | true=>rw[h4] at h;cases h;simp only[AcE] at this ⊢;omega
theorem X3 (m:Bool)(g:Fo):(nd m g).one=true:=by
 unfold nd
 cases decide (g.cnt=0)<;>rfl
theorem XZ {s u:Af}{f:Fo}(h:IG s=some (f,u)):f.one=true:=by
 unfold IG at h;simp only at h
 cases hc:EZ (decide (s.head? =some 45)) (C7 (bif decide (s.head? =some 45) then s.tail else s)).1 with
 | false=>rw[hc] at h;cases h
 | true=>rw[hc] at h;cases h;rfl
theorem EK (b:Bool):∀F:Nat,(∀s f u,G2 b F s=some (f,u)→u.length<s.length∧f.one=true)∧(∀m last s g u,DM b F m last s=some (g,u)→u.length<s.length∧1≤g.cnt)
 | 0=>⟨(λs f u h=>by rw[G2.eq_def] at h;cases h),(λm last s g u h=>by rw[DM.eq_def] at h;cases h)⟩
 | F+1=>by
  obtain⟨ih1,ih2⟩:=EK b F;constructor
  ·intro s f u h;rw[DL] at h
   cases h1:pre [110,117,108,108] s with
   | some r=>rw[h1] at h;cases h;rw[DF h1];exact⟨by simp;omega,rfl⟩
   | none=>
   rw[h1] at h;simp only at h
   cases h2:pre [116,114,117,101] s with
   | some r=>rw[h2] at h;cases h;rw[DF h2];exact⟨by simp;omega,rfl⟩
   | none=>
   rw[h2] at h;simp only at h
   cases h3:pre [102,97,108,115,101] s with
   | some r=>rw[h3] at h;cases h;rw[DF h3];exact⟨by simp;omega,rfl⟩
   | none=>
   rw[h3] at h;simp only at h
   cases s with
   | nil=>cases h
   | cons c r=>
   simp only at h
   cases h4:decide (c=34) with
   | true=>
    rw[h4] at h;simp only[AcH] at h
    cases h5:CY b r with
    | none=>rw[h5] at h;cases h
    | some q=>
     obtain⟨t,w⟩:=q;rw[h5] at h;cases h;have:=J8 b _ r t u rfl h5;exact⟨by simp only[AcE];omega,rfl⟩
   | false=>
   rw[h4] at h;simp only[AcD] at h
   cases h5:(decide (c=91)||decide (c=123)) with
   | false=>rw[h5] at h;simp only[AcD] at h;exact⟨OF h,XZ h⟩
   | true=>
   rw[h5] at h;simp only[AcH] at h
   cases r with
   | nil=>cases h
   | cons d r'=>
   simp only at h
   cases h6:decide (d=BW (decide (c=123))) with
   | true=>rw[h6] at h;cases h;exact⟨by simp only[AcE];omega,X3 _ _⟩
   | false=>
   rw[h6] at h;simp only[AcD] at h
   cases h7:DM b F (decide (c=123)) none (d::r') with
   | none=>rw[h7] at h;cases h
   | some q=>
    obtain⟨g,w⟩:=q;rw[h7] at h;cases h;have:=(ih2 _ _ _ _ _ h7).1;exact⟨by simp only[AcE] at this ⊢;omega,X3 _ _⟩
  ·intro m last s g u h;rw[D2] at h
   cases h1:EP b m last s with
   | none=>rw[h1] at h;cases h
   | some q=>
   obtain⟨key,s1⟩:=q;have l1:=Sb h1;rw[h1] at h;simp only at h
   cases h2:G2 b F s1 with
   | none=>rw[h2] at h;cases h
   | some q=>
   obtain⟨f,s2⟩:=q;obtain⟨l2,o2⟩:=ih1 _ _ _ h2;rw[h2] at h;simp only at h
   cases s2 with
   | nil=>cases h
   | cons c s3=>
   simp only[AcE] at l2;have hput:∀r:Fo,1≤(f.put key r).cnt:=λr=>by
    cases f with
    | nil=>cases o2
    | cell _ _ _=>simp[Fo.put,Fo.cnt]
    | node _ _ _ _=>simp[Fo.put,Fo.cnt]
   simp only at h
   cases h3:decide (c=BW m) with
   | true=>rw[h3] at h;cases h;exact⟨by omega,hput _⟩
   | false=>
   rw[h3] at h;simp only[AcD] at h
   cases h4:decide (c=44) with
   | false=>rw[h4] at h;cases h
   | true=>
   rw[h4] at h;simp only[AcH] at h
   cases h5:DM b F m key s3 with
   | none=>rw[h5] at h;cases h
   | some q=>
    obtain⟨g',w⟩:=q;rw[h5] at h;cases h;have:=(ih2 _ _ _ _ _ h5).1;exact⟨by omega,hput _⟩
def C5 (acc:Nat)(d:Af):Nat:=d.foldl (λn c=>10*n+(c.toNat-48)) acc
theorem I9:∀(d:Af) (a:Nat),a≤C5 a d
 | [],a=>AcY _
 | c::d,a=>by
  have:=I9 d (10*a+(c.toNat-48));show a≤C5 (10*a+(c.toNat-48)) d;omega
theorem RM:∀(d:Af) (a:Nat),1≤a→10 ^ d.length≤C5 a d
 | [],a,h=>by simpa[C5] using h
 | c::d,a,h=>by
  have hm:∀(d:Af) (a b:Nat),a≤b→C5 a d≤C5 b d:=by
   intro d
   induction d with
   | nil=>intro a b h;exact h
   | cons c d ih=>intro a b h;show C5 (10*a+(c.toNat-48)) d≤C5 (10*b+(c.toNat-48)) d;exact ih _ _ (by omega)
  have hs:∀(d:Af) (a:Nat),10 ^ d.length*a≤C5 a d:=by
   intro d
   induction d with
   | nil=>intro a;simp[C5]
   | cons c d ih=>
    intro a;have:=ih (10*a+(c.toNat-48));show 10 ^ (d.length+1)*a≤C5 (10*a+(c.toNat-48)) d;refine Nat.le_trans ?_ this;rw[Nat.pow_succ,Nat.mul_assoc];exact Nat.mul_le_mul_left _ (by omega)
  exact Nat.le_trans (Nat.le_mul_of_pos_right _ h) (hs (c::d) a)
theorem JI:∀(d:Af) (a:Nat),d.all BX=true→d.foldl (λn c=>10*n+((c.toNat:Int)-48)) (a:Int)=(C5 a d:Int)
 | [],a,_=>rfl
 | c::d,a,h=>by
  simp only[Ado,AcG] at h;have hc:48≤c.toNat:=by have:=h.1;simp[BX] at this;omega
  have:=JI d (10*a+(c.toNat-48)) h.2;show d.foldl _ (10*(a:Int)+((c.toNat:Int)-48))=(C5 (10*a+(c.toNat-48)) d:Int);rw[← this]
  congr 1
  omega
theorem Qy:∀(d:Af) (a:Nat),d.all BX=true→Lib.parseUint10 a d = .ok (C5 a d)∨(Lib.parseUint10 a d = .range∧1000000000000<C5 a d)
 | [],a,_=>.inl rfl
 | c::d,a,h=>by
  simp only[Ado,AcG] at h;have hc:48≤c.toNat∧c.toNat≤57:=by have:=h.1;simp[BX] at this;omega
  have hm:=I9 d (10*a+(c.toNat-48));have e:C5 a (c::d)=C5 (10*a+(c.toNat-48)) d:=rfl;rw[e];unfold Lib.parseUint10;rw[Ad2 hc]
  split
  ·exact .inr ⟨rfl,by omega⟩
  ·split
   ·exact .inr ⟨rfl,by omega⟩
   ·rw[show a*10+(c.toNat-48)=10*a+(c.toNat-48) from by omega];exact Qy d _ h.2
theorem MJ:∀(d:Af) (i:Nat),Bx En i d=d.all BX
 | [],_=>rfl
 | c::d,i=>by
  rw[Bx,Ado,MJ d]
  congr 1
  simp only[En,BX];rw[AcT];simp only[AcV,Adf,AcA,AcG,Ac9];omega
def GV (neg:Bool)(d:Af):Af:=bif neg then 45::d else d
theorem Yd {d:Af}(hd:d.all BX=true) : ¬ d.head? =some 45:=by
 cases d with
 | nil=>simp
 | cons c d=>
  simp only[Ado,AcG] at hd;have:=hd.1;intro e;simp only[List.head?_cons,Option.some.injEq] at e;subst e;simp[BX] at this
theorem UP (s:Af):Oh s=decide (s.head? =some 45):=by
 cases s with
 | nil=>rfl
 | cons c r=>
  have:Bm (c::r) 0=c.toNat:=Hb rfl;unfold Oh;rw[this,AcT];simp only[AcG,Ac9,List.head?_cons,Option.some.injEq,← Ad8,AcE];show _∧(c.toNat:Int)=45↔c.toNat=45;omega
theorem Y2 {neg:Bool}{d:Af}(hd:d.all BX=true):Ik (GV neg d)=d:=by
 unfold Ik;rw[UP]
 cases neg with
 | true=>rfl
 | false=>
  have:=Yd hd;show(if decide (d.head? =some 45)=true then d.drop 1 else d)=d;rw[Adp (by simpa using this)]
theorem Y9 {neg:Bool}{d:Af}(hd:d.all BX=true):Li (GV neg d)=EZ neg d:=by
 unfold Li EZ;rw[Y2 hd,MJ,hd,AcZ]
 cases d with
 | nil=>simp
 | cons c r=>
  have hb:Bm (c::r) 0=c.toNat:=Hb rfl;have h1:decide (c::r=([]:Af))=false:=by simp
  have h2:decide (Bm (c::r) 0=48)=decide ((c::r).head? =some 48):=by
   rw[hb,AcT];simp only[Ac9,List.head?_cons,Option.some.injEq,← Ad8];show(c.toNat:Int)=48↔c.toNat=48;omega
  rw[h1,h2,AcW,Ada,AcQ]
  cases ha:decide ((c::r).head? =some 48) with
  | false=>rfl
  | true=>
   simp only[Ac9,List.head?_cons,Option.some.injEq] at ha;subst ha
   cases neg with
   | true=>simp[GV]
   | false=>
    cases r with
    | nil=>simp[GV]
    | cons a r=>simp[GV]
theorem YM {neg:Bool}{d:Af}(hd:d.all BX=true)(hne:d≠[]):Lib.atoiAll (GV neg d)=(bif neg then Lib.signed (Lib.parseUint10 0 d) else Lib.signless (Lib.parseUint10 0 d)):=by
 cases neg with
 | true=>
  simp only[GV,AcH];rw[Lib.atoiAll_minus,Lib.parseMag,Adp hne]
 | false=>
  cases d with
  | nil=>exact absurd rfl hne
  | cons c r=>
   have hc:=hd;simp only[Ado,AcG] at hc;have ha:48≤c.toNat:=by have:=hc.1;simp[BX] at this;omega
   simp only[GV,AcD];rw[Lib.atoiAll_plain c r (by omega) (by omega),Lib.parseMag,Adp hne]
theorem Vj {neg:Bool}{d:Af}(hd:d.all BX=true):(EZ neg d=false∧BP (GV neg d)=1)∨(EZ neg d=true∧BT ⟨3,K7 neg d,[],0⟩=false∧BP (GV neg d)=0∧By (GV neg d)=K7 neg d)∨(EZ neg d=true∧BT ⟨3,K7 neg d,[],0⟩=true∧BP (GV neg d)=2∧By (GV neg d)=0):=by
 unfold BP By;rw[Y9 hd]
 cases hc:EZ neg d with
 | false=>exact .inl ⟨rfl,rfl⟩
 | true=>
  right
  have hc':=hc;unfold EZ at hc';simp only[AcG,AcV,AcA] at hc';have hne:=hc'.1;rw[Ad2 rfl,Ad2 rfl,YM hd hne];have hnum:Po d=(C5 0 d:Int):=JI d 0 hd;have hbig:18<d.length→1000000000000<C5 0 d:=λhl=>by
   cases d with
   | nil=>simp at hl
   | cons c r=>
    have hc1:=hd;simp only[Ado,AcG] at hc1;have he:48≤c.toNat:=by have:=hc1.1;simp[BX] at this;omega
    have hne48 : ¬ c=48:=by
     intro e;have:=hc'.2;subst e;simp only[AcE] at hl;have h1r:1<r.length+1:=by omega
     simp[h1r] at this
    have hf:49≤c.toNat:=by
     have : ¬ c.toNat=48:=λe=>hne48 (UInt8.toNat_inj.1 (by rw[e];rfl));omega
    have:=RM r (10*0+(c.toNat-48)) (by omega);have ha:10 ^ 18≤10 ^ r.length:=Nat.pow_le_pow_right (by decide) (by simp at hl;omega);have e:C5 0 (c::r)=C5 (10*0+(c.toNat-48)) r:=rfl;rw[e];have:(1000000000000:Nat)<10 ^ 18:=by decide
    omega
  have hout:BT ⟨3,K7 neg d,[],0⟩=decide (1000000000000<C5 0 d):=by
   unfold BT K7;rw[hnum]
   cases ha:decide (18<d.length) with
   | true=>
    simp only[Ac9] at ha;rw[AcC (hbig ha)]
    cases neg<;>rfl
   | false=>
    rw[AcT]
    cases neg<;>simp<;>omega
  rw[hout];rcases Qy d 0 hd with hu | ⟨hu,hg⟩
  ·rw[hu]
   cases hg:decide (1000000000000<C5 0 d) with
   | false=>
    simp only[AcA] at hg;have ha:decide (18<d.length)=false:=by
     rw[AcA];intro h;have:=hbig h;omega
    refine .inl ⟨rfl,rfl,?_,?_⟩
    ·cases neg with
     | true=>simp only[AcH,Lib.signed];rw[Adp (by omega)];simp only;rw[Ad2 (by unfold Eb;simp;omega)]
     | false=>simp only[AcD,Lib.signless];rw[Adp (by omega)];simp only;rw[Ad2 (by unfold Eb;simp;omega)]
    ·unfold K7;rw[ha,hnum]
     cases neg with
     | true=>simp only[AcH,AcD,Lib.signed];rw[Adp (by omega)];simp only;rw[Ad2 (by unfold Eb;simp;omega)]
     | false=>simp only[AcD,Lib.signless];rw[Adp (by omega)];simp only;rw[Ad2 (by unfold Eb;simp;omega)]
   | true=>
    simp only[Ac9] at hg;refine .inr ⟨rfl,rfl,?_,?_⟩
    ·cases neg with
     | true=>
      simp only[AcH,Lib.signed]
      by_cases hb:9223372036854775808<C5 0 d
      ·rw[Ad2 hb]
      ·rw[Adp hb];simp only;rw[Adp (by unfold Eb;simp;omega)]
     | false=>
      simp only[AcD,Lib.signless]
      by_cases hb:9223372036854775808≤C5 0 d
      ·rw[Ad2 hb]
      ·rw[Adp hb];simp only;rw[Adp (by unfold Eb;simp;omega)]
    ·cases neg with
     | true=>
      simp only[AcH,Lib.signed]
      by_cases hb:9223372036854775808<C5 0 d
      ·rw[Ad2 hb]
      ·rw[Adp hb];simp only;rw[Adp (by unfold Eb;simp;omega)]
     | false=>
      simp only[AcD,Lib.signless]
      by_cases hb:9223372036854775808≤C5 0 d
      ·rw[Ad2 hb]
      ·rw[Adp hb];simp only;rw[Adp (by unfold Eb;simp;omega)]
  ·rw[hu,AcC hg];refine .inr ⟨rfl,rfl,?_,?_⟩<;>cases neg<;>rfl
def HL (u S:Af):Prop:=∃p,S=p++u
theorem HL.len {u S:Af}(h:HL u S):u.length≤S.length:=by obtain⟨p,rfl⟩:=h;simp
theorem HL.tail {c:UInt8}{r S:Af}(h:HL (c::r) S):HL r S:=by obtain⟨p,rfl⟩:=h;exact⟨p++[c],by simp⟩
theorem HL.app {w r S:Af}(h:HL (w++r) S):HL r S:=by obtain⟨p,rfl⟩:=h;exact⟨p++w,by simp⟩
theorem HL.drop {u S:Af}(h:HL u S):S.drop (Int.toNat ((S.length:Int)-u.length))=u:=by
 obtain⟨p,rfl⟩:=h;rw[show Int.toNat (((p++u).length:Int)-u.length)=p.length from by rw[AcF];omega,List.drop_left]
theorem HL.get {c:UInt8}{r S:Af}(h:HL (c::r) S):S[(Int.toNat ((S.length:Int)-(c::r).length))]? =some c:=by
 have:=h.drop;have h2:(S.drop (Int.toNat ((S.length:Int)-(c::r).length)))[0]? =some c:=by rw[this];rfl
 simpa using h2
def D3 (S u:Af)(cs:List Aa)(g:Bool):At:=⟨S,(S.length:Int)-u.length,cs,g⟩
theorem LB:∀(w r:Af),pre w (w++r)=some r
 | [],r=>rfl
 | c::w,r=>by
  show(bif decide (c=c) then pre w (w++r) else none)=some r;rw[AcC rfl];exact LB w r
theorem Ta (w s:Af):(decide ((w.length:Int)≤(s.length:Int))&&decide (List.take (Int.toNat (w.length:Int)) s=w))=(pre w s).isSome:=by
 cases h:pre w s with
 | some r=>
  have:=DF h;subst this;simp;omega
 | none=>
  rw[AcT];simp only[AcG,Ac9,Option.isSome_none,Adh,iff_false,not_and];intro hl e;have:s=w++s.drop w.length:=by
   conv=>lhs;rw[← Ady w.length s]
   rw[show Int.toNat (w.length:Int)=w.length from by omega] at e;rw[e]
  rw[this,LB] at h
  cases h
theorem LS (s w:Af):Hm s w=some (pre w s).isSome:=by
 unfold Hm HN;rw[← Ta];have:imp (decide ((w.length:Int)≤(s.length:Int))) (HU (w.length:Int) (s.length:Int))=true:=by
  cases hd:decide ((w.length:Int)≤(s.length:Int)) with
  | false=>rfl
  | true=>simp only[imp];rw[AbP (by omega) (by simpa using hd)];rfl
 rw[BL this];rfl
theorem CR {S u w:Af}{cs:List Aa}{g:Bool}(hS:S.length≤100000)(h:HL u S):Ec (D3 S u cs g) w=match pre w u with
  | some r=>some (true,D3 S r cs g)
  | none=>some (false,D3 S u cs g):=by
 have hl:=h.len;unfold Ec D3;simp only;rw[Ca (by omega) (by omega),h.drop,LS,AI rfl]
 cases hp:pre w u with
 | none=>rfl
 | some r=>
  have e:=DF hp;have el:u.length=w.length+r.length:=by rw[e];simp
  rw[A0 (p:=!(some r).isSome) rfl,AB (by omega) (by omega),show(S.length:Int)-u.length+w.length=S.length-r.length from by omega]
theorem LC (c:UInt8)(u:Af):pre [c] u=match u with
  | []=>none
  | d::r=>bif decide (d=c) then some r else none:=by
 cases u with
 | nil=>rfl
 | cons d r=>
  show(bif decide (c=d) then some r else none)=_;have:decide (c=d)=decide (d=c):=by rw[AcT];simp only[Ac9];exact eq_comm
  rw[this]
theorem Xr (A:Af):Id (C8 A)=A:=by
 induction A with
 | nil=>rfl
 | cons c A ih=>
  show UInt8.ofNat (Int.toNat (c.toNat:Int))::Id (C8 A)=c::A;rw[ih,← (show UInt8.ofNat c.toNat=c from by simp)];simp
theorem Zv:∀(n:Nat) (s t u:Af),s.length=n→CY true s=some (t,u)→t.all K6=true:=by
 intro n
 induction n using Nat.strongRecOn with
 | ind n ih=>
  intro s t u hn h
  cases s with
  | nil=>cases h
  | cons c r=>
   simp only[AcE] at hn;rw[DS] at h
   cases h1:decide (c=34) with
   | true=>rw[h1] at h;cases h;rfl
   | false=>
    rw[h1] at h;simp only[AcD,AcQ] at h
    cases h2:K6 c with
    | false=>rw[h2] at h;cases h
    | true=>
     rw[h2] at h;simp only[AcP,AcD] at h
     cases h3:decide (c=92) with
     | true=>
      rw[h3] at h
      cases r with
      | nil=>cases h
      | cons d r'=>
       simp only[AcH] at h
       cases h4:(decide (d=34)||decide (d=92)) with
       | false=>rw[h4] at h;cases h
       | true=>
        rw[h4] at h;simp only[AcH] at h
        cases h5:CY true r' with
        | none=>rw[h5] at h;cases h
        | some q=>
         obtain⟨t',u'⟩:=q;rw[h5] at h;cases h;simp only[AcE] at hn;have:=ih r'.length (by omega) r' t' u rfl h5;have hd:K6 d=true:=by
          simp only[Adu,Ac9] at h4;rcases h4 with e | e<;>subst e<;>rfl
         simp[hd,this]
     | false=>
      rw[h3] at h;simp only[AcD] at h
      cases h5:CY true r with
      | none=>rw[h5] at h;cases h
      | some q=>
       obtain⟨t',u'⟩:=q;rw[h5] at h;cases h;have:=ih r.length (by omega) r t' u rfl h5;simp[h2,this]
theorem Z4 {c:UInt8}:(decide ((c.toNat:Int)<32)||decide (126<(c.toNat:Int))) = !K6 c:=by
 unfold K6;rw[AcT];simp only[Adu,Ac9,AcV,Ad4,AcA];omega
theorem Aa5 (c:UInt8):decide ((c.toNat:Int)=34)=decide (c=34):=by
 rw[AcT,decide_eq_true_iff,decide_eq_true_iff,← Ad8];show _↔c.toNat=34;omega
theorem Aa4 (c:UInt8):decide ((c.toNat:Int)=92)=decide (c=92):=by
 rw[AcT,decide_eq_true_iff,decide_eq_true_iff,← Ad8];show _↔c.toNat=92;omega
theorem W5 (A:Af)(c:UInt8):C8 A++([(c.toNat:Int)]:List Int)=C8 (A++[c]):=by simp[C8]
theorem UE {S:Af}{cs:List Aa}{g b:Bool}{p:Int}(hS:S.length≤100000):∀(n L:Nat) (u A:Af),u.length=n→HL u S→n<L→A.length≤S.length-n→
  ∃o,B7 (λσ=>E9 (b,⟨S,p,cs,g⟩) σ.1 σ.2) L (C8 A,(S.length:Int)-u.length)=some o∧((∃t w,CY true u=some (t,w)∧HL w S∧B5 (λν=>Is (b,⟨S,p,cs,g⟩) ν) o=some (A++t,true,D3 S w cs g))∨(CY true u=none∧∃q',B5 (λν=>Is (b,⟨S,p,cs,g⟩) ν) o=some ([],false,q'))):=by
 intro n
 induction n using Nat.strongRecOn with
 | ind n ih=>
  intro L u A hn hs hL hA;obtain⟨L,rfl⟩:∃K,L=K+1:=⟨L-1,by omega⟩
  have hsl:=hs.len
  cases u with
  | nil=>
   have hgo:E9 (b,⟨S,p,cs,g⟩) (C8 A) ((S.length:Int)-([]:Af).length)=some (.out (.go ((S.length:Int)-([]:Af).length))):=by
    unfold E9;rw[A0 (AcB (by simp))]
   exact⟨_,DO hgo,.inr ⟨rfl,_,rfl⟩⟩
  | cons c r=>
   have hb:Bm S ((S.length:Int)-(c::r).length)=c.toNat:=Hb hs.get;have hpos:(S.length:Int)-(c::r).length+1=S.length-r.length:=by rw[AcE];omega
   simp only[AcE] at hn hsl;have hlt:(S.length:Int)-(c::r).length<S.length:=by rw[AcE];omega
   have h0:0≤(S.length:Int)-(c::r).length:=by rw[AcE];omega
   have hb1:E9 (b,⟨S,p,cs,g⟩) (C8 A) ((S.length:Int)-(c::r).length)=Bf (decide (c=34)) (some (.out (.ret (A,true,D3 S r cs g)))) (Bf (!K6 c) (some (.out (.ret ([],false,D3 S r cs g)))) (Bf (decide (c=92)) (AX (imp (!(decide ((S.length:Int)≤S.length-r.length))) (CJ (S.length-r.length) (S.length:Int)))<|Bf (((decide ((S.length:Int)≤S.length-r.length))||((!decide ((Bm S (S.length-r.length))=34))&&(!decide ((Bm S (S.length-r.length))=92))))) (some (.out (.ret ([],false,D3 S r cs g)))) (AX (CJ (S.length-r.length) (S.length:Int))<|AX (B9 .i64 (((S.length:Int)-r.length)+1))<|Gd (C8 A) (Bm S (S.length-r.length)) (((S.length:Int)-r.length)+1))) (Gd (C8 A) (c.toNat:Int) ((S.length:Int)-r.length)))):=by
    unfold E9;simp only;rw[AF (AcC hlt),AP h0 hlt,hb,hpos,AB (by omega) (by omega),Aa5,Aa4,Z4,Xr];rfl
   have hj:∀(x:UInt8) (y:Int),Gd (C8 A) (x.toNat:Int) y=some (.next (C8 (A++[x]),y)):=λx y=>by
    unfold Gd;rw[Dk (by simp[C8];omega),W5]
   rw[DS]
   cases h1:decide (c=34) with
   | true=>
    rw[h1] at hb1;exact⟨.ret (A,true,D3 S r cs g),DO hb1,.inl ⟨[],r,rfl,hs.tail,by rw[Ov,Adk]⟩⟩
   | false=>
    rw[h1,A0 rfl] at hb1;simp only[AcD,AcQ]
    cases h2:K6 c with
    | false=>
     rw[h2,AF (p:=!false) rfl] at hb1;exact⟨_,DO hb1,.inr ⟨rfl,_,rfl⟩⟩
    | true=>
     rw[h2,A0 (p:=!true) rfl] at hb1;simp only[AcP,AcD]
     cases h3:decide (c=92) with
     | true=>
      rw[h3,AF rfl] at hb1
      cases r with
      | nil=>
       have e:decide ((S.length:Int)≤S.length-([]:Af).length)=true:=by simp
       rw[e,BL (p:=imp (!true) _) rfl,AF (p:=true||_) rfl] at hb1;exact⟨_,DO hb1,.inr ⟨rfl,_,rfl⟩⟩
      | cons d r'=>
       simp only[AcE] at hn hsl;have hbd:Bm S ((S.length:Int)-(d::r').length)=d.toNat:=Hb hs.tail.get;have hlt2:(S.length:Int)-(d::r').length<S.length:=by rw[AcE];omega
       have ha:0≤(S.length:Int)-(d::r').length:=by rw[AcE];omega
       have hpos2:(S.length:Int)-(d::r').length+1=S.length-r'.length:=by rw[AcE];omega
       have e:decide ((S.length:Int)≤S.length-(d::r').length)=false:=AcB (by omega);rw[e,Q7 ha hlt2,hbd,hpos2,Aa5,Aa4,BL (p:=imp (!false) true) rfl] at hb1;simp only[AcH]
       cases h4:(decide (d=34)||decide (d=92)) with
       | false=>
        have e4:(false||(!decide (d=34)&&!decide (d=92)))=true:=by rw[← Bool.not_or,h4];rfl
        rw[AF e4] at hb1;exact⟨_,DO hb1,.inr ⟨rfl,_,rfl⟩⟩
       | true=>
        have e4:(false||(!decide (d=34)&&!decide (d=92)))=false:=by rw[← Bool.not_or,h4];rfl
        rw[A0 e4,BL rfl,AB (by omega) (by omega),hj] at hb1;obtain⟨o,ho1,ho2⟩:=ih r'.length (by omega) L r' (A++[d]) rfl hs.tail.tail (by omega) (by rw[IO];omega);refine⟨o,ID hb1 ho1,?_⟩;simp only[AcH];rcases ho2 with⟨t,w,q1,q2,q3⟩ | ⟨q1,q2⟩
        ·rw[q1];exact .inl ⟨d::t,w,rfl,q2,by rw[q3];simp⟩
        ·rw[q1];exact .inr ⟨rfl,q2⟩
     | false=>
      rw[h3,A0 rfl,hj] at hb1;obtain⟨o,ho1,ho2⟩:=ih r.length (by omega) L r (A++[c]) rfl hs.tail (by omega) (by rw[IO];omega);refine⟨o,ID hb1 ho1,?_⟩;simp only[AcD];rcases ho2 with⟨t,w,q1,q2,q3⟩ | ⟨q1,q2⟩
      ·rw[q1];exact .inl ⟨c::t,w,rfl,q2,by rw[q3];simp⟩
      ·rw[q1];exact .inr ⟨rfl,q2⟩
theorem Re {F:Nat}{S u:Af}{cs:List Aa}{g:Bool}(hS:S.length≤100000)(h:HL u S)(hF:S.length<F) :
  (∃r t w,u=34::r∧CY true r=some (t,w)∧HL w S∧NT F (D3 S u cs g)=some (t,true,D3 S w cs g))∨((∀r,u=34::r→CY true r=none)∧∃q',NT F (D3 S u cs g)=some ([],false,q')):=by
 unfold NT;rw[CR hS h,LC]
 cases u with
 | nil=>exact .inr ⟨(λr e=>by cases e),_,rfl⟩
 | cons c r=>
  simp only
  cases hc:decide (c=34) with
  | false=>
   simp only[AcA] at hc;exact .inr ⟨(λr' e=>by cases e;exact absurd rfl hc),_,rfl⟩
  | true=>
   simp only[Ac9] at hc;subst hc;have hl:=h.len;simp only[AcE] at hl;simp only[AcH];rw[AI rfl,A0 (p:=!true) rfl];obtain⟨o,ho1,ho2⟩:=UE (b:=true) (cs:=cs) (g:=g) (p:=(S.length:Int)-r.length) hS r.length F r [] rfl h.tail (by omega) (Adt _);have ho1':B7 (λσ=>E9 (true,D3 S r cs g) σ.1 σ.2) F ([],(S.length:Int)-r.length)=some o:=ho1;rw[show(true,D3 S r cs g).2.fAt=(S.length:Int)-r.length from rfl,AI ho1'];rcases ho2 with⟨t,w,q1,q2,q3⟩ | ⟨q1,q',q2⟩
   ·exact .inl ⟨r,t,w,rfl,q1,q2,q3⟩
   ·exact .inr ⟨(λr' e=>by cases e;exact q1),q',q2⟩
def CM (c:Aa):Aa:=bif BT c then⟨3,0,[],0⟩ else c
theorem Mc:∀s:Af,(C7 s).1.all BX=true
 | []=>rfl
 | c::r=>by
  rw[C7]
  cases h:BX c with
  | true=>simp only[AcH,Ado,h,Mc r];rfl
  | false=>rfl
theorem Aam {c:UInt8}:(decide (48≤(c.toNat:Int))&&decide ((c.toNat:Int)≤57))=BX c:=by
 unfold BX;rw[AcT];simp only[AcG,Ac9];omega
theorem Ps {S:Af}{cs:List Aa}{g b:Bool}{p:Int}(hS:S.length≤100000):∀(u:Af) (L:Nat),HL u S→u.length<L→
  B7 (λσ=>EA (b,⟨S,p,cs,g⟩) σ) L ((S.length:Int)-u.length)=some (.go ((S.length:Int)-(C7 u).2.length))
 | [],L,hs,hL=>by
  obtain⟨L,rfl⟩:∃K,L=K+1:=⟨L-1,by omega⟩
  refine DO ?_;show EA _ _=_;unfold EA;have e:decide ((S.length:Int)-([]:Af).length<(S.length:Int))=false:=by simp
  simp only;rw[e,BL (p:=imp false _) rfl,A0 (p:=false&&_) rfl];rfl
 | c::r,L,hs,hL=>by
  obtain⟨L,rfl⟩:∃K,L=K+1:=⟨L-1,by omega⟩
  have hsl:=hs.len;have hb:Bm S ((S.length:Int)-(c::r).length)=c.toNat:=Hb hs.get;have hpos:(S.length:Int)-(c::r).length+1=S.length-r.length:=by rw[AcE];omega
  simp only[AcE] at hsl hL;have hlt:(S.length:Int)-(c::r).length<S.length:=by rw[AcE];omega
  have h0:0≤(S.length:Int)-(c::r).length:=by rw[AcE];omega
  have hb1:EA (b,⟨S,p,cs,g⟩) ((S.length:Int)-(c::r).length)=Bf (BX c) (some (.next ((S.length:Int)-r.length))) (some (.out (.go ((S.length:Int)-(c::r).length)))):=by
   unfold EA;simp only;rw[AcC hlt,Q7 h0 hlt,BL (p:=imp true true) rfl,hb,Aam,hpos,AB (by omega) (by omega),AcQ]
  rw[C7]
  cases hd:BX c with
  | true=>
   rw[hd] at hb1;exact ID hb1 (Ps hS r L hs.tail (by omega))
  | false=>
   rw[hd] at hb1;exact DO hb1
theorem Rg {F:Nat}{S u:Af}{cs:List Aa}{g:Bool}(hS:S.length≤100000)(h:HL u S)(hF:S.length<F)(hcs:cs.length≤100000) :
  (∃f w,IG u=some (f,w)∧HL w S∧NU F (D3 S u cs g)=some (true,D3 S w (cs++f.flat.map CM) (g||f.flat.any BT)))∨(IG u=none∧∃q',NU F (D3 S u cs g)=some (false,q')):=by
 have hl:=h.len;have hneg:∃neg r b,neg=decide (u.head? =some 45)∧r=(bif neg then u.tail else u)∧Ec (D3 S u cs g) [45]=some (b,D3 S r cs g)∧u=(bif neg then 45::r else r):=by
  rw[CR hS h,LC]
  cases u with
  | nil=>exact⟨false,[],false,rfl,rfl,rfl,rfl⟩
  | cons c r=>
   simp only[List.head?_cons,Option.some.injEq]
   cases hc:decide (c=45) with
   | true=>simp only[Ac9] at hc;subst hc;exact⟨true,r,true,rfl,rfl,rfl,rfl⟩
   | false=>exact⟨false,c::r,false,rfl,rfl,rfl,rfl⟩
 obtain⟨neg,r,b,e1,e2,e3,e4⟩:=hneg;have hr:HL r S:=by
  rw[e4] at h
  cases neg with
  | true=>exact h.tail
  | false=>exact h
 have hrl:=hr.len;have hd:=Mc r;have hsplit:=NE r;have hlen:r.length=(C7 r).1.length+(C7 r).2.length:=by conv=>lhs;rw[hsplit,AcF]
 have hw:HL (C7 r).2 S:=by rw[hsplit] at hr;exact hr.app
 have hut:u=GV neg (C7 r).1++(C7 r).2:=by
  rw[e4]
  cases neg with
  | true=>show 45::r=45::((C7 r).1++(C7 r).2);rw[← hsplit]
  | false=>exact hsplit
 have hul:u.length=(GV neg (C7 r).1).length+(C7 r).2.length:=by conv=>lhs;rw[hut,AcF]
 have hslice:List.take (Int.toNat ((S.length:Int)-(C7 r).2.length)-Int.toNat ((S.length:Int)-u.length)) (List.drop (Int.toNat ((S.length:Int)-u.length)) S)=GV neg (C7 r).1:=by
  rw[h.drop,show Int.toNat ((S.length:Int)-(C7 r).2.length)-Int.toNat ((S.length:Int)-u.length)=(GV neg (C7 r).1).length from by omega]
  conv=>lhs;rw[hut]
  rw[List.take_left]
 have hlop:B7 (λσ=>EA (b,D3 S r cs g) σ) F ((S.length:Int)-r.length)=some (.go ((S.length:Int)-(C7 r).2.length)):=Ps hS r F hr (by omega);have hrun:NU F (D3 S u cs g)=Bf (((decide ((BP (GV neg (C7 r).1))=1))||(decide ((S.length:Int)-r.length=(S.length:Int)-(C7 r).2.length)))) (some (false,D3 S (C7 r).2 cs g)) (some (true,D3 S (C7 r).2 (cs++[⟨3,By (GV neg (C7 r).1),[],0⟩]) (g||!decide (BP (GV neg (C7 r).1)=0)))):=by
  unfold NU;rw[e3,AI rfl,show(b,D3 S r cs g).2.fAt=(S.length:Int)-r.length from rfl,AI hlop,CC];unfold J6;rw[show(D3 S u cs g).fAt=(S.length:Int)-u.length from rfl,show(b,D3 S r cs g).2.fS=S from rfl,show(b,D3 S r cs g).2.fAt=(S.length:Int)-r.length from rfl,Ca (by omega) (by omega),Ca (by omega) (by omega),hslice,Dk (by omega),BL (p:=Dw 40 _) (AcC (by
   show(cs.length+1)*40≤140737488355328;omega))]
  rfl
 rw[hrun];unfold IG;simp only;rw[← e1,← e2];rcases Vj (neg:=neg) hd with⟨p1,p2⟩ | ⟨p1,p2,p3,p4⟩ | ⟨p1,p2,p3,p4⟩
 ·rw[p1,p2];exact .inr ⟨rfl,_,rfl⟩
 ·have hne:(C7 r).1≠[]:=by
   intro e;rw[e] at p1
   cases neg<;>cases p1
  have hpos:0<(C7 r).1.length:=List.length_pos_iff.2 hne;rw[p1,p3,p4,AcB (show ¬ (S.length:Int)-r.length=(S.length:Int)-(C7 r).2.length by omega)];refine .inl ⟨_,_,rfl,hw,?_⟩;simp[Fo.flat,Bu,CM,p2,Bf]
 ·have hne:(C7 r).1≠[]:=by
   intro e;rw[e] at p1
   cases neg<;>cases p1
  have hpos:0<(C7 r).1.length:=List.length_pos_iff.2 hne;rw[p1,p3,p4,AcB (show ¬ (S.length:Int)-r.length=(S.length:Int)-(C7 r).2.length by omega)];refine .inl ⟨_,_,rfl,hw,?_⟩;simp[Fo.flat,Bu,CM,p2,Bf]
def WH (strict:Bool)(s:Af):Option (Fo×Af):=
 match pre [110,117,108,108] s with
 | some r=>some (lf 1 0 [],r)
 | none=>match pre [116,114,117,101] s with
  | some r=>some (lf 2 1 [],r)
  | none=>match pre [102,97,108,115,101] s with
   | some r=>some (lf 2 0 [],r)
   | none=>match s with
    | []=>none
    | c::r=>bif decide (c=34) then(match CY strict r with
     | none=>none
     | some (t,u)=>some (lf 4 0 t,u)) else IG (c::r)
theorem Xi (b:Bool)(F:Nat){s:Af}(h:∀c r,s=c::r→(decide (c=91)||decide (c=123))=false):G2 b (F+1) s=WH b s:=by
 rw[DL];unfold WH
 cases pre [110,117,108,108] s with
 | some r=>rfl
 | none=>
 cases pre [116,114,117,101] s with
 | some r=>rfl
 | none=>
 cases pre [102,97,108,115,101] s with
 | some r=>rfl
 | none=>
 cases s with
 | nil=>rfl
 | cons c r=>
  simp only;rw[h c r rfl];rfl
theorem Rf {F:Nat}{S u:Af}{cs:List Aa}{g:Bool}(hS:S.length≤100000)(h:HL u S)(hF:S.length<F)(hcs:cs.length≤100000) :
  (∃f w,WH true u=some (f,w)∧HL w S∧It F (D3 S u cs g)=some (true,D3 S w (cs++f.flat.map CM) (g||f.flat.any BT)))∨(WH true u=none∧∃q',It F (D3 S u cs g)=some (false,q')):=by
 have hA:∀c:Aa,Dw 40 (cs.length+([c]:List Aa).length)=true:=λc=>AcC (by show(cs.length+1)*40≤140737488355328;omega);unfold It WH;rw[CR hS h]
 cases h1:pre [110,117,108,108] u with
 | some r=>
  have hr:HL r S:=by rw[DF h1] at h;exact h.app
  refine .inl ⟨_,r,rfl,hr,?_⟩;simp only;rw[AI rfl,AF rfl];show AX (Dw 40 (cs.length+([⟨1,0,[],0⟩]:List Aa).length)) (some (true,D3 S r (cs++[⟨1,0,[],0⟩]) g))=_;rw[BL (hA _)];simp[lf,Fo.flat,Bu,CM,BT]
 | none=>
 simp only;rw[AI rfl,A0 rfl,show(false,D3 S u cs g).2=D3 S u cs g from rfl,CR hS h]
 cases h2:pre [116,114,117,101] u with
 | some r=>
  have hr:HL r S:=by rw[DF h2] at h;exact h.app
  refine .inl ⟨_,r,rfl,hr,?_⟩;simp only;rw[AI rfl,AF rfl];show AX (Dw 40 (cs.length+([⟨2,1,[],0⟩]:List Aa).length)) (some (true,D3 S r (cs++[⟨2,1,[],0⟩]) g))=_;rw[BL (hA _)];simp[lf,Fo.flat,Bu,CM,BT]
 | none=>
 simp only;rw[AI rfl,A0 rfl,show(false,D3 S u cs g).2=D3 S u cs g from rfl,CR hS h]
 cases h3:pre [102,97,108,115,101] u with
 | some r=>
  have hr:HL r S:=by rw[DF h3] at h;exact h.app
  refine .inl ⟨_,r,rfl,hr,?_⟩;simp only;rw[AI rfl,AF rfl];show AX (Dw 40 (cs.length+([⟨2,0,[],0⟩]:List Aa).length)) (some (true,D3 S r (cs++[⟨2,0,[],0⟩]) g))=_;rw[BL (hA _)];simp[lf,Fo.flat,Bu,CM,BT]
 | none=>
 have hl:=h.len;simp only;rw[AI rfl,A0 rfl,show(false,D3 S u cs g).2=D3 S u cs g from rfl,show(D3 S u cs g).fAt=(S.length:Int)-u.length from rfl,show(D3 S u cs g).fS=S from rfl,Ca (by omega) (by omega),h.drop,LS,AI rfl,LC]
 cases u with
 | nil=>
  simp only;rw[A0 (p:=(none:Option Af).isSome) rfl];rcases Rg (g:=g) hS h hF hcs with⟨f,w,q1,q2,q3⟩ | ⟨q1,q',q2⟩
  ·exact absurd (OF q1) (by simp)
  ·rw[q2];exact .inr ⟨trivial,_,rfl⟩
 | cons c r=>
  simp only
  cases hc:decide (c=34) with
  | true=>
   simp only[AcH];rw[AF (p:=(some r).isSome) rfl];simp only[Ac9] at hc;subst hc;rcases Re (cs:=cs) (g:=g) hS h hF with⟨r',t,w,q1,q2,q3,q4⟩ | ⟨q1,q',q2⟩
   ·cases q1
    rw[q2,q4,AI rfl,A0 (p:=!true) rfl];refine .inl ⟨_,w,rfl,q3,?_⟩;simp only;show AX (Dw 40 (cs.length+([⟨4,0,t,0⟩]:List Aa).length)) (some (true,D3 S w (cs++[⟨4,0,t,0⟩]) g))=_;rw[BL (hA _)];simp[lf,Fo.flat,Bu,CM,BT]
   ·rw[q1 r rfl,q2,AI rfl];exact .inr ⟨rfl,_,rfl⟩
  | false=>
   simp only[AcD];rw[A0 (p:=(none:Option Af).isSome) rfl];rcases Rg (g:=g) hS h hF hcs with⟨f,w,q1,q2,q3⟩ | ⟨q1,q',q2⟩
   ·rw[q3,AI rfl];exact .inl ⟨f,w,q1,q2,rfl⟩
   ·rw[q2,AI rfl];exact .inr ⟨q1,_,rfl⟩
theorem TJ {f:Fo}(h:f.one=true)(key:Option Af)(r:Fo):(f.put key r).cnt=r.cnt+1:=by
 cases f with
 | nil=>cases h
 | cell _ _ _=>rfl
 | node _ _ _ _=>rfl
theorem Kq (m:Bool)(g:Fo)(h:g.cnt=0→g = .nil):(nd m g).flat=⟨bif m then 6 else 5,0,[],(g.cnt:Int)⟩::g.flat:=by
 unfold nd
 cases hd:decide (g.cnt=0) with
 | true=>
  simp only[Ac9] at hd;rw[h hd];rfl
 | false=>simp[Fo.flat,Bu]
theorem Jh {g:Fo}(h:g.cnt=0):g = .nil:=by
 cases g with
 | nil=>rfl
 | cell _ _ _=>simp[Fo.cnt] at h
 | node _ _ _ _=>simp[Fo.cnt] at h
theorem V6 {b m:Bool}{last key:Option Af}{s u:Af}(h:EP b m last s=some (key,u)):(Bu key).length+u.length≤s.length:=by
 unfold EP at h
 cases m with
 | false=>cases h;simp[Bu]
 | true=>
  simp only[AcH] at h
  cases s with
  | nil=>cases h
  | cons c r=>
   simp only at h
   cases h1:decide (c=34) with
   | false=>rw[h1] at h;cases h
   | true=>
    rw[h1] at h;simp only[AcH] at h
    cases h2:CY b r with
    | none=>rw[h2] at h;cases h
    | some q=>
     obtain⟨k,w⟩:=q;have:=J8 b _ r k w rfl h2;rw[h2] at h;simp only at h
     cases h3:(b&&!B1 true last (some k)) with
     | true=>rw[h3] at h;cases h
     | false=>
      rw[h3] at h;simp only[AcD] at h
      cases w with
      | nil=>cases h
      | cons d w'=>
       simp only at h
       cases h4:decide (d=58) with
       | false=>rw[h4] at h;cases h
       | true=>rw[h4] at h;cases h;simp only[AcE,Bu,Adz] at this ⊢;omega
theorem I7 (b:Bool):∀F:Nat,(∀s f u,G2 b F s=some (f,u)→f.flat.length+u.length≤s.length)∧(∀m last s g u,DM b F m last s=some (g,u)→g.flat.length+u.length+1≤s.length)
 | 0=>⟨(λs f u h=>by rw[G2.eq_def] at h;cases h),(λm last s g u h=>by rw[DM.eq_def] at h;cases h)⟩
 | F+1=>by
  obtain⟨ih1,ih2⟩:=I7 b F;have lfl:∀k i t,(lf k i t).flat.length=1:=λ_ _ _=>rfl;constructor
  ·intro s f u h;rw[DL] at h
   cases h1:pre [110,117,108,108] s with
   | some r=>rw[h1] at h;cases h;rw[DF h1,lfl];simp;omega
   | none=>
   rw[h1] at h;simp only at h
   cases h2:pre [116,114,117,101] s with
   | some r=>rw[h2] at h;cases h;rw[DF h2,lfl];simp;omega
   | none=>
   rw[h2] at h;simp only at h
   cases h3:pre [102,97,108,115,101] s with
   | some r=>rw[h3] at h;cases h;rw[DF h3,lfl];simp;omega
   | none=>
   rw[h3] at h;simp only at h
   cases s with
   | nil=>cases h
   | cons c r=>
   simp only at h
   cases h4:decide (c=34) with
   | true=>
    rw[h4] at h;simp only[AcH] at h
    cases h5:CY b r with
    | none=>rw[h5] at h;cases h
    | some q=>
     obtain⟨t,w⟩:=q;rw[h5] at h;cases h;have:=J8 b _ r t u rfl h5;rw[lfl];simp only[AcE];omega
   | false=>
   rw[h4] at h;simp only[AcD] at h
   cases h5:(decide (c=91)||decide (c=123)) with
   | false=>
    rw[h5] at h;simp only[AcD] at h;have h6:=OF h;have h7:f.flat.length=1:=by
     unfold IG at h;simp only at h
     cases hc:EZ (decide ((c::r).head? =some 45)) (C7 (bif decide ((c::r).head? =some 45) then(c::r).tail else c::r)).1 with
     | false=>rw[hc] at h;cases h
     | true=>rw[hc] at h;cases h;rfl
    omega
   | true=>
   rw[h5] at h;simp only[AcH] at h
   cases r with
   | nil=>cases h
   | cons d r'=>
   simp only at h
   cases h6:decide (d=BW (decide (c=123))) with
   | true=>rw[h6] at h;cases h;rw[Kq _ _ Jh];simp[Fo.flat];omega
   | false=>
   rw[h6] at h;simp only[AcD] at h
   cases h7:DM b F (decide (c=123)) none (d::r') with
   | none=>rw[h7] at h;cases h
   | some q=>
    obtain⟨g,w⟩:=q;rw[h7] at h;cases h;have:=ih2 _ _ _ _ _ h7;rw[Kq _ _ Jh];simp only[AcE] at this ⊢;omega
  ·intro m last s g u h;rw[D2] at h
   cases h1:EP b m last s with
   | none=>rw[h1] at h;cases h
   | some q=>
   obtain⟨key,s1⟩:=q;have l1:=V6 h1;rw[h1] at h;simp only at h
   cases h2:G2 b F s1 with
   | none=>rw[h2] at h;cases h
   | some q=>
   obtain⟨f,s2⟩:=q;have l2:=ih1 _ _ _ h2;have o2:=((EK b F).1 _ _ _ h2).2;rw[h2] at h;simp only at h
   cases s2 with
   | nil=>cases h
   | cons c s3=>
   simp only[AcE] at l2;simp only at h
   cases h3:decide (c=BW m) with
   | true=>rw[h3] at h;cases h;rw[Gh o2,AcF,AcF];simp only[Fo.flat,Adz];omega
   | false=>
   rw[h3] at h;simp only[AcD] at h
   cases h4:decide (c=44) with
   | false=>rw[h4] at h;cases h
   | true=>
   rw[h4] at h;simp only[AcH] at h
   cases h5:DM b F m key s3 with
   | none=>rw[h5] at h;cases h
   | some q=>
    obtain⟨g',w⟩:=q;rw[h5] at h;cases h;have:=ih2 _ _ _ _ _ h5;rw[Gh o2,AcF,AcF];omega
theorem TB {α:Type}(xs D:List α)(a b:α):List.set (xs++a::D) (Int.toNat (xs.length:Int)) b=xs++b::D:=by
 rw[show Int.toNat (xs.length:Int)=xs.length from by omega,List.set_append_right _ _ (AcY _)];simp
theorem YO {α:Type}[Inhabited α](xs D:List α)(a:α):Ao (xs++a::D) (xs.length:Int)=a:=by simp[Ao]
def VOk (F P:Nat)(S u:Af)(cs:List Aa)(g:Bool):Prop:=
 (∃f w,G2 true P u=some (f,w)∧HL w S∧Cu F (D3 S u cs g)=some (true,D3 S w (cs++f.flat.map CM) (g||f.flat.any BT)))∨(G2 true P u=none∧∃q',Cu F (D3 S u cs g)=some (false,q'))
abbrev LB2 (F:Nat)(x16:List Aa):Int×Af×Int×List Aa×Bool→Option (Stp (Int×Af×Int×List Aa×Bool) (Out (Bool×At) Unit)):=λσ=>EN (Cu F) x16 σ.1 σ.2.1 σ.2.2.1 σ.2.2.2.1 σ.2.2.2.2
abbrev LB3 (F:Nat)(x16:List Aa):Af×Int×Af×Int×List Aa×Bool→Option (Stp (Af×Int×Af×Int×List Aa×Bool) (Out (Bool×At) Unit)):=λσ=>EM F (Cu F) x16 σ.1 σ.2.1 σ.2.2.1 σ.2.2.2.1 σ.2.2.2.2.1 σ.2.2.2.2.2
def Wf (P:Nat)(m:Bool)(last:Option Af)(S u:Af)(x16 D:List Aa)(k:Int)(g:Bool)(o:Out (Bool×At) Unit):Prop:=
 (∃G w,DM true P m last u=some (G,w)∧HL w S∧o = .ret (true,D3 S w (x16++⟨bif m then 6 else 5,0,[],k-1+(G.cnt:Int)⟩::(D++G.flat.map CM)) (g||G.flat.any BT)))∨(DM true P m last u=none∧∃q',o = .ret (false,q'))
theorem Aad (k:Option Af):(Bu k).map CM=Bu k∧(Bu k).any BT=false:=by
 cases k with
 | none=>exact⟨rfl,rfl⟩
 | some s=>exact⟨by simp[Bu,CM,BT],by simp[Bu,BT]⟩
theorem Wf.join {P:Nat}{m:Bool}{last key:Option Af}{S u s1 s2:Af}{x16 D:List Aa}{k:Int}{g:Bool}{o:Out (Bool×At) Unit}{f:Fo}(hk:EP true m last u=some (key,s1))(hf:G2 true P s1=some (f,s2))(ho:f.one=true)
  (h:(∃s3,s2=BW m::s3∧HL s3 S∧o = .ret (true,D3 S s3 (x16++⟨bif m then 6 else 5,0,[],k⟩::(D++(Bu key++f.flat.map CM))) (g||f.flat.any BT)))∨(∃s3,s2=44::s3∧Wf P m key S s3 x16 (D++(Bu key++f.flat.map CM)) (k+1) (g||f.flat.any BT) o)∨((∀c s3,s2=c::s3→decide (c=BW m)=false∧decide (c=44)=false)∧∃q',o = .ret (false,q'))):Wf (P+1) m last S u x16 D k g o:=by
 obtain⟨fk1,fk2⟩:=Aad key;unfold Wf;rw[D2,hk];simp only[hf];have ha:decide ((44:UInt8)=BW m)=false:=by cases m<;>rfl
 rcases h with⟨s3,rfl,h1,h2⟩ | ⟨s3,rfl,h⟩ | ⟨h1,h2⟩
 ·simp only[decide_true,AcH];refine .inl ⟨_,s3,rfl,h1,?_⟩;rw[h2,TJ ho,Gh ho];simp only[Fo.flat,Fo.cnt,Adk,AdA,List.any_append,fk1,fk2,AcW]
  congr 6
  omega
 ·simp only[ha,AcD,decide_true,AcH];rcases h with⟨G,w,q1,q2,q3⟩ | ⟨q1,q2⟩
  ·rw[q1];refine .inl ⟨_,w,rfl,q2,?_⟩;rw[q3,TJ ho,Gh ho];simp only[AdA,List.any_append,fk1,fk2,AcW,Bool.or_assoc,AcU]
   congr 6
   omega
  ·rw[q1];exact .inr ⟨rfl,q2⟩
 ·refine .inr ⟨?_,h2⟩
  cases s2 with
  | nil=>rfl
  | cons c s3=>
   obtain⟨a,b⟩:=h1 c s3 rfl;simp only[a,b,AcD]
theorem N7 (S u:Af)(cs:List Aa)(g:Bool):At.mk S ((S.length:Int)-u.length) cs g=D3 S u cs g:=rfl
theorem N5 {o:Out (Bool×At) Unit}{r:Bool×At}{K:Unit→Option (Bool×At)}(h:o = .ret r):B5 K o=some r:=by rw[h];rfl
theorem Uv {α:Type}{n:Nat}{x:Option α}(h:n≤1000000):AX (Dw 40 n) x=x:=BL (AcC (by omega))
theorem Ti {F P:Nat}{S u:Af}{x16 D:List Aa}{k:Int}{g:Bool}(hS:S.length≤100000)(hs:HL u S)(hk1:1≤k)(hk2:k≤200000)(hV:VOk F P S u (x16++⟨5,0,[],k-1⟩::D) g) :
  (∃q',LB2 F x16 (k,S,(S.length:Int)-u.length,x16++⟨5,0,[],k-1⟩::D,g)=some (.out (.ret (false,q')))∧(G2 true P u=none∨∃f s2,G2 true P u=some (f,s2)∧∀c s3,s2=c::s3→decide (c=BW false)=false∧decide (c=44)=false))∨
  ∃f s2,G2 true P u=some (f,s2)∧HL s2 S∧((∃s3,s2=BW false::s3∧LB2 F x16 (k,S,(S.length:Int)-u.length,x16++⟨5,0,[],k-1⟩::D,g)=some (.out (.ret (true,D3 S s3 (x16++⟨5,0,[],k⟩::(D++f.flat.map CM)) (g||f.flat.any BT)))))∨
   (∃s3,s2=44::s3∧LB2 F x16 (k,S,(S.length:Int)-u.length,x16++⟨5,0,[],k-1⟩::D,g)=some (.next (k+1,S,(S.length:Int)-s3.length,x16++⟨5,0,[],k⟩::(D++f.flat.map CM),g||f.flat.any BT)))):=by
 have hb:LB2 F x16 (k,S,(S.length:Int)-u.length,x16++⟨5,0,[],k-1⟩::D,g)=EN (Cu F) x16 k S ((S.length:Int)-u.length) (x16++⟨5,0,[],k-1⟩::D) g:=rfl;rw[hb];unfold EN;rw[N7];rcases hV with⟨f,s2,q1,q2,q3⟩ | ⟨q1,q',q2⟩
 ·have ec:(x16++⟨5,0,[],k-1⟩::D)++f.flat.map CM=x16++⟨5,0,[],k-1⟩::(D++f.flat.map CM):=by simp
  rw[ec] at q3;rw[q3,AI rfl,A0 (p:=!true) rfl];have hin:CJ (x16.length:Int) (((x16++(⟨5,0,[],k-1⟩:Aa)::(D++f.flat.map CM)).length:Nat):Int)=true:=Q7 (by omega) (by rw[AcF,AcE];omega);have e1:(true,D3 S s2 (x16++⟨5,0,[],k-1⟩::(D++f.flat.map CM)) (g||f.flat.any BT)).2.fCells=x16++⟨5,0,[],k-1⟩::(D++f.flat.map CM):=rfl;rw[e1,BL hin,YO,TB,Ga];have e2:At.mk (true,D3 S s2 (x16++⟨5,0,[],k-1⟩::(D++f.flat.map CM)) (g||f.flat.any BT)).2.fS (true,D3 S s2 (x16++⟨5,0,[],k-1⟩::(D++f.flat.map CM)) (g||f.flat.any BT)).2.fAt (x16++⟨5,0,[],k⟩::(D++f.flat.map CM)) (true,D3 S s2 (x16++⟨5,0,[],k-1⟩::(D++f.flat.map CM)) (g||f.flat.any BT)).2.fGreat=D3 S s2 (x16++⟨5,0,[],k⟩::(D++f.flat.map CM)) (g||f.flat.any BT):=rfl;rw[e2,CR hS q2,LC]
  cases s2 with
  | nil=>
   simp only;rw[AI rfl,A0 rfl,CR hS q2,LC];exact .inl ⟨_,rfl,.inr ⟨f,[],q1,λc s3 e=>by cases e⟩⟩
  | cons c s3=>
   simp only
   cases ha:decide (c=93) with
   | true=>
    simp only[Ac9] at ha;subst ha;exact .inr ⟨f,_,q1,q2,.inl ⟨s3,rfl,rfl⟩⟩
   | false=>
    simp only[AcD];rw[AI rfl,A0 rfl,CR hS q2,LC];simp only
    cases hd:decide (c=44) with
    | true=>
     simp only[Ac9] at hd;subst hd;simp only[AcH];rw[AI rfl,A0 (p:=!true) rfl,AB (by omega) (by omega)];exact .inr ⟨f,_,q1,q2,.inr ⟨s3,rfl,rfl⟩⟩
    | false=>
     exact .inl ⟨_,rfl,.inr ⟨f,_,q1,λc' s3' e=>by cases e;exact⟨ha,hd⟩⟩⟩
 ·rw[q2,AI rfl];exact .inl ⟨q',rfl,.inl q1⟩
theorem XA {F P:Nat}{S u:Af}{x16 D:List Aa}{k:Int}{g b1 b2:Bool}{r:Af×Bool×At}(hS:S.length≤100000)(hs:HL u S)(hk1:1≤k)(hk2:k≤200000)(hD:x16.length+D.length≤200000)(hV:VOk F P S u (x16++⟨6,0,[],k-1⟩::(D++[⟨4,0,r.1,0⟩])) g) :
  (∃q',Cn (Cu F) x16 k r b1 b2 false S ((S.length:Int)-u.length) (x16++⟨6,0,[],k-1⟩::D) g=some (.out (.ret (false,q')))∧(G2 true P u=none∨∃f s2,G2 true P u=some (f,s2)∧∀c s3,s2=c::s3→decide (c=BW true)=false∧decide (c=44)=false))∨
  ∃f s2,G2 true P u=some (f,s2)∧HL s2 S∧((∃s3,s2=BW true::s3∧Cn (Cu F) x16 k r b1 b2 false S ((S.length:Int)-u.length) (x16++⟨6,0,[],k-1⟩::D) g=some (.out (.ret (true,D3 S s3 (x16++⟨6,0,[],k⟩::(D++([⟨4,0,r.1,0⟩]++f.flat.map CM))) (g||f.flat.any BT)))))∨
   (∃s3,s2=44::s3∧Cn (Cu F) x16 k r b1 b2 false S ((S.length:Int)-u.length) (x16++⟨6,0,[],k-1⟩::D) g=some (.next (r.1,k+1,S,(S.length:Int)-s3.length,x16++⟨6,0,[],k⟩::(D++([⟨4,0,r.1,0⟩]++f.flat.map CM)),g||f.flat.any BT)))):=by
 unfold Cn;have e0:(x16++⟨6,0,[],k-1⟩::D)++([⟨4,0,r.1,0⟩]:List Aa)=x16++⟨6,0,[],k-1⟩::(D++[⟨4,0,r.1,0⟩]):=by simp
 rw[A0 rfl,Uv (by rw[AcF,AcE,Ade];omega),e0,N7];rcases hV with⟨f,s2,q1,q2,q3⟩ | ⟨q1,q',q2⟩
 ·have ec:(x16++⟨6,0,[],k-1⟩::(D++[⟨4,0,r.1,0⟩]))++f.flat.map CM=x16++⟨6,0,[],k-1⟩::(D++([⟨4,0,r.1,0⟩]++f.flat.map CM)):=by simp
  rw[ec] at q3;rw[q3,AI rfl,A0 (p:=!true) rfl];have hin:CJ (x16.length:Int) (((x16++(⟨6,0,[],k-1⟩:Aa)::(D++([⟨4,0,r.1,0⟩]++f.flat.map CM))).length:Nat):Int)=true:=Q7 (by omega) (by rw[AcF,AcE];omega);have e1:(true,D3 S s2 (x16++⟨6,0,[],k-1⟩::(D++([⟨4,0,r.1,0⟩]++f.flat.map CM))) (g||f.flat.any BT)).2.fCells=x16++⟨6,0,[],k-1⟩::(D++([⟨4,0,r.1,0⟩]++f.flat.map CM)):=rfl;rw[e1,BL hin,YO,TB,Ga];have e2:At.mk (true,D3 S s2 (x16++⟨6,0,[],k-1⟩::(D++([⟨4,0,r.1,0⟩]++f.flat.map CM))) (g||f.flat.any BT)).2.fS (true,D3 S s2 (x16++⟨6,0,[],k-1⟩::(D++([⟨4,0,r.1,0⟩]++f.flat.map CM))) (g||f.flat.any BT)).2.fAt (x16++⟨6,0,[],k⟩::(D++([⟨4,0,r.1,0⟩]++f.flat.map CM))) (true,D3 S s2 (x16++⟨6,0,[],k-1⟩::(D++([⟨4,0,r.1,0⟩]++f.flat.map CM))) (g||f.flat.any BT)).2.fGreat=D3 S s2 (x16++⟨6,0,[],k⟩::(D++([⟨4,0,r.1,0⟩]++f.flat.map CM))) (g||f.flat.any BT):=rfl;rw[e2,CR hS q2,LC]
  cases s2 with
  | nil=>
   simp only;rw[AI rfl,A0 rfl,CR hS q2,LC];exact .inl ⟨_,rfl,.inr ⟨f,[],q1,λc s3 e=>by cases e⟩⟩
  | cons c s3=>
   simp only
   cases ha:decide (c=125) with
   | true=>
    simp only[Ac9] at ha;subst ha;exact .inr ⟨f,_,q1,q2,.inl ⟨s3,rfl,rfl⟩⟩
   | false=>
    simp only[AcD];rw[AI rfl,A0 rfl,CR hS q2,LC];simp only
    cases hb:decide (c=44) with
    | true=>
     simp only[Ac9] at hb;subst hb;simp only[AcH];rw[AI rfl,A0 (p:=!true) rfl,AB (by omega) (by omega)];exact .inr ⟨f,_,q1,q2,.inr ⟨s3,rfl,rfl⟩⟩
    | false=>
     exact .inl ⟨_,rfl,.inr ⟨f,_,q1,λc' s3' e=>by cases e;exact⟨ha,hb⟩⟩⟩
 ·rw[q2,AI rfl];exact .inl ⟨q',rfl,.inl q1⟩
def Abr (t:Af):Af→Option (Option Af×Af)
 | []=>none
 | d::u'=>bif decide (d=58) then some (some t,u') else none
theorem Ue (b:Bool)(last:Option Af)(r:Af):EP b true last (34::r)=match CY b r with
  | none=>none
  | some (k,u)=>bif b&&!B1 true last (some k) then none else Abr k u:=by
 show(match CY b r with
   | none=>none
   | some (k,u)=>bif b&&!B1 true last (some k) then none else(match u with
    | []=>none
    | d::u'=>bif decide (d=58) then some (some k,u') else none))=_
 cases CY b r with
 | none=>rfl
 | some q=>obtain⟨k,u⟩:=q;cases u<;>rfl
theorem ZL (b:Bool)(last:Option Af){u:Af}(h:∀r,u=34::r→CY b r=none):EP b true last u=none:=by
 cases u with
 | nil=>rfl
 | cons c r=>
  by_cases hc:c=34
  ·subst hc;rw[Ue,h r rfl]
  ·show(bif decide (c=34) then _ else none)=none;rw[AcB hc];rfl
theorem PE {F:Nat}{S w t:Af}{x16 cs:List Aa}{k:Int}{g:Bool}(b1 b2:Bool)(hS:S.length≤100000)(hw:HL w S) :
  (∃q',Br (Ec (t,true,D3 S w cs g).2.2 ([58]:Af)) (λha=>Cn (Cu F) x16 k (t,true,D3 S w cs g) b1 b2 (!ha.1) ha.2.fS ha.2.fAt ha.2.fCells ha.2.fGreat)=some (.out (.ret (false,q')))∧Abr t w=none)∨
  ∃s1,w=58::s1∧Abr t w=some (some t,s1)∧Br (Ec (t,true,D3 S w cs g).2.2 ([58]:Af)) (λha=>Cn (Cu F) x16 k (t,true,D3 S w cs g) b1 b2 (!ha.1) ha.2.fS ha.2.fAt ha.2.fCells ha.2.fGreat)=Cn (Cu F) x16 k (t,true,D3 S w cs g) b1 b2 false S ((S.length:Int)-s1.length) cs g:=by
 rw[show(t,true,D3 S w cs g).2.2=D3 S w cs g from rfl,CR hS hw,LC]
 cases w with
 | nil=>exact .inl ⟨_,rfl,rfl⟩
 | cons d s1=>
  by_cases hd:d=58
  ·subst hd;exact .inr ⟨s1,rfl,rfl,rfl⟩
  ·simp only[AcB hd,AcD];refine .inl ⟨_,rfl,?_⟩;show(bif decide (d=58) then _ else none)=none;rw[AcB hd];rfl
theorem ZE {F:Nat}{S u last:Af}{x16 cs:List Aa}{k:Int}{g:Bool}(hS:S.length≤100000)(hs:HL u S)(hF:S.length<F) :
  (EP true true (bif decide (1<k) then some last else none) u=none∧∃q',LB3 F x16 (last,k,S,(S.length:Int)-u.length,cs,g)=some (.out (.ret (false,q'))))∨
  ∃t s1 b1 b2 q0,EP true true (bif decide (1<k) then some last else none) u=some (some t,s1)∧HL s1 S∧s1.length+2≤u.length∧LB3 F x16 (last,k,S,(S.length:Int)-u.length,cs,g)=Cn (Cu F) x16 k (t,true,q0) b1 b2 false S ((S.length:Int)-s1.length) cs g:=by
 have hb:LB3 F x16 (last,k,S,(S.length:Int)-u.length,cs,g)=EM F (Cu F) x16 last k S ((S.length:Int)-u.length) cs g:=rfl;rw[hb];unfold EM;rw[N7];rcases Re (cs:=cs) (g:=g) hS hs hF with⟨r,t,w,q1,q2,q3,q4⟩ | ⟨q1,q',q2⟩
 ·rw[q4,AI rfl,A0 (p:=!true) rfl];subst q1;have hok:=Zv _ r t w rfl q2;have hwl:=J8 true _ r t w rfl q2;rw[Ue,q2];simp only[AcQ]
  cases h1:decide (1<k) with
  | true=>
   rw[AF rfl];simp only[AcH];have hko:B1 true (some last) (some t) = !(BE t last||decide (t=last)):=by simp[B1,hok]
   rw[hko,Bool.not_not]
   cases hlt:(BE t last||decide (t=last)) with
   | true=>
    rw[AF rfl];exact .inl ⟨rfl,_,rfl⟩
   | false=>
    rw[A0 rfl];simp only[AcD];rcases PE (F:=F) (cs:=cs) (g:=g) (x16:=x16) (k:=k) (t:=t) false false hS q3 with⟨q',c1,c2⟩ | ⟨s1,c1,c2,c3⟩
    ·exact .inl ⟨c2,q',c1⟩
    ·subst c1;exact .inr ⟨t,s1,false,false,D3 S (58::s1) cs g,c2,q3.tail,by simp only[AcE] at hwl ⊢;omega,c3⟩
  | false=>
   rw[A0 rfl];simp only[AcD];have hko:B1 true none (some t)=true:=by simp[B1,hok]
   rw[hko];simp only[AcP,AcD];rcases PE (F:=F) (cs:=cs) (g:=g) (x16:=x16) (k:=k) (t:=t) false false hS q3 with⟨q',c1,c2⟩ | ⟨s1,c1,c2,c3⟩
   ·exact .inl ⟨c2,q',c1⟩
   ·subst c1;exact .inr ⟨t,s1,false,false,D3 S (58::s1) cs g,c2,q3.tail,by simp only[AcE] at hwl ⊢;omega,c3⟩
 ·rw[q2,AI rfl];exact .inl ⟨ZL _ _ q1,_,rfl⟩
def Wb (b:Bool)(F:Nat)(m:Bool):Af→Option (Fo×Af)
 | []=>none
 | d::r'=>bif decide (d=BW m) then some (nd m .nil,r') else(match DM b F m none (d::r') with
  | none=>none
  | some (g,u)=>some (nd m g,u))
theorem K3 (b:Bool)(F:Nat)(m:Bool)(d:UInt8)(r':Af):Wb b F m (d::r')=bif decide (d=BW m) then some (nd m .nil,r') else(match DM b F m none (d::r') with
  | none=>none
  | some (g,u)=>some (nd m g,u)):=rfl
theorem Tc (b:Bool)(F:Nat)(r:Af)(m:Bool):G2 b (F+1) ((bif m then 123 else 91)::r)=Wb b F m r:=by
 rw[DL]
 cases m<;>cases r<;>rfl
theorem XG {S:Af}(hS:S.length≤100000):∀n:Nat,
  (∀(F P:Nat) (u:Af) (cs:List Aa) (g:Bool),u.length=n→HL u S→S.length+n+5<F→2*n+2≤P→cs.length+n≤S.length→VOk F P S u cs g)∧
  (∀(F P L:Nat) (u:Af) (x16 D:List Aa) (k:Int) (g:Bool),u.length=n→HL u S→S.length+n+5<F→2*n+3≤P→n<L→x16.length+1+D.length+n≤S.length→1≤k→k+n≤S.length+1→∃o,B7 (LB2 F x16) L (k,S,(S.length:Int)-u.length,x16++⟨5,0,[],k-1⟩::D,g)=some o∧Wf P false none S u x16 D k g o)∧
  (∀(F P L:Nat) (u last:Af) (x16 D:List Aa) (k:Int) (g:Bool),u.length=n→HL u S→S.length+n+5<F→2*n+3≤P→n<L→x16.length+1+D.length+n≤S.length→1≤k→k+n≤S.length+1→∃o,B7 (LB3 F x16) L (last,k,S,(S.length:Int)-u.length,x16++⟨6,0,[],k-1⟩::D,g)=some o∧Wf P true (bif decide (1<k) then some last else none) S u x16 D k g o):=by
 intro n
 induction n using Nat.strongRecOn with
 | ind n ih=>
 have hV:∀(F P:Nat) (u:Af) (cs:List Aa) (g:Bool),u.length=n→HL u S→S.length+n+5<F→2*n+2≤P→cs.length+n≤S.length→VOk F P S u cs g:=by
  intro F P u cs g hn hs hF hP hcs;obtain⟨F,rfl⟩:∃K,F=K+1:=⟨F-1,by omega⟩
  obtain⟨P,rfl⟩:∃K,P=K+1:=⟨P-1,by omega⟩
  unfold VOk;rw[Cu];unfold Ls;rw[CR hS hs,LC];have hsc:(∀c r,u=c::r→(decide (c=91)||decide (c=123))=false)→∀r1:Bool×At,(∃f w,G2 true (P+1) u=some (f,w)∧HL w S∧Ed F (Cu F) r1 true S ((S.length:Int)-u.length) cs g=some (true,D3 S w (cs++f.flat.map CM) (g||f.flat.any BT)))∨(G2 true (P+1) u=none∧∃q',Ed F (Cu F) r1 true S ((S.length:Int)-u.length) cs g=some (false,q')):=λhc r1=>by
   rw[Xi true P hc];unfold Ed;rw[AF rfl,N7];rcases Rf (F:=F) (cs:=cs) (g:=g) hS hs (by omega) (by omega) with⟨f,w,q1,q2,q3⟩ | ⟨q1,q',q2⟩
   ·rw[q3,AI rfl];exact .inl ⟨f,w,q1,q2,rfl⟩
   ·rw[q2,AI rfl];exact .inr ⟨q1,q',rfl⟩
  have hsl:=hs.len
  cases u with
  | nil=>
   simp only;rw[AI rfl,AF (p:=!false) rfl,show(false,D3 S [] cs g).2=D3 S [] cs g from rfl,CR hS hs,LC,AI rfl];exact hsc (λc r e=>by cases e) _
  | cons c r=>
   simp only[AcE] at hn hsl;simp only;have hbr:∀m:Bool,c=(bif m then 123 else 91)→∀body:Option (Bool×At),body=(AX (Dw 40 (cs.length+([⟨bif m then 6 else 5,0,[],0⟩]:List Aa).length))<|Br (Ec (D3 S r (cs++[⟨bif m then 6 else 5,0,[],0⟩]) g) ([BW m]:Af)) λha=>Bf ha.1 (some (true,ha.2)) (bif m then Br (B7 (LB3 F cs) F ([],1,ha.2.fS,ha.2.fAt,ha.2.fCells,ha.2.fGreat)) (B5 λ_=>Hx) else Br (B7 (LB2 F cs) F (1,ha.2.fS,ha.2.fAt,ha.2.fCells,ha.2.fGreat)) (B5 λ_=>Hy)))→
     (∃f w,G2 true (P+1) (c::r)=some (f,w)∧HL w S∧body=some (true,D3 S w (cs++f.flat.map CM) (g||f.flat.any BT)))∨(G2 true (P+1) (c::r)=none∧∃q',body=some (false,q')):=λm hc body hbody=>by
    rw[hbody,hc,Tc,Uv (by rw[Ade];omega),CR hS hs.tail,LC];have hfh:CM ⟨bif m then 6 else 5,0,[],0⟩=⟨bif m then 6 else 5,0,[],0⟩∧∀N,BT ⟨bif m then 6 else 5,0,[],N⟩=false:=by cases m<;>exact⟨rfl,λ_=>rfl⟩
    have hfn:∀N,CM ⟨bif m then 6 else 5,0,[],N⟩=⟨bif m then 6 else 5,0,[],N⟩:=λN=>by cases m<;>rfl
    have hloop:∀o:Out (Bool×At) Unit,Wf P m none S r cs [] 1 g o→(r=[]∨∃d r',r=d::r'∧decide (d=BW m)=false)→
      (∃f w,Wb true P m r=some (f,w)∧HL w S∧o = .ret (true,D3 S w (cs++f.flat.map CM) (g||f.flat.any BT)))∨(Wb true P m r=(none:Option (Fo×Af))∧∃q',o = .ret (false,q')):=λo ho hr=>by
     rcases hr with rfl | ⟨d,r',rfl,hd⟩
     ·rcases ho with⟨G,w,q1,_,_⟩ | ⟨_,q2⟩
      ·exact absurd ((EK true P).2 _ _ _ _ _ q1).1 (by simp)
      ·exact .inr ⟨rfl,q2⟩
     ·rw[K3,hd];simp only[AcD];rcases ho with⟨G,w,q1,q2,q3⟩ | ⟨q1,q2⟩
      ·rw[q1];refine .inl ⟨_,w,rfl,q2,?_⟩;rw[q3,Kq _ _ Jh,Adx,List.any_cons,hfn,hfh.2,AcW,Adg,show(1:Int)-1+(G.cnt:Int)=G.cnt from by omega]
      ·rw[q1];exact .inr ⟨rfl,q2⟩
    have hrest:(r=[]∨∃d r',r=d::r'∧decide (d=BW m)=false)→(∃f w,Wb true P m r=some (f,w)∧HL w S∧(bif m then Br (B7 (LB3 F cs) F ([],1,S,(S.length:Int)-r.length,cs++[⟨bif m then 6 else 5,0,[],0⟩],g)) (B5 λ_=>Hx) else Br (B7 (LB2 F cs) F (1,S,(S.length:Int)-r.length,cs++[⟨bif m then 6 else 5,0,[],0⟩],g)) (B5 λ_=>Hy))=some (true,D3 S w (cs++f.flat.map CM) (g||f.flat.any BT)))∨(Wb true P m r=(none:Option (Fo×Af))∧∃q',(bif m then Br (B7 (LB3 F cs) F ([],1,S,(S.length:Int)-r.length,cs++[⟨bif m then 6 else 5,0,[],0⟩],g)) (B5 λ_=>Hx) else Br (B7 (LB2 F cs) F (1,S,(S.length:Int)-r.length,cs++[⟨bif m then 6 else 5,0,[],0⟩],g)) (B5 λ_=>Hy))=some (false,q')):=λhr=>by
     cases m with
     | true=>
      obtain⟨o,ho1,ho2⟩:=(ih r.length (by omega)).2.2 F P F r [] cs [] 1 g rfl hs.tail (by omega) (by omega) (by omega) (by simp;omega) (by decide) (by omega);simp only[AcH];have ho1':B7 (LB3 F cs) F ([],1,S,(S.length:Int)-r.length,cs++[⟨6,0,[],0⟩],g)=some o:=ho1;rw[AI ho1'];rcases hloop o ho2 hr with⟨f,w,q1,q2,q3⟩ | ⟨q1,q',q2⟩
      ·exact .inl ⟨f,w,q1,q2,N5 q3⟩
      ·exact .inr ⟨q1,q',N5 q2⟩
     | false=>
      obtain⟨o,ho1,ho2⟩:=(ih r.length (by omega)).2.1 F P F r cs [] 1 g rfl hs.tail (by omega) (by omega) (by omega) (by simp;omega) (by decide) (by omega);simp only[AcD];have ho1':B7 (LB2 F cs) F (1,S,(S.length:Int)-r.length,cs++[⟨5,0,[],0⟩],g)=some o:=ho1;rw[AI ho1'];rcases hloop o ho2 hr with⟨f,w,q1,q2,q3⟩ | ⟨q1,q',q2⟩
      ·exact .inl ⟨f,w,q1,q2,N5 q3⟩
      ·exact .inr ⟨q1,q',N5 q2⟩
    cases r with
    | nil=>
     simp only;rw[AI rfl,A0 rfl];exact hrest (.inl rfl)
    | cons d r'=>
     simp only
     cases hd:decide (d=BW m) with
     | true=>
      simp only[AcH];rw[AI rfl,AF rfl];refine .inl ⟨_,r',by rw[K3,hd];rfl,hs.tail.tail,?_⟩;rw[Kq _ _ Jh];simp only[Fo.flat,Fo.cnt,Adx,List.map_nil,List.any_cons,List.any_nil,Adi];rw[show((0:Nat):Int)=0 from rfl,hfh.1,hfh.2,Adi]
     | false=>
      simp only[AcD];rw[AI rfl,A0 rfl];exact hrest (.inr ⟨d,r',rfl,hd⟩)
   cases he:decide (c=91) with
   | true=>
    simp only[Ac9] at he;simp only[AcH];rw[AI rfl,A0 (p:=!true) rfl];exact hbr false he _ rfl
   | false=>
    simp only[AcD];rw[AI rfl,AF (p:=!false) rfl,show(false,D3 S (c::r) cs g).2=D3 S (c::r) cs g from rfl,CR hS hs,LC];simp only
    cases hg:decide (c=123) with
    | true=>
     simp only[Ac9] at hg;simp only[AcH];rw[AI rfl];exact hbr true hg _ rfl
    | false=>
     simp only[AcD];rw[AI rfl];exact hsc (λc' r' e=>by cases e;rw[he,hg];rfl) _
 refine⟨hV,?_,?_⟩
 ·intro F P L u x16 D k g hn hs hF hP hL hb hk1 hk2;obtain⟨P,rfl⟩:∃K,P=K+1:=⟨P-1,by omega⟩
  obtain⟨L,rfl⟩:∃K,L=K+1:=⟨L-1,by omega⟩
  have hsl:=hs.len;have hv:=hV F P u (x16++⟨5,0,[],k-1⟩::D) g hn hs hF (by omega) (by simp;omega);have hkp:EP true false none u=some (none,u):=rfl;rcases Ti hS hs hk1 (by omega) hv with⟨q',hb1,hf⟩ | ⟨f,s2,q1,q2,h⟩
  ·refine⟨_,DO hb1,?_⟩;rcases hf with hf | ⟨f,s2,hf,hno⟩
   ·refine .inr ⟨?_,q',rfl⟩;rw[D2,hkp];simp only[hf]
   ·exact Wf.join hkp hf ((EK true P).1 _ _ _ hf).2 (.inr (.inr ⟨hno,q',rfl⟩))
  ·obtain⟨l1,ho⟩:=(EK true P).1 _ _ _ q1;have l2:=(I7 true P).1 _ _ _ q1;rcases h with⟨s3,e,hb1⟩ | ⟨s3,e,hb1⟩
   ·subst e;exact⟨_,DO hb1,Wf.join hkp q1 ho (.inl ⟨s3,rfl,q2.tail,rfl⟩)⟩
   ·subst e;simp only[AcE] at l1 l2;obtain⟨o,ho1,ho2⟩:=(ih s3.length (by omega)).2.1 F P L s3 x16 (D++f.flat.map CM) (k+1) (g||f.flat.any BT) rfl q2.tail (by omega) (by omega) (by omega) (by rw[AcF,AcR];omega) (by omega) (by omega);rw[show k+1-1=k from by omega] at ho1;exact⟨o,ID hb1 ho1,Wf.join hkp q1 ho (.inr (.inl ⟨s3,rfl,ho2⟩))⟩
 ·intro F P L u last x16 D k g hn hs hF hP hL hb hk1 hk2;obtain⟨P,rfl⟩:∃K,P=K+1:=⟨P-1,by omega⟩
  obtain⟨L,rfl⟩:∃K,L=K+1:=⟨L-1,by omega⟩
  have hsl:=hs.len;rcases ZE (last:=last) (x16:=x16) (cs:=x16++⟨6,0,[],k-1⟩::D) (k:=k) (g:=g) hS hs (F:=F) (by omega) with⟨hk,q',hb1⟩ | ⟨t,s1,b1,b2,q0,hk,hs1,hl1,hb0⟩
  ·refine⟨_,DO hb1,.inr ⟨?_,q',rfl⟩⟩;rw[D2,hk]
  ·have hv:=(ih s1.length (by omega)).1 F P s1 (x16++⟨6,0,[],k-1⟩::(D++[⟨4,0,t,0⟩])) g rfl hs1 (by omega) (by omega) (by simp;omega);rcases XA (r:=(t,true,q0)) (b1:=b1) (b2:=b2) hS hs1 hk1 (by omega) (by omega) hv with⟨q',hb1,hf⟩ | ⟨f,s2,q1,q2,h⟩
   ·refine⟨_,DO (hb0.trans hb1),?_⟩;rcases hf with hf | ⟨f,s2,hf,hno⟩
    ·refine .inr ⟨?_,q',rfl⟩;rw[D2,hk];simp only[hf]
    ·exact Wf.join hk hf ((EK true P).1 _ _ _ hf).2 (.inr (.inr ⟨hno,q',rfl⟩))
   ·obtain⟨l1,ho⟩:=(EK true P).1 _ _ _ q1;have l2:=(I7 true P).1 _ _ _ q1;rcases h with⟨s3,e,hb1⟩ | ⟨s3,e,hb1⟩
    ·subst e;exact⟨_,DO (hb0.trans hb1),Wf.join hk q1 ho (.inl ⟨s3,rfl,q2.tail,rfl⟩)⟩
    ·subst e;simp only[AcE] at l1 l2;obtain⟨o,ho1,ho2⟩:=(ih s3.length (by omega)).2.2 F P L s3 t x16 (D++([⟨4,0,t,0⟩]++f.flat.map CM)) (k+1) (g||f.flat.any BT) rfl q2.tail (by omega) (by omega) (by omega) (by rw[AcF,AcF,AcR,Ade];omega) (by omega) (by omega);rw[show k+1-1=k from by omega] at ho1;rw[show decide (1<k+1)=true from AcC (by omega)] at ho2;exact⟨o,ID (hb0.trans hb1) ho1,Wf.join hk q1 ho (.inr (.inl ⟨s3,rfl,ho2⟩))⟩
theorem SK {S:Af}(hS:S.length≤100000){F P:Nat}(hF:2*S.length+6≤F)(hP:2*S.length+2≤P):VOk F P S S [] false:=
 (XG hS S.length).1 F P S [] false rfl ⟨[],rfl⟩ (by omega) hP (by simp)
theorem ZC:∀(d:Af),d.all BX=true→C5 0 d<10 ^ d.length:=by
 have key:∀(d:Af) (a m:Nat),d.all BX=true→a<10 ^ m→C5 a d<10 ^ (m+d.length):=by
  intro d
  induction d with
  | nil=>intro a m _ h;simpa[C5] using h
  | cons c d ih=>
   intro a m hd h;simp only[Ado,AcG] at hd;have hc:48≤c.toNat∧c.toNat≤57:=by have:=hd.1;simp[BX] at this;omega
   have:=ih (10*a+(c.toNat-48)) (m+1) hd.2 (by rw[Nat.pow_succ];omega);rw[AcE,show m+(d.length+1)=m+1+d.length from by omega];exact this
 intro d hd;have:=key d 0 0 hd (by decide);simpa using this
theorem ZA {d:Af}(hd:d.all BX=true)(hl:d.length≤18):0≤Po d∧Po d<1000000000000000000:=by
 have h1:Po d=(C5 0 d:Int):=JI d 0 hd;have h2:=ZC d hd;have h3:10 ^ d.length≤10 ^ 18:=Nat.pow_le_pow_right (by decide) hl;have:(10:Nat) ^ 18=1000000000000000000:=by decide
 omega
def hd (m:Bool)(N:Int):Aa:=⟨bif m then 6 else 5,0,[],N⟩
theorem Rl:∀(n:Nat) (s:Af),s.length=n→CY true s=match CY false s with
  | none=>none
  | some (t,u)=>bif t.all K6 then some (t,u) else none:=by
 intro n
 induction n using Nat.strongRecOn with
 | ind n ih=>
  intro s hn
  cases s with
  | nil=>rfl
  | cons c r=>
   simp only[AcE] at hn;rw[DS,DS]
   cases h1:decide (c=34) with
   | true=>rfl
   | false=>
    simp only[AcD,AcQ,Adb]
    cases h3:decide (c=92) with
    | true=>
     have hc:K6 c=true:=by simp only[Ac9] at h3;subst h3;rfl
     rw[hc]
     cases r with
     | nil=>rfl
     | cons d r'=>
      simp only[AcP,AcD,AcH];simp only[AcE] at hn
      cases h4:(decide (d=34)||decide (d=92)) with
      | false=>rfl
      | true=>
       have hd:K6 d=true:=by
        simp only[Adu,Ac9] at h4;rcases h4 with e | e<;>subst e<;>rfl
       simp only[AcH];rw[ih r'.length (by omega) r' rfl]
       cases CY false r' with
       | none=>rfl
       | some q=>
        obtain⟨t,u⟩:=q;simp only[Ado,hd,AcQ]
        cases t.all K6<;>rfl
    | false=>
     simp only[AcD];rw[ih r.length (by omega) r rfl]
     cases hc:K6 c with
     | false=>
      simp only[Ada,AcH]
      cases CY false r with
      | none=>rfl
      | some q=>obtain⟨t,u⟩:=q;simp[hc]
     | true=>
      simp only[AcP,AcD]
      cases CY false r with
      | none=>rfl
      | some q=>
       obtain⟨t,u⟩:=q;simp only[Ado,hc,AcQ]
       cases t.all K6<;>rfl
theorem XM (m:Bool)(last:Option Af)(s:Af):EP true m last s=match EP false m none s with
  | none=>none
  | some (k,u)=>bif B1 m last k then some (k,u) else none:=by
 cases m with
 | false=>rfl
 | true=>
  cases s with
  | nil=>rfl
  | cons c r=>
   unfold EP;simp only[AcH,AcQ,Adb,AcD]
   cases hc:decide (c=34) with
   | false=>rfl
   | true=>
    simp only[AcH];rw[Rl _ r rfl]
    cases CY false r with
    | none=>rfl
    | some q=>
     obtain⟨t,u⟩:=q;simp only
     cases ht:t.all K6 with
     | false=>
      have hk:B1 true last (some t)=false:=by simp[B1,ht]
      simp only[AcD]
      cases u with
      | nil=>rfl
      | cons d u'=>
       simp only
       cases decide (d=58) with
       | false=>rfl
       | true=>simp only[AcH,hk];rfl
     | true=>
      simp only[AcH]
      cases u with
      | nil=>cases B1 true last (some t)<;>rfl
      | cons d u'=>
       simp only
       cases decide (d=58) with
       | false=>cases B1 true last (some t)<;>rfl
       | true=>cases hk:B1 true last (some t)<;>simp[hk]
def plr (c:Aa):Bool:=bif decide (c.fKind=4) then decide (c.fInt=0)&&decide (c.fN=0) else pl c
def Fo.rw:Bool→Fo→Bool
 | _,.nil=>true
 | m,.cell k c r=>(k.isSome ==m)&&plr c&&!decide (0<c.fN)&&r.rw m
 | m,.node k c kids r=>(k.isSome ==m)&&plr c&&decide (0<c.fN)&&decide (c.fN=kids.cnt)&&kids.rw (decide (c.fKind=6))&&r.rw m
theorem Xc {f:Fo}(h:f.one=true)(m:Bool)(last key:Option Af)(r:Fo):(f.put key r).wf m last=(B1 m last key&&f.wf false none&&r.wf m key):=by
 cases f with
 | nil=>cases h
 | cell k c r'=>
  cases k with
  | some _=>cases h
  | none=>cases r' with
   | nil=>simp[Fo.put,Fo.wf,B1,Bool.and_assoc]
   | cell _ _ _=>cases h
   | node _ _ _ _=>cases h
 | node k c kids r'=>
  cases k with
  | some _=>cases h
  | none=>cases r' with
   | nil=>simp[Fo.put,Fo.wf,B1,Bool.and_assoc]
   | cell _ _ _=>cases h
   | node _ _ _ _=>cases h
theorem Xd {f:Fo}(h:f.one=true)(m:Bool)(key:Option Af)(r:Fo):(f.put key r).rw m=((key.isSome ==m)&&f.rw false&&r.rw m):=by
 cases f with
 | nil=>cases h
 | cell k c r'=>
  cases k with
  | some _=>cases h
  | none=>cases r' with
   | nil=>simp[Fo.put,Fo.rw,Bool.and_assoc]
   | cell _ _ _=>cases h
   | node _ _ _ _=>cases h
 | node k c kids r'=>
  cases k with
  | some _=>cases h
  | none=>cases r' with
   | nil=>simp[Fo.put,Fo.rw,Bool.and_assoc]
   | cell _ _ _=>cases h
   | node _ _ _ _=>cases h
theorem TY (m:Bool)(g:Fo):(nd m g).wf false none=g.wf m none∧(nd m g).rw false=g.rw m:=by
 unfold nd
 cases hd:decide (g.cnt=0) with
 | true=>
  simp only[Ac9] at hd;rw[Jh hd]
  cases m<;>exact⟨rfl,rfl⟩
 | false=>
  simp only[AcA] at hd;have h1:decide ((0:Int)<(g.cnt:Int))=true:=AcC (by omega);have h2:decide ((0:Int)≤(g.cnt:Int))=true:=AcC (by omega)
  cases m<;>simp[Fo.wf,Fo.rw,B1,pl,plr]<;>omega
theorem V5 {m:Bool}{last k:Option Af}{s u:Af}{b:Bool}(h:EP b m last s=some (k,u)):(k.isSome ==m)=true:=by
 unfold EP at h
 cases m with
 | false=>cases h;rfl
 | true=>
  simp only[AcH] at h
  cases s with
  | nil=>cases h
  | cons c r=>
   simp only at h
   cases h1:decide (c=34) with
   | false=>rw[h1] at h;cases h
   | true=>
    rw[h1] at h;simp only[AcH] at h
    cases h2:CY b r with
    | none=>rw[h2] at h;cases h
    | some q=>
     obtain⟨t,w⟩:=q;rw[h2] at h;simp only at h
     cases h3:(b&&!B1 true last (some t)) with
     | true=>rw[h3] at h;cases h
     | false=>
      rw[h3] at h;simp only[AcD] at h
      cases w with
      | nil=>cases h
      | cons d w'=>
       simp only at h
       cases h4:decide (d=58) with
       | false=>rw[h4] at h;cases h
       | true=>rw[h4] at h;cases h;rfl
theorem Qz:∀F:Nat,(∀s,G2 true F s=(match G2 false F s with
   | none=>none
   | some (f,u)=>bif f.wf false none then some (f,u) else none)∧∀f u,G2 false F s=some (f,u)→f.rw false=true)∧
  (∀m last last' s,DM true F m last s=(match DM false F m last' s with
   | none=>none
   | some (g,u)=>bif g.wf m last then some (g,u) else none)∧∀g u,DM false F m last' s=some (g,u)→g.rw m=true)
 | 0=>⟨λs=>⟨by rw[G2.eq_def,G2.eq_def],(λf u h=>by rw[G2.eq_def] at h;cases h)⟩,λm last last' s=>⟨by rw[DM.eq_def,DM.eq_def],(λg u h=>by rw[DM.eq_def] at h;cases h)⟩⟩
 | F+1=>by
  obtain⟨ih1,ih2⟩:=Qz F;have lfw:∀k i t,pl ⟨k,i,t,0⟩=true→(lf k i t).wf false none=true:=λk i t h=>by simp[lf,Fo.wf,B1,h]
  have lfr:∀k i t,plr ⟨k,i,t,0⟩=true→(lf k i t).rw false=true:=λk i t h=>by simp[lf,Fo.rw,h]
  constructor
  ·intro s;rw[DL,DL]
   cases h1:pre [110,117,108,108] s with
   | some r=>exact⟨rfl,λf u h=>by cases h;rfl⟩
   | none=>
   simp only
   cases h2:pre [116,114,117,101] s with
   | some r=>exact⟨rfl,λf u h=>by cases h;rfl⟩
   | none=>
   simp only
   cases h3:pre [102,97,108,115,101] s with
   | some r=>exact⟨rfl,λf u h=>by cases h;rfl⟩
   | none=>
   simp only
   cases s with
   | nil=>exact⟨rfl,λf u h=>by cases h⟩
   | cons c r=>
   simp only
   cases h4:decide (c=34) with
   | true=>
    simp only[AcH];rw[Rl _ r rfl]
    cases hq:CY false r with
    | none=>exact⟨rfl,λf u h=>by cases h⟩
    | some q=>
     obtain⟨t,u⟩:=q;simp only;have e:(lf 4 0 t).wf false none=t.all K6:=by simp[lf,Fo.wf,B1,pl]
     rw[e];refine⟨by cases t.all K6<;>rfl,λf u' h=>by cases h;exact lfr 4 0 t rfl⟩
   | false=>
   simp only[AcD]
   cases h5:(decide (c=91)||decide (c=123)) with
   | false=>
    simp only[AcD]
    cases hi:IG (c::r) with
    | none=>exact⟨rfl,λf u h=>by cases h⟩
    | some q=>
     obtain⟨f,u⟩:=q;have hf:f.wf false none=true∧f.rw false=true:=by
      unfold IG at hi;simp only at hi
      cases hc:EZ (decide ((c::r).head? =some 45)) (C7 (bif decide ((c::r).head? =some 45) then(c::r).tail else c::r)).1 with
      | false=>rw[hc] at hi;cases hi
      | true=>rw[hc] at hi;cases hi;exact⟨rfl,rfl⟩
     refine⟨by simp only[hf.1];rfl,λf' u' h=>by cases h;exact hf.2⟩
   | true=>
   simp only[AcH]
   cases r with
   | nil=>exact⟨rfl,λf u h=>by cases h⟩
   | cons d r'=>
   simp only
   cases h6:decide (d=BW (decide (c=123))) with
   | true=>
    simp only[AcH,(TY _ _).1,Fo.wf];exact⟨trivial,λf u h=>by cases h;rw[(TY _ _).2];rfl⟩
   | false=>
   simp only[AcD];obtain⟨e1,e2⟩:=ih2 (decide (c=123)) none none (d::r');rw[e1]
   cases hq:DM false F (decide (c=123)) none (d::r') with
   | none=>exact⟨rfl,λf u h=>by cases h⟩
   | some q=>
    obtain⟨g,u⟩:=q;simp only[(TY _ _).1];refine⟨by cases g.wf (decide (c=123)) none<;>rfl,λf u' h=>by cases h;rw[(TY _ _).2];exact e2 g u hq⟩
  ·intro m last last' s;rw[D2,D2,XM m last s];have hkl:EP false m last' s=EP false m none s:=by
    cases m with
    | false=>rfl
    | true=>unfold EP;simp only[Adb]
   rw[hkl]
   cases hk:EP false m none s with
   | none=>exact⟨rfl,λf u h=>by cases h⟩
   | some q=>
   obtain⟨key,s1⟩:=q;have hks:=V5 hk;simp only;obtain⟨e1,e2⟩:=ih1 s1
   cases hf:G2 false F s1 with
   | none=>
    rw[hf] at e1;refine⟨?_,λf u h=>by cases h⟩
    cases B1 m last key with
    | false=>rfl
    | true=>simp only[AcH,e1]
   | some q=>
   obtain⟨f,s2⟩:=q;have ho:=((EK false F).1 _ _ _ hf).2;have hfr:=e2 f s2 hf;rw[hf] at e1;simp only at e1;simp only
   cases s2 with
   | nil=>
    refine⟨?_,λf u h=>by cases h⟩
    cases B1 m last key with
    | false=>rfl
    | true=>simp only[AcH,e1];cases f.wf false none<;>rfl
   | cons c s3=>
   simp only
   cases h3:decide (c=BW m) with
   | true=>
    simp only[AcH,Xc ho,Fo.wf,AcZ];refine⟨?_,λg u h=>by cases h;rw[Xd ho,hks,hfr];rfl⟩
    cases B1 m last key with
    | false=>rfl
    | true=>simp only[AcH,e1,AcQ];cases f.wf false none<;>simp[h3]
   | false=>
   simp only[AcD]
   cases h4:decide (c=44) with
   | false=>
    refine⟨?_,λg u h=>by cases h⟩
    cases B1 m last key with
    | false=>rfl
    | true=>simp only[AcH,e1];cases f.wf false none<;>simp[h3,h4]
   | true=>
   simp only[AcH];obtain⟨e3,e4⟩:=ih2 m key key s3
   cases hq:DM false F m key s3 with
   | none=>
    rw[hq] at e3;refine⟨?_,λg u h=>by cases h⟩
    cases B1 m last key with
    | false=>rfl
    | true=>simp only[AcH,e1];cases f.wf false none<;>simp[h3,h4,e3]
   | some q=>
    obtain⟨g,u⟩:=q;rw[hq] at e3;simp only at e3;simp only[Xc ho];refine⟨?_,λg' u' h=>by cases h;rw[Xd ho,hks,hfr,e4 g u hq];rfl⟩
    cases B1 m last key with
    | false=>rfl
    | true=>
     simp only[AcH,e1,AcQ]
     cases f.wf false none with
     | false=>rfl
     | true=>
      simp only[AcH,h3,h4,AcD,e3,AcQ]
      cases g.wf m key<;>rfl
def JQ (K:Nat)(c:Aa):Prop:=c.fStr.length≤K∧B9 .i64 c.fInt=true∧c.fN≤(K:Int)
theorem JQ.mono {K K':Nat}{c:Aa}(h:JQ K c)(hk:K≤K'):JQ K' c:=⟨by have:=h.1;omega,h.2.1,by have:=h.2.2;omega⟩
theorem Pv (b:Bool):∀(n:Nat) (s t u:Af),s.length=n→CY b s=some (t,u)→t.length≤s.length:=by
 intro n
 induction n using Nat.strongRecOn with
 | ind n ih=>
  intro s t u hn h
  cases s with
  | nil=>cases h
  | cons c r=>
   simp only[AcE] at hn ⊢;rw[DS] at h
   cases h1:decide (c=34) with
   | true=>rw[h1] at h;cases h;simp
   | false=>
    rw[h1] at h;simp only[AcD] at h
    cases h2:(b&&!K6 c) with
    | true=>rw[h2] at h;cases h
    | false=>
     rw[h2] at h;simp only[AcD] at h
     cases h3:decide (c=92) with
     | true=>
      rw[h3] at h
      cases r with
      | nil=>cases h
      | cons d r'=>
       simp only[AcH] at h
       cases h4:(decide (d=34)||decide (d=92)) with
       | false=>rw[h4] at h;cases h
       | true=>
        rw[h4] at h;simp only[AcH] at h
        cases h5:CY b r' with
        | none=>rw[h5] at h;cases h
        | some q=>
         obtain⟨t',u'⟩:=q;rw[h5] at h;cases h;simp only[AcE] at hn ⊢;have:=ih r'.length (by omega) r' t' u rfl h5;omega
     | false=>
      rw[h3] at h;simp only[AcD] at h
      cases h5:CY b r with
      | none=>rw[h5] at h;cases h
      | some q=>
       obtain⟨t',u'⟩:=q;rw[h5] at h;cases h;have:=ih r.length (by omega) r t' u rfl h5;simp only[AcE];omega
theorem V4 {b m:Bool}{last:Option Af}{s u:Af}{t:Af}(h:EP b m last s=some (some t,u)):t.length≤s.length:=by
 unfold EP at h
 cases m with
 | false=>cases h
 | true=>
  simp only[AcH] at h
  cases s with
  | nil=>cases h
  | cons c r=>
   simp only at h
   cases h1:decide (c=34) with
   | false=>rw[h1] at h;cases h
   | true=>
    rw[h1] at h;simp only[AcH] at h
    cases h2:CY b r with
    | none=>rw[h2] at h;cases h
    | some q=>
     obtain⟨k,w⟩:=q;have:=Pv b _ r k w rfl h2;rw[h2] at h;simp only at h
     cases h3:(b&&!B1 true last (some k)) with
     | true=>rw[h3] at h;cases h
     | false=>
      rw[h3] at h;simp only[AcD] at h
      cases w with
      | nil=>cases h
      | cons d w'=>
       simp only at h
       cases h4:decide (d=58) with
       | false=>rw[h4] at h;cases h
       | true=>rw[h4] at h;cases h;simp only[AcE];omega
theorem XY (neg:Bool){d:Af}(hd:d.all BX=true):B9 .i64 (K7 neg d)=true:=by
 unfold K7
 cases ha:decide (18<d.length) with
 | true=>
  cases neg with
  | true=>exact(by decide:B9 .i64 (-2000000000000)=true)
  | false=>exact(by decide:B9 .i64 2000000000000=true)
 | false=>
  simp only[AcA] at ha;have hb:=ZA hd (by omega)
  cases neg with
  | true=>exact HE (by simp only[AcD,AcH];omega) (by simp only[AcD,AcH];omega)
  | false=>exact HE (by simp only[AcD];omega) (by simp only[AcD];omega)
theorem X4 {m:Bool}{g:Fo}{K:Nat}(hg:∀c∈g.flat,JQ K c)(hl:g.flat.length≤K):∀c∈(nd m g).flat,JQ K c:=λc hc=>by
 rw[Kq _ _ Jh] at hc;have hcf:=Cf g;rcases List.mem_cons.1 hc with rfl | hc
 ·exact⟨Adt _,(by decide:B9 .i64 0=true),by show(g.cnt:Int)≤K;omega⟩
 ·exact hg c hc
theorem TI {f r:Fo}{K:Nat}{key:Option Af}(ho:f.one=true)(hf:∀c∈f.flat,JQ K c)(hr:∀c∈r.flat,JQ K c)(hk:∀t,key=some t→t.length≤K):∀c∈(f.put key r).flat,JQ K c:=λc hc=>by
 rw[Gh ho] at hc;rcases List.mem_append.1 hc with h | h
 ·cases key with
  | none=>cases h
  | some t=>
   have:c=⟨4,0,t,0⟩:=by simpa[Bu] using h
   subst this;exact⟨hk t rfl,(by decide:B9 .i64 0=true),by show(0:Int)≤K;omega⟩
 ·rcases List.mem_append.1 h with h | h
  ·exact hf c h
  ·exact hr c h
theorem Mz (b:Bool)(K:Nat):∀F:Nat,(∀s f u,s.length≤K→G2 b F s=some (f,u)→∀c∈f.flat,JQ K c)∧(∀m last s g u,s.length≤K→DM b F m last s=some (g,u)→∀c∈g.flat,JQ K c)
 | 0=>⟨(λs f u _ h=>by rw[G2.eq_def] at h;cases h),(λm last s g u _ h=>by rw[DM.eq_def] at h;cases h)⟩
 | F+1=>by
  obtain⟨ih1,ih2⟩:=Mz b K F;have lfc:∀k i t,t.length≤K→B9 .i64 i=true→∀c∈(lf k i t).flat,JQ K c:=λk i t ht hi c hc=>by
   have:c=⟨k,i,t,0⟩:=by simpa[lf,Fo.flat,Bu] using hc
   subst this;exact⟨ht,hi,by show(0:Int)≤K;omega⟩
  constructor
  ·intro s f u hs h;rw[DL] at h
   cases h1:pre [110,117,108,108] s with
   | some r=>rw[h1] at h;cases h;exact lfc _ _ _ (Adt _) (by decide)
   | none=>
   rw[h1] at h;simp only at h
   cases h2:pre [116,114,117,101] s with
   | some r=>rw[h2] at h;cases h;exact lfc _ _ _ (Adt _) (by decide)
   | none=>
   rw[h2] at h;simp only at h
   cases h3:pre [102,97,108,115,101] s with
   | some r=>rw[h3] at h;cases h;exact lfc _ _ _ (Adt _) (by decide)
   | none=>
   rw[h3] at h;simp only at h
   cases s with
   | nil=>cases h
   | cons c r=>
   simp only[AcE] at hs;simp only at h
   cases h4:decide (c=34) with
   | true=>
    rw[h4] at h;simp only[AcH] at h
    cases h5:CY b r with
    | none=>rw[h5] at h;cases h
    | some q=>
     obtain⟨t,w⟩:=q;rw[h5] at h;cases h;have:=Pv b _ r t u rfl h5;exact lfc _ _ _ (by omega) (by decide)
   | false=>
   rw[h4] at h;simp only[AcD] at h
   cases h5:(decide (c=91)||decide (c=123)) with
   | false=>
    rw[h5] at h;simp only[AcD] at h;unfold IG at h;simp only at h
    cases hc:EZ (decide ((c::r).head? =some 45)) (C7 (bif decide ((c::r).head? =some 45) then(c::r).tail else c::r)).1 with
    | false=>rw[hc] at h;cases h
    | true=>
     rw[hc] at h;cases h;exact lfc 3 _ [] (Adt _) (XY _ (Mc _))
   | true=>
   rw[h5] at h;simp only[AcH] at h
   cases r with
   | nil=>cases h
   | cons d r'=>
   simp only at h
   cases h6:decide (d=BW (decide (c=123))) with
   | true=>rw[h6] at h;cases h;exact X4 (λc hc=>by cases hc) (Adt _)
   | false=>
   rw[h6] at h;simp only[AcD] at h
   cases h7:DM b F (decide (c=123)) none (d::r') with
   | none=>rw[h7] at h;cases h
   | some q=>
    obtain⟨g,w⟩:=q;rw[h7] at h;cases h;have:=(I7 b F).2 _ _ _ _ _ h7;exact X4 (ih2 _ _ _ _ _ (by omega) h7) (by omega)
  ·intro m last s g u hs h;rw[D2] at h
   cases h1:EP b m last s with
   | none=>rw[h1] at h;cases h
   | some q=>
   obtain⟨key,s1⟩:=q;have l1:=Sb h1;have hkt:∀t,key=some t→t.length≤K:=λt e=>by subst e;have:=V4 h1;omega
   rw[h1] at h;simp only at h
   cases h2:G2 b F s1 with
   | none=>rw[h2] at h;cases h
   | some q=>
   obtain⟨f,s2⟩:=q;obtain⟨l2,o2⟩:=(EK b F).1 _ _ _ h2;have hf:=ih1 _ _ _ (by omega) h2;rw[h2] at h;simp only at h
   cases s2 with
   | nil=>cases h
   | cons c s3=>
   simp only[AcE] at l2;simp only at h
   cases h3:decide (c=BW m) with
   | true=>rw[h3] at h;cases h;exact TI o2 hf (λc hc=>by cases hc) hkt
   | false=>
   rw[h3] at h;simp only[AcD] at h
   cases h4:decide (c=44) with
   | false=>rw[h4] at h;cases h
   | true=>
   rw[h4] at h;simp only[AcH] at h
   cases h5:DM b F m key s3 with
   | none=>rw[h5] at h;cases h
   | some q=>
    obtain⟨g',w⟩:=q;rw[h5] at h;cases h;exact TI o2 hf (ih2 _ _ _ _ _ (by omega) h5) hkt
theorem Yp:∀l:List Aa,l.any BT=false→l.map CM=l
 | [],_=>rfl
 | c::l,h=>by
  simp only[List.any_cons,Adf] at h;simp only[Adx,Yp l h.2,CM,h.1,AcD]
def ME (s:Af):Option (List Aa×Int):=
 bif decide (4000<s.length) then some ([],3) else match G2 true 10000 s with
  | some (f,[])=>some (bif decide (ER f=0) then(f.flat,0) else([],ER f))
  | _=>some ([],1)
theorem Ph (s:Af):At.mk s 0 [] false=D3 s s [] false:=by simp[D3]
theorem Yw {f:Fo}(h:f.flat.any BT=true):ER f=2:=by unfold ER;rw[h];rfl
theorem Rj {F:Nat}(hF:20000≤F){s:Af}:Lv F s=ME s:=by
 unfold Lv ME;have a1:decide ((4000:Int)<(s.length:Int))=decide (4000<s.length):=by rw[AcT];simp;omega
 rw[a1]
 cases h4:decide (4000<s.length) with
 | true=>rfl
 | false=>
  simp only[AcA] at h4;rw[A0 rfl,Ph];simp only[AcD];rcases SK (S:=s) (by omega) (F:=F) (P:=10000) (by omega) (by omega) with⟨f,w,q1,q2,q3⟩ | ⟨q1,q',q2⟩
  ·rw[q3,q1,AI rfl,A0 (p:=!true) rfl];obtain⟨_,hone⟩:=(EK true 10000).1 _ _ _ q1;have hwl:=q2.len;have hcells:=(Mz true 4000 10000).1 _ _ _ (by omega) q1;have hfl:=(I7 true 10000).1 _ _ _ q1;unfold Gz;have hat:(true,D3 s w ([]++f.flat.map CM) (false||f.flat.any BT)).2.fAt=(s.length:Int)-w.length:=rfl;rw[hat]
   cases w with
   | cons c w'=>
    have hd:decide ((s.length:Int)-(c::w').length=(s.length:Int))=false:=AcB (by simp only[AcE];omega);rw[hd];rfl
   | nil=>
    have hd:decide ((s.length:Int)-([]:Af).length=(s.length:Int))=true:=AcC (by simp);rw[hd,A0 (p:=!true) rfl]
    change _=some (bif decide (ER f=0) then(f.flat,0) else([],ER f))
    have hgr:(true,D3 s [] ([]++f.flat.map CM) (false||f.flat.any BT)).2.fGreat=f.flat.any BT:=rfl;have hce:(true,D3 s [] ([]++f.flat.map CM) (false||f.flat.any BT)).2.fCells=f.flat.map CM:=rfl;rw[hgr,hce]
    cases ho:f.flat.any BT with
    | true=>rw[Yw ho];rfl
    | false=>
     rw[A0 rfl,Yp _ ho];have hA:Hn 4000 f.flat:=⟨by decide,by omega,λc hc=>by obtain⟨c1,c2,c3⟩:=hcells c hc;exact⟨c1,c2,by omega⟩⟩
     have hwf:f.wf false none=true:=by
      have:=((Qz 10000).1 s).1;rw[q1] at this
      cases hp:G2 false 10000 s with
      | none=>rw[hp] at this;cases this
      | some q=>
       obtain⟨f',u'⟩:=q;rw[hp] at this;simp only at this
       cases hw:f'.wf false none with
       | false=>rw[hw] at this;cases this
       | true=>rw[hw] at this;cases this;exact hw
     have hev:GO f.flat=ER f:=by unfold GO;rw[NR hone hwf]
     unfold Lx;rw[Iu hA (by decide) (by omega),AI rfl,hev]
     cases decide (ER f=0)<;>rfl
  ·rw[q2,q1];rfl
theorem Km {x:Nat}(h:x<10):(UInt8.ofNat (48+x)).toNat=48+x:=by simp;omega
theorem PN {x:Nat}(h:x<10):BX (UInt8.ofNat (48+x))=true:=by
 unfold BX;rw[Km h];simp;omega
theorem PB (d:Af)(c:UInt8)(a:Nat):C5 a (d++[c])=10*C5 a d+(c.toNat-48):=by simp[C5]
theorem QG {u:Nat}(h:u<10):Lib.decDigits u=[UInt8.ofNat (48+u)]:=by rw[Lib.decDigits,dif_pos h]
theorem Y6 {u:Nat}(h : ¬ u<10):Lib.decDigits u=Lib.decDigits (u/10)++[UInt8.ofNat (48+u % 10)]:=by
 rw[Lib.decDigits,dif_neg h]
theorem Qa:∀u:Nat,(Lib.decDigits u).all BX=true∧Lib.decDigits u≠[]∧C5 0 (Lib.decDigits u)=u∧((Lib.decDigits u).head? =some 48→u=0):=by
 intro u
 induction u using Nat.strongRecOn with
 | ind u ih=>
  by_cases h:u<10
  ·rw[QG h];refine⟨by simp only[Ado,List.all_nil,PN h,Bool.and_self],by simp,?_,?_⟩
   ·show 10*0+((UInt8.ofNat (48+u)).toNat-48)=u;rw[Km h];omega
   ·intro e;simp only[List.head?_cons,Option.some.injEq] at e;have:=congrArg UInt8.toNat e;rw[Km h] at this;have ha:(48:UInt8).toNat=48:=rfl;omega
  ·obtain⟨a,b,c,d⟩:=ih (u/10) (by omega);rw[Y6 h];refine⟨by simp only[List.all_append,a,Ado,List.all_nil,PN (show u % 10<10 by omega),Bool.and_self],by simp,?_,?_⟩
   ·rw[PB,c,Km (by omega)];omega
   ·intro e
    cases hd:Lib.decDigits (u/10) with
    | nil=>exact absurd hd b
    | cons x r=>
     rw[hd] at e;have:=d (by rw[hd];simpa using e);omega
theorem OS:∀(n:Nat) (d:Af),d.length=n→d.all BX=true→d≠[]→(d.head? =some 48→d.length=1)→Lib.decDigits (C5 0 d)=d:=by
 intro n
 induction n with
 | zero=>intro d hn _ hne;exact absurd (Adc hn) hne
 | succ n ih=>
  intro d hn ha hne hh;obtain⟨d',c,rfl⟩:∃d' c,d=d'++[c]:=⟨d.dropLast,d.getLast hne,(List.dropLast_concat_getLast hne).symm⟩
  rw[List.all_append] at ha;simp only[Ado,List.all_nil,AcZ,AcG] at ha;have hc:48≤c.toNat∧c.toNat≤57:=by have:=ha.2;simp[BX] at this;omega
  have ec:UInt8.ofNat (48+(c.toNat-48))=c:=by rw[show 48+(c.toNat-48)=c.toNat from by omega];simp
  rw[PB]
  cases hd:d' with
  | nil=>
   show Lib.decDigits (10*0+(c.toNat-48))=[c];rw[QG (by omega),show 48+(10*0+(c.toNat-48))=48+(c.toNat-48) from by omega,ec]
  | cons x r=>
   rw[← hd];have hne':d'≠[]:=by rw[hd];simp
   have h1:d'.head?≠some 48:=λe=>by
    have:=hh (by rw[hd] at e ⊢;simpa using e);rw[hd] at this;simp at this
   have ih':=ih d' (by simp at hn;omega) ha.1 hne' (λe=>absurd e h1);have hpos:1≤C5 0 d':=by
    rw[hd];show 1≤C5 (10*0+(x.toNat-48)) r;have hx:48≤x.toNat∧x.toNat≤57:=by have:=ha.1;rw[hd] at this;simp[BX] at this;omega
    have hx2:x.toNat≠48:=λe=>h1 (by rw[hd];simp;rw[← Ad8];exact e);exact Nat.le_trans (by omega) (I9 r _)
   rw[Y6 (by omega),show(10*C5 0 d'+(c.toNat-48))/10=C5 0 d' from by omega,show(10*C5 0 d'+(c.toNat-48)) % 10=c.toNat-48 from by omega,ih',ec]
theorem OR:∀(d w:Af),d.all BX=true→(∀c r,w=c::r→BX c=false)→C7 (d++w)=(d,w)
 | [],w,_,hw=>by
  cases w with
  | nil=>rfl
  | cons c r=>simp[C7,hw c r rfl]
 | c::d,w,ha,hw=>by
  simp only[Ado,AcG] at ha;simp[C7,ha.1,OR d w ha.2 hw]
theorem VE {n:Int}{w:Af}(h0 : -1000000000000≤n)(h1:n≤1000000000000)(hw:∀c r,w=c::r→BX c=false):IG (Lib.itoa n++w)=some (.cell none ⟨3,n,[],0⟩ .nil,w):=by
 have key:∀(u:Nat) (neg:Bool),u≤1000000000000→(neg=true→1≤u)→IG (GV neg (Lib.decDigits u)++w)=some (.cell none ⟨3,bif neg then -(u:Int) else u,[],0⟩ .nil,w):=λu neg hu hneg=>by
  obtain⟨a,b,c,d⟩:=Qa u;have hl:(Lib.decDigits u).length≤18:=by
   cases hdd:Lib.decDigits u with
   | nil=>simp
   | cons x r=>
    by_cases ha:(x::r).length≤18
    ·exact ha
    ·exfalso;have hx:48≤x.toNat∧x.toNat≤57:=by rw[hdd] at a;simp[BX] at a;omega
     have hr:18≤r.length:=by simp only[AcE] at ha;omega
     by_cases hb:x=48
     ·have:=d (by rw[hdd,hb];rfl);subst this;have e0:Lib.decDigits 0=[UInt8.ofNat 48]:=QG (by omega);rw[e0] at hdd;cases hdd;simp at hr
     ·have hx2:x.toNat≠48:=λe=>hb (by rw[← Ad8];exact e);rw[hdd] at c;have c':C5 (10*0+(x.toNat-48)) r=u:=c;have:=RM r (10*0+(x.toNat-48)) (by omega);have h2:10 ^ 18≤10 ^ r.length:=Nat.pow_le_pow_right (by omega) hr;omega
  have hhead:∀(x:UInt8) (r:Af),Lib.decDigits u=x::r→x≠45:=λx r e=>by
   rw[e] at a;intro e2;subst e2;simp[BX] at a
  have hcan:EZ neg (Lib.decDigits u)=true:=by
   unfold EZ;have e1:decide (Lib.decDigits u=[])=false:=AcB b;rw[e1]
   by_cases hh:(Lib.decDigits u).head? =some 48
   ·have hu0:=d hh;subst hu0;have:neg=false:=by cases neg with
     | false=>rfl
     | true=>have:=hneg rfl;omega
    subst this;rw[QG (by omega)];rfl
   ·rw[AcB hh];rfl
  have hv:K7 neg (Lib.decDigits u)=bif neg then -(u:Int) else u:=by
   have hn:Po (Lib.decDigits u)=(u:Int):=by
    have:=JI (Lib.decDigits u) 0 a;rw[c] at this;exact this
   unfold K7;rw[AcB (by omega),hn];rfl
  unfold IG GV
  cases neg with
  | true=>
   have e1:decide ((45::(Lib.decDigits u++w)).head? =some 45)=true:=rfl;simp only[AcH,Ads,e1,List.tail_cons,OR _ _ a hw,hcan,hv]
  | false=>
   have e1:decide ((((bif false then 45::Lib.decDigits u else Lib.decDigits u)++w).head?)=some 45)=false:=by
    cases hdd:Lib.decDigits u with
    | nil=>exact absurd hdd b
    | cons x r=>simp[hhead x r hdd]
   simp only[AcD] at e1;simp only[AcD,e1,OR _ _ a hw,hcan,hv,AcH]
 by_cases hneg:n<0
 ·have e:Lib.itoa n=GV true (Lib.decDigits n.natAbs):=by
   have:=Lib.itoa_neg n.natAbs (by omega);rw[show -(n.natAbs:Int)=n from by omega] at this;rw[this];rfl
  have:=key n.natAbs true (by omega) (λ_=>by omega);rw[e,this];show some (Fo.cell none ⟨3,-(n.natAbs:Int),[],0⟩ .nil,w)=_;rw[show -(n.natAbs:Int)=n from by omega]
 ·have e:Lib.itoa n=GV false (Lib.decDigits n.natAbs):=by
   have:=Lib.itoa_nonneg n.natAbs;rw[show(n.natAbs:Int)=n from by omega] at this;rw[this];rfl
  have:=key n.natAbs false (by omega) (λh=>by cases h);rw[e,this];show some (Fo.cell none ⟨3,(n.natAbs:Int),[],0⟩ .nil,w)=_;rw[show(n.natAbs:Int)=n from by omega]
theorem VF {s u:Af}{f:Fo}(h:IG s=some (f,u)):∃n,f = .cell none ⟨3,n,[],0⟩ .nil∧(BT ⟨3,n,[],0⟩=false→s=Lib.itoa n++u):=by
 unfold IG at h;simp only at h;have key:∀(neg:Bool) (r:Af),s=(bif neg then 45::r else r)→EZ neg (C7 r).1=true→BT ⟨3,K7 neg (C7 r).1,[],0⟩=false→s=Lib.itoa (K7 neg (C7 r).1)++(C7 r).2:=λneg r es hcan hout=>by
  have hd:=Mc r;have he:=NE r;generalize(C7 r).1=d at *;generalize(C7 r).2=w at *;unfold EZ at hcan;simp only[AcG,AcV,AcA] at hcan;obtain⟨hne,hz⟩:=hcan;have hl:d.length≤18:=by
   by_cases ha:d.length≤18
   ·exact ha
   ·exfalso;unfold K7 at hout;rw[AcC (by omega)] at hout
    cases neg<;>simp[BT] at hout
  have hn:K7 neg d=bif neg then -(C5 0 d:Int) else(C5 0 d:Int):=by
   have:=JI d 0 hd;unfold K7;rw[AcB (by omega)];show(bif neg then -(Po d) else Po d)=_;rw[show Po d=(C5 0 d:Int) from this]
  have hback:=OS d.length d rfl hd hne (λe=>by
   cases h1:decide (1<d.length) with
   | true=>rw[AcC e,h1] at hz;simp at hz
   | false=>
    simp only[AcA] at h1
    cases d with
    | nil=>exact absurd rfl hne
    | cons x y=>simp only[AcE] at h1 ⊢;omega)
  rw[hn]
  cases neg with
  | true=>
   have hpos:1≤C5 0 d:=by
    cases d with
    | nil=>exact absurd rfl hne
    | cons x y=>
     have hx:48≤x.toNat∧x.toNat≤57:=by simp[BX] at hd;omega
     have hx2:x.toNat≠48:=λe=>by
      have:x=48:=by rw[← Ad8];exact e
      rw[this] at hz;simp at hz
     show 1≤C5 (10*0+(x.toNat-48)) y;exact Nat.le_trans (by omega) (I9 y _)
   have:=Lib.itoa_neg (C5 0 d) hpos;simp only[AcH] at es ⊢;rw[this,hback,es,Ads,← he]
  | false=>
   have:=Lib.itoa_nonneg (C5 0 d);simp only[AcD] at es ⊢;rw[this,hback,es,← he]
 cases hneg:decide (s.head? =some 45) with
 | true=>
  rw[hneg] at h;simp only[AcH] at h
  cases hcan:EZ true (C7 s.tail).1 with
  | false=>rw[hcan] at h;cases h
  | true=>
   rw[hcan] at h;simp only[AcH,Option.some.injEq,Prod.mk.injEq] at h;obtain⟨rfl,rfl⟩:=h;refine⟨_,rfl,λhout=>key true s.tail ?_ hcan hout⟩
   cases s with
   | nil=>simp at hneg
   | cons c r=>
    simp at hneg;subst hneg;rfl
 | false=>
  rw[hneg] at h;simp only[AcD] at h
  cases hcan:EZ false (C7 s).1 with
  | false=>rw[hcan] at h;cases h
  | true=>
   rw[hcan] at h;simp only[AcH,Option.some.injEq,Prod.mk.injEq] at h;obtain⟨rfl,rfl⟩:=h;exact⟨_,rfl,λhout=>key false s rfl hcan hout⟩
theorem Oc:∀(s w:Af),s.all K6=true→CY true (Em s++34::w)=some (s,w)
 | [],w,_=>by
  show CY true (34::w)=_;rw[DS];rfl
 | c::s,w,ha=>by
  simp only[Ado,AcG] at ha;have ih:=Oc s w ha.2;have e:Em (c::s)=(bif (decide (c=34)||decide (c=92)) then[92,c] else[c])++Em s:=by simp[Em]
  rw[e]
  cases hq:(decide (c=34)||decide (c=92)) with
  | true=>
   simp only[AcH,Ads,Adg];rw[DS,show decide ((92:UInt8)=34)=false from by decide,show(true&&!K6 92)=false from by decide,show decide ((92:UInt8)=92)=true from by decide];simp only[AcD,AcH,hq,ih]
  | false=>
   simp only[AcD,Ads,Adg];simp only[Adf] at hq;rw[DS,hq.1,ha.1,hq.2];simp only[AcP,Add,AcD,ih]
theorem Pw:∀(n:Nat) (s t u:Af),s.length=n→CY true s=some (t,u)→s=Em t++34::u:=by
 intro n
 induction n using Nat.strongRecOn with
 | ind n ih=>
  intro s t u hn h
  cases s with
  | nil=>cases h
  | cons c r=>
   simp only[AcE] at hn;rw[DS] at h
   cases h1:decide (c=34) with
   | true=>
    rw[h1] at h;cases h;rw[AcK h1];rfl
   | false=>
    rw[h1] at h;simp only[AcD] at h
    cases h2:(true&&!K6 c) with
    | true=>rw[h2] at h;cases h
    | false=>
     rw[h2] at h;simp only[AcD] at h
     cases h3:decide (c=92) with
     | true=>
      rw[h3] at h
      cases r with
      | nil=>cases h
      | cons d r'=>
       simp only[AcH] at h
       cases h4:(decide (d=34)||decide (d=92)) with
       | false=>rw[h4] at h;cases h
       | true=>
        rw[h4] at h;simp only[AcH] at h
        cases h5:CY true r' with
        | none=>rw[h5] at h;cases h
        | some q=>
         obtain⟨t',u'⟩:=q;rw[h5] at h;cases h;simp only[AcE] at hn;have:=ih r'.length (by omega) r' t' u rfl h5;rw[AcK h3,this];simp[Em,h4]
     | false=>
      rw[h3] at h;simp only[AcD] at h
      cases h5:CY true r with
      | none=>rw[h5] at h;cases h
      | some q=>
       obtain⟨t',u'⟩:=q;rw[h5] at h;cases h;have:=ih r.length (by omega) r t' u rfl h5;rw[this];simp only[AcA] at h1 h3;simp[Em,h1,h3]
theorem R9 {s:Af}(h:BP s=0):Lib.itoa (By s)=s:=by
 unfold BP at h;unfold By
 cases hd:Li s with
 | false=>rw[hd] at h;simp at h
 | true=>
  simp only[hd,Ad7] at h ⊢;have hdec:=hd;simp only[Li,AcG,AcV,Adf,AcA] at hdec;obtain⟨⟨hne,hz⟩,hall⟩:=hdec;rw[MJ] at hall
  cases hs:s with
  | nil=>subst hs;exact absurd (show Ik []=[] by simp[Ik,Oh]) hne
  | cons c r=>
   subst hs
   by_cases hc:c=45
   ·subst hc;have hdg:Ik (45::r)=r:=by simp[Ik,Oh,Bm]
    rw[hdg] at hne hall hz;have he:Bm r 0≠48:=by
     intro e;rw[e] at hz;simp at hz
    rw[Lib.atoiAll_minus] at h ⊢;have hpm:Lib.parseMag r=Lib.parseUint10 0 r:=by unfold Lib.parseMag;rw[Adp hne]
    rw[hpm] at h ⊢;have hpos:1≤C5 0 r:=by
     cases r with
     | nil=>exact absurd rfl hne
     | cons x y=>
      have hx:48≤x.toNat∧x.toNat≤57:=by simp[BX] at hall;omega
      have hx2:x.toNat≠48:=λe=>he (by show((x.toNat:Nat):Int)=48;omega);show 1≤C5 (10*0+(x.toNat-48)) y;exact Nat.le_trans (by omega) (I9 y _)
    rcases Qy r 0 hall with e | ⟨e,_⟩
    ·rw[e] at h ⊢;simp only[Lib.signed] at h ⊢
     by_cases hbig:9223372036854775808<C5 0 r
     ·rw[Ad2 hbig] at h;simp at h
     ·rw[Adp hbig] at h ⊢;simp only at h ⊢
      cases hv:Eb (-(C5 0 r:Int)) with
      | false=>rw[hv] at h;simp at h
      | true=>
       rw[Ad2 rfl,Lib.itoa_neg _ hpos,OS r.length r rfl hall hne (λha=>?_)]
       cases r with
       | nil=>exact absurd rfl hne
       | cons x y=>
        simp only[List.head?_cons,Option.some.injEq] at ha;subst ha;exact absurd rfl he
    ·rw[e] at h;simp[Lib.signed] at h
   ·have hb : ¬ Bm (c::r) 0=45:=by
     intro e;exact hc (UInt8.toNat_inj.1 (by have:((c.toNat:Nat):Int)=45:=e;simp;omega))
    have hdg:Ik (c::r)=c::r:=by simp[Ik,Oh,hb]
    rw[hdg] at hne hall hz;have hf:48≤c.toNat:=by simp[BX] at hall;omega
    rw[Lib.atoiAll_plain c r (by omega) (by omega)] at h ⊢;have hpm:Lib.parseMag (c::r)=Lib.parseUint10 0 (c::r):=by unfold Lib.parseMag;rw[Adp hne]
    rw[hpm] at h ⊢;rcases Qy (c::r) 0 hall with e | ⟨e,_⟩
    ·rw[e] at h ⊢;simp only[Lib.signless] at h ⊢
     by_cases hbig:9223372036854775808≤C5 0 (c::r)
     ·rw[Ad2 hbig] at h;simp at h
     ·rw[Adp hbig] at h ⊢;simp only at h ⊢
      cases hv:Eb (C5 0 (c::r):Int) with
      | false=>rw[hv] at h;simp at h
      | true=>
       rw[Ad2 rfl,Lib.itoa_nonneg];refine OS (c::r).length (c::r) rfl hall hne (λha=>?_);simp only[List.head?_cons,Option.some.injEq] at ha;subst ha;have:Bm (48::r) 0=48:=rfl;rw[this] at hz;simp only[decide_true,AcQ,AdD,Ac9] at hz;rw[hz];rfl
    ·rw[e] at h;simp[Lib.signless] at h
theorem Ki {f:Fo}(h:f.one=true)(key:Option Af)(r:Fo)(b:Bool):(f.put key r).txt b=CA b++(Gu key++(f.txt true++r.txt false)):=by
 cases f with
 | nil=>cases h
 | cell k c s=>cases k with
  | some _=>cases h
  | none=>cases s with
   | nil=>simp[Fo.put,Fo.txt,CA,Gu]
   | _=>cases h
 | node k c kids s=>cases k with
  | some _=>cases h
  | none=>cases s with
   | nil=>simp[Fo.put,Fo.txt,CA,Gu]
   | _=>cases h
theorem Qw {f:Fo}(h:f.one=true)(key:Option Af)(r:Fo):(f.put key r).flat.any BT=(f.flat.any BT||r.flat.any BT):=by
 rw[Gh h,List.any_append,List.any_append,OA,AcW]
theorem T0 {m:Bool}{last:Option Af}{g:Fo}(hw:g.wf m last=true):g = .nil∨∃ (k:Option Af) (f r:Fo),g=f.put k r∧f.one=true∧f.wf false none=true∧B1 m last k=true∧r.wf m k=true:=by
 cases g with
 | nil=>exact .inl rfl
 | cell k c r=>
  simp only[Fo.wf,AcG,AcV] at hw;obtain⟨⟨⟨w1,w2⟩,w3⟩,w4⟩:=hw;exact .inr ⟨k,.cell none c .nil,r,rfl,rfl,Nx w2 w3,w1,w4⟩
 | node k c kids r=>
  simp only[Fo.wf,AcG,Ac9] at hw;obtain⟨⟨⟨⟨⟨w1,w2⟩,w3⟩,w5⟩,w6⟩,w4⟩:=hw;exact .inr ⟨k,.node none c kids .nil,r,rfl,rfl,Nw w2 w3 w5 w6,w1,w4⟩
theorem W3 {m:Bool}{last:Option Af}{g:Fo}(hw:g.wf m last=true)(hn:g≠.nil):g.txt false=44::g.txt true:=by
 rcases T0 hw with h | ⟨k,f,r,rfl,h1,_⟩
 ·exact absurd h hn
 ·rw[Ki h1,Ki h1];rfl
theorem XN {m:Bool}{last k:Option Af}{w:Af}(h:B1 m last k=true):EP true m last (Gu k++w)=some (k,w):=by
 cases k with
 | none=>
  have:m=false:=by simpa[B1] using h
  subst this;rfl
 | some s=>
  have h':=h;simp only[B1,AcG] at h;obtain⟨⟨h1,h2⟩,h3⟩:=h;subst h1;have e:Gu (some s)++w=34::(Em s++34::(58::w)):=by simp[Gu,Ek]
  rw[e];unfold EP;simp only[AcH,decide_true,Oc s (58::w) h2,h',AcP,Add,AcD]
theorem PH {m:Bool}{last k:Option Af}{s w:Af}(h:EP true m last s=some (k,w)):s=Gu k++w:=by
 unfold EP at h
 cases m with
 | false=>cases h;rfl
 | true=>
  simp only[AcH] at h
  cases s with
  | nil=>cases h
  | cons c r=>
   simp only at h
   cases h1:decide (c=34) with
   | false=>rw[h1] at h;cases h
   | true=>
    rw[h1] at h;simp only[AcH] at h
    cases h2:CY true r with
    | none=>rw[h2] at h;cases h
    | some q=>
     obtain⟨t,u⟩:=q;have:=Pw _ r t u rfl h2;rw[h2] at h;simp only at h
     cases h3:(true&&!B1 true last (some t)) with
     | true=>rw[h3] at h;cases h
     | false=>
      rw[h3] at h;simp only[AcD] at h
      cases u with
      | nil=>cases h
      | cons d u'=>
       simp only at h
       cases h4:decide (d=58) with
       | false=>rw[h4] at h;cases h
       | true=>
        rw[h4] at h;cases h;rw[AcK h1,this,AcK h4];simp[Gu,Ek]
def okH (c:UInt8):Prop:=c=110∨c=116∨c=102∨c=34∨c=91∨c=123∨c=45∨BX c=true
theorem P7 {c:UInt8}(h:okH c)(m:Bool):decide (c=BW m)=false:=by
 refine AcB λe=>?_;subst e
 cases m<;>revert h<;>unfold okH BX BW<;>decide
theorem PM (n:Int):∃c r,Lib.itoa n=c::r∧(c=45∨BX c=true):=by
 obtain⟨a,b,_,_⟩:=Qa n.natAbs
 by_cases hneg:n<0
 ·have:=Lib.itoa_neg n.natAbs (by omega);rw[show -(n.natAbs:Int)=n from by omega] at this;exact⟨45,_,this,.inl rfl⟩
 ·have:=Lib.itoa_nonneg n.natAbs;rw[show(n.natAbs:Int)=n from by omega] at this
  cases hd:Lib.decDigits n.natAbs with
  | nil=>exact absurd hd b
  | cons x r=>
   rw[hd] at a;simp only[Ado,AcG] at a;exact⟨x,r,by rw[this,hd],.inr a.1⟩
theorem Tj {c:Aa}:∃x r,D4 c=x::r∧okH x:=by
 unfold D4
 cases decide (c.fKind=1) with
 | true=>exact⟨_,_,rfl,.inl rfl⟩
 | false=>
 cases decide (c.fKind=2) with
 | true=>cases decide (c.fInt=1) with
  | true=>exact⟨_,_,rfl,.inr (.inl rfl)⟩
  | false=>exact⟨_,_,rfl,.inr (.inr (.inl rfl))⟩
 | false=>
 cases decide (c.fKind=3) with
 | true=>
  obtain⟨x,r,e,h⟩:=PM c.fInt;exact⟨x,r,e,by unfold okH;rcases h with h | h<;>simp[h]⟩
 | false=>
 cases decide (c.fKind=4) with
 | true=>exact⟨_,_,rfl,.inr (.inr (.inr (.inl rfl)))⟩
 | false=>cases decide (c.fKind=6) with
  | true=>exact⟨_,_,rfl,.inr (.inr (.inr (.inr (.inr (.inl rfl)))))⟩
  | false=>exact⟨_,_,rfl,.inr (.inr (.inr (.inr (.inl rfl))))⟩
theorem Xk {f:Fo}(h:f.one=true):∃x r,f.txt true=x::r∧okH x:=by
 cases f with
 | nil=>cases h
 | cell k c s=>cases k with
  | some _=>cases h
  | none=>cases s with
   | nil=>
    obtain⟨x,r,e,ho⟩:=Tj (c:=c);exact⟨x,r,by simp[Fo.txt,CA,Gu,e],ho⟩
   | _=>cases h
 | node k c kids s=>cases k with
  | some _=>cases h
  | none=>cases s with
   | nil=>
    simp only[Fo.txt,CA,Gu,AcH,Adg,Adk];unfold Nj
    cases decide (c.fKind=6) with
    | true=>exact⟨_,_,rfl,.inr (.inr (.inr (.inr (.inr (.inl rfl)))))⟩
    | false=>exact⟨_,_,rfl,.inr (.inr (.inr (.inr (.inl rfl))))⟩
   | _=>cases h
theorem W4 {m:Bool}{last:Option Af}{g:Fo}(hw:g.wf m last=true)(hn:g≠.nil):∃x r,g.txt true=x::r∧okH x:=by
 rcases T0 hw with h | ⟨k,f,r,rfl,h1,_⟩
 ·exact absurd h hn
 ·rw[Ki h1]
  cases k with
  | none=>
   obtain⟨x,y,e,ho⟩:=Xk h1;exact⟨x,y++r.txt false,by simp[CA,Gu,e],ho⟩
  | some s=>exact⟨34,_,by simp[CA,Gu,Ek];rfl,.inr (.inr (.inr (.inl rfl)))⟩
theorem SZ {a b:UInt8}{x y:Af}(h:a≠b):pre (a::x) (b::y)=none:=by
 rw[pre,AcB h];rfl
theorem Kk {F:Nat}{c:UInt8}{r:Af}(h1:c≠110)(h2:c≠116)(h3:c≠102):G2 true (F+1) (c::r) =
  bif decide (c=34) then(match CY true r with
   | none=>none
   | some (t,u)=>some (lf 4 0 t,u)) else
  bif decide (c=91)||decide (c=123) then(match r with
   | []=>none
   | d::r'=>bif decide (d=BW (decide (c=123))) then some (nd (decide (c=123)) .nil,r') else(match DM true F (decide (c=123)) none (d::r') with
    | none=>none
    | some (g,u)=>some (nd (decide (c=123)) g,u))) else
  IG (c::r):=by
 rw[DL,SZ (Ne.symm h1),SZ (Ne.symm h2),SZ (Ne.symm h3)];rfl
theorem Xj {F:Nat}{c:Aa}{w:Af}(hp:pl c=true)(hn:decide (0<c.fN)=false)(ho:BT c=false)(hw:∀x r,w=x::r→BX x=false):G2 true (F+1) (D4 c++w)=some (.cell none c .nil,w):=by
 have hN:=Xf hp;have h0:c.fN=0:=by simp only[AcA] at hn;omega
 cases c with
 | mk k n s N=>
 simp only at h0;subst h0;unfold D4
 by_cases k1:k=1
 ·subst k1;simp[pl] at hp;obtain⟨rfl,rfl⟩:=hp;show G2 true (F+1) ([110,117,108,108]++w)=_;rw[DL,LB];rfl
 by_cases k2:k=2
 ·subst k2;simp[pl] at hp;obtain⟨hb,rfl⟩:=hp;rcases hb with rfl | rfl
  ·show G2 true (F+1) ([102,97,108,115,101]++w)=_;rw[DL,LB];rfl
  ·show G2 true (F+1) ([116,114,117,101]++w)=_;rw[DL,LB];rfl
 by_cases k3:k=3
 ·subst k3;simp[pl] at hp;subst hp;show G2 true (F+1) (Lib.itoa n++w)=_;obtain⟨x,r,e,hx⟩:=PM n;have hx2:45≤x.toNat∧x.toNat≤57:=by
   rcases hx with rfl | hx
   ·decide
   ·simp[BX] at hx;omega
  have hne:∀y:UInt8,57<y.toNat∨y.toNat<45→x≠y:=λy hy e=>by subst e;omega
  rw[e,Ads,Kk (hne 110 (by decide)) (hne 116 (by decide)) (hne 102 (by decide)),AcB (hne 34 (by decide)),AcB (hne 91 (by decide)),AcB (hne 123 (by decide))];simp only[Bool.or_self,AcD];rw[← Ads,← e];simp[BT] at ho;exact VE (by omega) (by omega) hw
 by_cases k4:k=4
 ·subst k4;simp[pl] at hp;obtain⟨rfl,hs⟩:=hp;have e:(bif decide ((4:Int)=1) then([110,117,108,108]:Af) else bif decide ((4:Int)=2) then(bif decide ((0:Int)=1) then[116,114,117,101] else[102,97,108,115,101]) else bif decide ((4:Int)=3) then Lib.itoa 0 else bif decide ((4:Int)=4) then Ek s else bif decide ((4:Int)=6) then[123,125] else[91,93])=Ek s:=rfl;show G2 true (F+1) (Ek s++w)=_;have e2:Ek s++w=34::(Em s++34::w):=by simp[Ek]
  rw[e2,Kk (by decide) (by decide) (by decide),AcC rfl];simp only[AcH];rw[Oc s w (by rw[Adn];exact hs)];rfl
 by_cases k5:k=5
 ·subst k5;simp[pl] at hp;obtain⟨rfl,rfl⟩:=hp;show G2 true (F+1) (91::93::w)=_;rw[Kk (by decide) (by decide) (by decide)];rfl
 by_cases k6:k=6
 ·subst k6;simp[pl] at hp;obtain⟨rfl,rfl⟩:=hp;show G2 true (F+1) (123::125::w)=_;rw[Kk (by decide) (by decide) (by decide)];rfl
 exfalso;simp[pl,k1,k2,k3,k4,k5,k6] at hp
theorem VW (m:Bool):BX (BW m)=false:=by cases m<;>decide
theorem Zu:∀n:Nat,(∀f:Fo,f.flat.length=n→f.one=true→f.wf false none=true→f.flat.any BT=false→∀(F:Nat) (w:Af),2*n≤F→(∀x r,w=x::r→BX x=false)→G2 true F (f.txt true++w)=some (f,w))∧
  (∀(g:Fo) (m:Bool) (last:Option Af),g.flat.length=n→g≠.nil→g.wf m last=true→g.flat.any BT=false→∀(F:Nat) (w:Af),2*n+1≤F→DM true F m last (g.txt true++BW m::w)=some (g,w)):=by
 intro n
 induction n using Nat.strongRecOn with
 | ind n ih=>
  have hP:∀f:Fo,f.flat.length=n→f.one=true→f.wf false none=true→f.flat.any BT=false→∀(F:Nat) (w:Af),2*n≤F→(∀x r,w=x::r→BX x=false)→G2 true F (f.txt true++w)=some (f,w):=by
   intro f hn h1 hw ho F w hF hd;have hl:=LG h1;obtain⟨F,rfl⟩:∃K,F=K+1:=⟨F-1,by omega⟩
   cases f with
   | nil=>cases h1
   | cell k c s=>cases k with
    | some _=>cases h1
    | none=>cases s with
     | nil=>
      simp only[Fo.wf,AcG,AcV] at hw;simp[Fo.flat,Bu] at ho;have e:(Fo.cell none c .nil).txt true=D4 c:=by simp[Fo.txt,CA,Gu]
      rw[e];exact Xj hw.1.1.2 hw.1.2 ho hd
     | _=>cases h1
   | node k c kids s=>cases k with
    | some _=>cases h1
    | none=>cases s with
     | nil=>
      simp only[Fo.wf,AcG,Ac9] at hw;obtain⟨⟨⟨⟨⟨w1,w2⟩,w3⟩,w5⟩,w6⟩,w4⟩:=hw;have hfl:(Fo.node none c kids .nil).flat=c::kids.flat:=by simp[Fo.flat,Bu]
      rw[hfl] at hn ho;simp only[AcE] at hn;simp only[List.any_cons,Adf] at ho;have hne:kids≠.nil:=λe=>by subst e;simp[Fo.cnt] at w5;omega
      obtain⟨x,r,ex,hx⟩:=W4 w6 hne;obtain⟨ha,hi,hs⟩:=HO w2 w3;have e:(Fo.node none c kids .nil).txt true=Nj c (kids.txt true):=by simp[Fo.txt,CA,Gu]
      have ih2:=(ih kids.flat.length (by omega)).2 kids (decide (c.fKind=6)) none rfl hne w6 ho.2 F w (by omega);have hnd:nd (decide (c.fKind=6)) kids = .node none c kids .nil:=by
       unfold nd;rw[AcB (by omega)]
       cases c with
       | mk a1 a2 a3 a4=>
        simp only at ha hi hs w5 ⊢;subst hi;subst hs;subst w5;rcases ha with rfl | rfl<;>rfl
      rw[e];unfold Nj
      cases hm:decide (c.fKind=6) with
      | true=>
       rw[hm] at ih2 hnd;have e3:(bif true then 123::(kids.txt true++[125]) else 91::(kids.txt true++[93]))++w=(bif true then(123:UInt8) else 91)::(x::(r++125::w)):=by simp[ex]
       have ih3:DM true F true none (x::(r++125::w))=some (kids,w):=by rw[ex] at ih2;exact ih2
       rw[e3,Tc,K3,P7 hx true,AcD,ih3];show some (nd true kids,w)=_;rw[hnd]
      | false=>
       rw[hm] at ih2 hnd;have e3:(bif false then 123::(kids.txt true++[125]) else 91::(kids.txt true++[93]))++w=(bif false then(123:UInt8) else 91)::(x::(r++93::w)):=by simp[ex]
       have ih3:DM true F false none (x::(r++93::w))=some (kids,w):=by rw[ex] at ih2;exact ih2
       rw[e3,Tc,K3,P7 hx false,AcD,ih3];show some (nd false kids,w)=_;rw[hnd]
     | _=>cases h1
  refine⟨hP,?_⟩;intro g m last hn hne hw ho F w hF;rcases T0 hw with h | ⟨k,f,r,rfl,h1,h2,h3,h4⟩
  ·exact absurd h hne
  obtain⟨F,rfl⟩:∃K,F=K+1:=⟨F-1,by omega⟩
  have hl:=LG h1;rw[Gh h1,AcF,AcF] at hn;rw[Qw h1,Adf] at ho;rw[Ki h1,D2];have e:(CA true++(Gu k++(f.txt true++r.txt false)))++BW m::w=Gu k++(f.txt true++(r.txt false++BW m::w)):=by simp[CA]
  rw[e,XN h3];simp only;have hpar:∀v:Af,(∀x y,v=x::y→BX x=false)→G2 true F (f.txt true++v)=some (f,v):=λv hv=>by
   rcases Nat.lt_or_ge f.flat.length n with hlt | hge
   ·exact(ih f.flat.length hlt).1 f rfl h1 h2 ho.1 F v (by omega) hv
   ·exact hP f (by omega) h1 h2 ho.1 F v (by omega) hv
  by_cases hr:r = .nil
  ·subst hr;rw[hpar _ (λx y e=>by simp[Fo.txt] at e;rw[← e.1];exact VW m)];simp[Fo.txt]
  ·rw[W3 h4 hr,Ads,hpar _ (λx y e=>by cases e;decide)];simp only;have hb:decide ((44:UInt8)=BW m)=false:=by cases m<;>decide
   have:=(ih r.flat.length (by omega)).2 r m k rfl hr h4 ho.2 F w (by omega);rw[hb,this];rfl
theorem RA:∀F:Nat,(∀s f u,G2 true F s=some (f,u)→f.flat.any BT=false→s=f.txt true++u)∧(∀m last s g u,DM true F m last s=some (g,u)→g.flat.any BT=false→s=g.txt true++BW m::u)
 | 0=>⟨(λs f u h=>by rw[G2.eq_def] at h;cases h),(λm last s g u h=>by rw[DM.eq_def] at h;cases h)⟩
 | F+1=>by
  obtain⟨ih1,ih2⟩:=RA F;obtain⟨pl1,pl2⟩:=EK true F;constructor
  ·intro s f u h ho;rw[DL] at h
   cases h1:pre [110,117,108,108] s with
   | some r=>rw[h1] at h;cases h;rw[DF h1];rfl
   | none=>
   rw[h1] at h;simp only at h
   cases h2:pre [116,114,117,101] s with
   | some r=>rw[h2] at h;cases h;rw[DF h2];rfl
   | none=>
   rw[h2] at h;simp only at h
   cases h3:pre [102,97,108,115,101] s with
   | some r=>rw[h3] at h;cases h;rw[DF h3];rfl
   | none=>
   rw[h3] at h;simp only at h
   cases s with
   | nil=>cases h
   | cons c r=>
    simp only at h
    cases h4:decide (c=34) with
    | true=>
     rw[h4] at h;simp only[AcH] at h
     cases h5:CY true r with
     | none=>rw[h5] at h;cases h
     | some q=>
      obtain⟨t,u'⟩:=q;rw[h5] at h;cases h;rw[AcK h4,Pw _ r t _ rfl h5];simp[lf,Fo.txt,CA,Gu,D4,Ek]
    | false=>
    rw[h4] at h;simp only[AcD] at h
    cases h5:(decide (c=91)||decide (c=123)) with
    | true=>
     rw[h5] at h;simp only[AcH] at h;have hopen:∀x:Af,(c::x)=(bif decide (c=123) then(123:UInt8) else 91)::x:=λx=>by
      cases h6:decide (c=123) with
      | true=>rw[AcK h6];rfl
      | false=>rw[h6,Adi] at h5;rw[AcK h5];rfl
     rw[hopen];generalize decide (c=123)=m at *
     cases r with
     | nil=>cases h
     | cons d r'=>
      simp only at h
      cases h6:decide (d=BW m) with
      | true=>
       rw[h6] at h;cases h;rw[AcK h6]
       cases m<;>simp[nd,Fo.cnt,Fo.txt,CA,Gu,D4,BW]
      | false=>
       rw[h6] at h;simp only[AcD] at h
       cases h7:DM true F m none (d::r') with
       | none=>rw[h7] at h;cases h
       | some q=>
        obtain⟨g,u'⟩:=q;rw[h7] at h;cases h;have hc:=(pl2 _ _ _ _ _ h7).2;rw[Kq _ _ Jh,List.any_cons,Adf] at ho;rw[ih2 _ _ _ _ _ h7 ho.2];unfold nd;rw[AcB (by omega)]
        cases m<;>simp[Fo.txt,CA,Gu,Nj,BW]
    | false=>
     rw[h5] at h;simp only[AcD] at h;obtain⟨n,rfl,hb⟩:=VF h;have ho':BT ⟨3,n,[],0⟩=false:=by simpa[Fo.flat,Bu] using ho
     rw[hb ho'];simp[Fo.txt,CA,Gu,D4]
  ·intro m last s g u h ho;rw[D2] at h
   cases h1:EP true m last s with
   | none=>rw[h1] at h;cases h
   | some q=>
    obtain⟨key,s1⟩:=q;rw[h1] at h;simp only at h
    cases h2:G2 true F s1 with
    | none=>rw[h2] at h;cases h
    | some q=>
     obtain⟨f,s2⟩:=q;have hone:=(pl1 _ _ _ h2).2;rw[h2] at h;simp only at h
     cases s2 with
     | nil=>cases h
     | cons c s3=>
      simp only at h
      cases h3:decide (c=BW m) with
      | true=>
       rw[h3] at h;cases h;rw[Qw hone,Adf] at ho;rw[PH h1,ih1 _ _ _ h2 ho.1,Ki hone,AcK h3];simp[CA,Fo.txt]
      | false=>
       rw[h3] at h;simp only[AcD] at h
       cases h4:decide (c=44) with
       | false=>rw[h4] at h;cases h
       | true=>
        rw[h4] at h;simp only[AcH] at h
        cases h5:DM true F m key s3 with
        | none=>rw[h5] at h;cases h
        | some q=>
         obtain⟨g',w⟩:=q;rw[h5] at h;cases h;have hc:=(pl2 _ _ _ _ _ h5).2;rw[Qw hone,Adf] at ho;have e5:=ih2 _ _ _ _ _ h5 ho.2;have e6:g'.txt false=44::g'.txt true:=by
          cases g' with
          | nil=>simp[Fo.cnt] at hc
          | cell k c r=>simp[Fo.txt,CA]
          | node k c kids r=>simp[Fo.txt,CA]
         rw[PH h1,ih1 _ _ _ h2 ho.1,Ki hone,AcK h4,e5,e6];simp[CA]
open Go Go.RowKit
theorem Ma {f:Fo}(h:ER f=0):f.flat.any BT=false∧f.flat.any H8=false∧f.flat.length≤200∧f.dep≤8∧(f.txt true).length≤4000:=by
 unfold ER at h
 cases h1:f.flat.any BT with
 | true=>rw[h1] at h;cases h
 | false=>
  rw[h1] at h
  cases h2:(f.flat.any H8||(decide (200<f.flat.length)||(decide (8<f.dep)||decide (4000<(f.txt true).length)))) with
  | true=>rw[h2] at h;cases h
  | false=>
   simp only[Adf,AcA] at h2;exact⟨rfl,h2.1,by omega,by omega,by omega⟩
theorem Aah {f:Fo}(h1:f.one=true)(hw:f.wf false none=true)(he:ER f=0):GO f.flat=0:=by
 unfold GO;rw[NR h1 hw];exact he
theorem AaQ {F:Nat}{s u:Af}{f:Fo}(h:G2 true F s=some (f,u)):f.wf false none=true:=by
 have:=((Qz F).1 s).1;rw[h] at this
 cases h2:G2 false F s with
 | none=>rw[h2] at this;cases this
 | some q=>
  obtain⟨g,w⟩:=q;rw[h2] at this;simp only at this
  cases hw:g.wf false none with
  | true=>rw[hw] at this;cases this;exact hw
  | false=>rw[hw] at this;cases this
theorem Aaj {v:List Aa}(h:(Ii v).2=0):ME (Ii v).1=some (v,0):=by
 unfold Ii at h ⊢
 cases hw:whole v with
 | none=>rw[hw] at h;cases h
 | some f=>
  rw[hw] at h;simp only at h
  cases he:decide (ER f=0) with
  | false=>rw[he] at h;exact absurd h (AcS he)
  | true=>
   obtain⟨x1,x2,x3⟩:=Hu hw;obtain⟨h1,h2,h3,h4,h5⟩:=Ma (AcK he);have hp:=(Zu f.flat.length).1 f rfl x3 x2 h1 10000 [] (by omega) (λx r e=>by cases e);rw[Adk] at hp;simp only[he];show ME (f.txt true)=_;unfold ME;rw[AcB (by omega),AcD,hp];simp only;rw[he,x1];rfl
theorem Us {s:Af}{r:List Aa×Int}(h:ME s=some r)(h0:r.2=0):Hn 4000 r.1∧Ii r.1=(s,0)∧GO r.1=0:=by
 unfold ME at h
 cases h4:decide (4000<s.length) with
 | true=>rw[h4] at h;cases h;cases h0
 | false=>
  rw[h4] at h;simp only[AcA] at h4;simp only[AcD] at h
  cases hp:G2 true 10000 s with
  | none=>rw[hp] at h;cases h;cases h0
  | some q=>
   obtain⟨f,w⟩:=q;rw[hp] at h
   cases w with
   | cons _ _=>cases h;cases h0
   | nil=>
    simp only[Option.some.injEq] at h;subst h
    cases he:decide (ER f=0) with
    | false=>rw[he] at h0;exact absurd h0 (AcS he)
    | true=>
     have hf:=AcK he;have hw:=AaQ hp;have hone:=((EK true 10000).1 _ _ _ hp).2;have hcells:=(Mz true 4000 10000).1 _ _ _ (by omega) hp;have hfl:=(I7 true 10000).1 _ _ _ hp;obtain⟨h1,h2,h3,_⟩:=Ma hf;have hb:=(RA 10000).1 _ _ _ hp h1;rw[Adk] at hb;refine⟨⟨by decide,by show f.flat.length≤4000;omega,λc hc=>?_⟩,?_,Aah hone hw hf⟩
     ·obtain⟨a,b,c'⟩:=hcells c hc;exact⟨a,b,by omega⟩
     ·show Ii f.flat=_;unfold Ii;rw[NR hone hw];simp only;rw[he,hb];rfl
theorem MD (s:Af):∃r,ME s=some r:=by
 unfold ME
 cases decide (4000<s.length) with
 | true=>exact⟨_,rfl⟩
 | false=>
  simp only[AcD]
  split<;>exact⟨_,rfl⟩
section
variable {M : Nat} {v : List Aa}
theorem SX (hA:Hn M v)(hM:M≤1000000){F:Nat}(hF:4*M+8<F):L6 F v=some (Ii v):=by
 have hvM:=hA.hv;unfold L6 Ii;rw[Kf hA hM (by omega),AI rfl];unfold GO
 cases hwh:whole v with
 | none=>rfl
 | some f=>
  change Bf (!decide (ER f=0)) _ _=some (bif decide (ER f=0) then(f.txt true,0) else([],ER f))
  cases he:decide (ER f=0) with
  | false=>rw[AF (p:=!false) rfl];rfl
  | true=>
   obtain⟨h1,h2,h3⟩:=Hu hwh;have hl:v.length=f.flat.length:=by rw[h1]
   have hc:∀c∈f.flat,c.fStr.length≤M∧B9 .i64 c.fInt=true∧c.fN≤9223372036854775807:=λc hc=>hA.hc c (by rw[h1];exact hc);have hb:=K2 hM h2 (by omega) hc;have htl:((f.txt true).length:Int)=f.byt:=by rw[HM f false none true h2,N6 h3];simp
   have hd0:v.drop (0:Int).toNat=f.flat++[]:=by rw[Adk];exact h1
   rw[A0 (p:=!true) rfl,Rt hA (AcX 0) h3 h2 hd0 (by omega) (by omega),AI rfl];rfl
end
def E1 (c:Ad):Int:=
 bif !Pd c.fKey then 4 else bif decide (c.fIfVersion<(-1))||decide (1000000000000<c.fIfVersion) then 2
 else bif c.fDelete&&decide (0<(c.fValue.length:Int)) then 7 else bif c.fDelete then 0 else GO c.fValue
def JM:List Ad→Int
 | []=>0
 | c::r=>bif decide (E1 c=0) then JM r else E1 c
def K8 (l:List Ad):Int:=bif decide (256<l.length) then 3 else JM l
theorem M9:∀{l:List Ad},JM l=0→∀c∈l,E1 c=0
 | [],_,c,hc=>by cases hc
 | d::r,h,c,hc=>by
  unfold JM at h
  cases hd:decide (E1 d=0) with
  | false=>rw[hd] at h;exact absurd h (AcS hd)
  | true=>
   rw[hd] at h;rcases List.mem_cons.1 hc with rfl | hc
   ·exact AcK hd
   ·exact M9 h c hc
theorem Lg:∀{l:List Ad},(∀c∈l,E1 c=0)→JM l=0
 | [],_=>rfl
 | d::r,h=>by
  unfold JM;rw[AcC (h d (by simp))];exact Lg λc hc=>h c (by simp[hc])
def OI (c:Ad):List Af:=[c.fKey,bif c.fDelete then[49] else[48],bif c.fDelete then[] else(Ii c.fValue).1,Lib.itoa c.fIfVersion]
def EW (c:Ad):Af:=LE (OI c)
def Mb (l:List Ad):Af×Int:=bif decide (K8 l=0) then PL (l.map EW) else([],K8 l)
theorem Yz {v:List Aa}(h:GO v=0):(Ii v).1.length≤4000:=by
 unfold Ii;unfold GO at h
 cases hw:whole v with
 | none=>rw[hw] at h;cases h
 | some f=>
  rw[hw] at h;simp only at h ⊢;rw[h];exact(Ma h).2.2.2.2
theorem JO {c:Ad}(h:E1 c=0):Pd c.fKey=true∧-1≤c.fIfVersion∧c.fIfVersion≤1000000000000∧(c.fDelete=true→c.fValue=[])∧(c.fDelete=false→GO c.fValue=0):=by
 unfold E1 at h
 cases h1:Pd c.fKey with
 | false=>rw[h1] at h;cases h
 | true=>
  rw[h1] at h;simp only[AcP,AcD] at h
  cases h2:(decide (c.fIfVersion<(-1))||decide (1000000000000<c.fIfVersion)) with
  | true=>rw[h2] at h;cases h
  | false=>
   rw[h2] at h;simp only[AcD] at h;simp only[Adf,AcA] at h2
   cases h3:c.fDelete with
   | true=>
    rw[h3] at h;simp only[AcQ] at h
    cases h4:decide (0<(c.fValue.length:Int)) with
    | true=>rw[h4] at h;cases h
    | false=>
     simp only[AcA] at h4;exact⟨rfl,by omega,by omega,λ_=>Adc (by omega),λh=>(by cases h)⟩
   | false=>
    rw[h3] at h;exact⟨rfl,by omega,by omega,λh=>(by cases h),λ_=>h⟩
theorem PO {s:Af}(h:Pd s=true):s.length≤64:=by
 unfold Pd at h;simp only[AcG,Ac9] at h;exact h.2
theorem RE {c:Ad}(h:E1 c=0):Xo (OI c)=true:=by
 obtain⟨h1,h2,h3,h4,h5⟩:=JO h;have a1:=PO h1;have a2:=Sh c.fIfVersion (by omega) (by omega);unfold Xo OI;simp only[AcE,Adz,Ado,List.all_nil,AcZ,AcG,Ac9];refine⟨by omega,by omega,?_,?_,by omega⟩
 ·cases c.fDelete<;>simp
 ·cases hd:c.fDelete with
  | true=>simp
  | false=>exact Yz (h5 hd)
def zC:Ad:=Ad.mk [] false [] 0
def Sn (l:List Af):Bool:=decide ((l.length:Int)=4)&&((decide (Ao l 1=[48])||decide (Ao l 1=[49]))&&decide (BP (Ao l 3)=0))
def ofC (l:List Af):Ad×Bool:=
 bif decide (Ao l 1=[49]) then(Ad.mk (Ao l 0) true [] (By (Ao l 3)),decide (Ao l 2=[]))
 else(Ad.mk (Ao l 0) false (ov (ME (Ao l 2))).1 (By (Ao l 3)),decide ((ov (ME (Ao l 2))).2=0))
def Mo (b:Af):Ad×Bool:=bif decide ((GU b).2=0)&&Sn (GU b).1 then ofC (GU b).1 else(zC,false)
def Nd (b:Af):Bool:=(Mo b).2&&decide (E1 (Mo b).1=0)
def K9 (s:Af):Bool:=decide ((BN s.length s).2=s.length)&&(decide ((BN s.length s).1.length≤256)&&((BN s.length s).1.all Nd&&decide (s.length≤262144)))
def OT (s:Af):List Ad×Int:=bif K9 s then((BN s.length s).1.map λb=>(Mo b).1,0) else([],13)
theorem T8 {c:Ad}(h:E1 c=0):Mo (EW c)=(c,true):=by
 obtain⟨h1,h2,h3,h4,h5⟩:=JO h;have hu:=W0 (RE h);unfold Mo EW;rw[hu];have e0:Ao (OI c) 0=c.fKey:=rfl;have e1:Ao (OI c) 1=bif c.fDelete then[49] else[48]:=rfl;have e2:Ao (OI c) 2=bif c.fDelete then[] else(Ii c.fValue).1:=rfl;have e3:Ao (OI c) 3=Lib.itoa c.fIfVersion:=rfl;have hp:BP (Lib.itoa c.fIfVersion)=0∧By (Lib.itoa c.fIfVersion)=c.fIfVersion:=by
  by_cases h0:0≤c.fIfVersion
  ·exact VD h0 h3
  ·have:c.fIfVersion = -1:=by omega
   rw[this];decide +kernel
 have hf:Sn (OI c)=true:=by
  unfold Sn;rw[e1,e3,hp.1]
  cases c.fDelete<;>rfl
 simp only[hf,decide_true,Bool.and_self,AcH];unfold ofC;rw[e0,e1,e2,e3,hp.2];obtain⟨k,d,v,iv⟩:=c
 cases d with
 | true=>
  have hv:v=[]:=h4 rfl;subst hv;rfl
 | false=>
  have hv:ME (Ii v).1=some (v,0):=Aaj (by
   have:(Ii v).2=GO v:=by
    unfold Ii GO
    cases whole v with
    | none=>rfl
    | some f=>simp only;cases hh:decide (ER f=0) with
     | true=>rw[AcK hh];rfl
     | false=>rfl
   rw[this];exact h5 rfl)
  show(bif decide (([48]:Af)=[49]) then _ else _)=_;rw[show decide (([48]:Af)=[49])=false from by decide];simp only[AcD,hv,Kl,decide_true]
theorem AbS {l:List Af}(h:(l.length:Int)=4):∃a b c d,l=[a,b,c,d]:=by
 match l,h with
 | [a,b,c,d],_=>exact⟨a,b,c,d,rfl⟩
 | [],h=>simp at h
 | [_],h=>simp at h
 | [_,_],h=>simp at h
 | [_,_,_],h=>simp at h
 | _::_::_::_::_::_,h=>simp at h;omega
theorem T9 {b:Af}(h:(Mo b).2=true):(GU b).2=0∧Sn (GU b).1=true∧Mo b=ofC (GU b).1:=by
 unfold Mo at h ⊢
 cases hc:(decide ((GU b).2=0)&&Sn (GU b).1) with
 | false=>rw[hc] at h;cases h
 | true=>
  simp only[AcG,Ac9] at hc;exact⟨hc.1,hc.2,rfl⟩
theorem Z3 {b:Af}(h:Nd b=true):EW (Mo b).1=b:=by
 unfold Nd at h;simp only[AcG,Ac9] at h;obtain⟨g1,g2⟩:=h;obtain⟨u1,u2,u3⟩:=T9 g1;obtain⟨_,hpk⟩:=RB (s:=b) (l:=(GU b).1) (by rw[← u1]);rw[u3] at g1 g2 ⊢;generalize(GU b).1=l at *;unfold Sn at u2;simp only[AcG,Adu,Ac9] at u2;obtain⟨v1,v2,v3⟩:=u2;have hi:=R9 v3;obtain⟨k,f,t,m,rfl⟩:=AbS v1;have e0:Ao [k,f,t,m] 0=k:=rfl;have e1:Ao [k,f,t,m] 1=f:=rfl;have e2:Ao [k,f,t,m] 2=t:=rfl;have e3:Ao [k,f,t,m] 3=m:=rfl;rw[e3] at hi;unfold ofC at g1 g2 ⊢;rw[e1] at v2;simp only[e0,e1,e2,e3] at g1 g2 ⊢;unfold EW
 cases hf:decide (f=[49]) with
 | true=>
  have hf':=AcK hf;rw[hf] at g1;have ht:t=[]:=AcK g1;subst hf' ht;show LE [k,[49],[],Lib.itoa (By m)]=b;rw[hi];exact hpk
 | false=>
  have hf':f=[48]:=by
   rcases v2 with v2 | v2
   ·exact v2
   ·exact absurd v2 (AcS hf)
  rw[hf] at g1;simp only[AcD] at g1 ⊢;obtain⟨r,hr⟩:=MD t;rw[hr,Kl] at g1;obtain⟨_,d2,_⟩:=Us hr (AcK g1);subst hf';show LE [k,[48],(Ii (ov (ME t)).1).1,Lib.itoa (By m)]=b;rw[hr,Kl,d2,hi];exact hpk
theorem LU (l:List Af):l.length≤(l.flatMap BU).length:=by
 induction l with
 | nil=>simp
 | cons b l ih=>rw[Ad1,AcF,D0,AcE];omega
theorem OP {l:List Ad}(h:(Mb l).2=0):OT (Mb l).1=(l,0):=by
 unfold Mb at h ⊢
 cases he:decide (K8 l=0) with
 | false=>rw[he] at h;exact absurd h (AcS he)
 | true=>
  rw[he] at h;simp only[AcH] at h ⊢;unfold PL at h ⊢
  cases hj:decide (((l.map EW).flatMap BU).length≤262144) with
  | false=>rw[hj] at h;cases h
  | true=>
   simp only[AcH];have hlim:=AcK hj;have he':=AcK he;unfold K8 at he'
   cases ha:decide (256<l.length) with
   | true=>rw[ha] at he';cases he'
   | false=>
    rw[ha] at he';simp only[AcD] at he';have hall:=M9 he';have hb:∀b∈l.map EW,b.length≤262136:=λb hb=>by have:=KL _ b hb;omega
    have hsp:=MT (l.map EW) ((l.map EW).flatMap BU).length hb (LU _);have hmap:(l.map EW).map (λb=>(Mo b).1)=l:=by
     rw[AdB]
     conv=>rhs;rw[← List.map_id l]
     exact List.map_congr_left λc hc=>by show(Mo (EW c)).1=c;rw[T8 (hall c hc)]
    have hgood:(l.map EW).all Nd=true:=by
     rw[List.all_map,Adn];intro c hc;show Nd (EW c)=true;unfold Nd;rw[T8 (hall c hc)];simp only[AcQ];exact AcC (hall c hc)
    unfold OT K9;rw[hsp,hgood];simp only[AcA] at ha;rw[AcC rfl,AcC (by simp;omega),hj,hmap];rfl
theorem Y8 {s:Af}(h:(OT s).2=0):Mb (OT s).1=(s,0):=by
 unfold OT at h ⊢
 cases hg:K9 s with
 | false=>rw[hg] at h;cases h
 | true=>
  simp only[AcH];unfold K9 at hg;simp only[AcG,Ac9] at hg;obtain⟨g1,g2,g3,g4⟩:=hg;obtain⟨_,s2,_⟩:=Kb s.length s;rw[g1,Ad5] at s2;generalize(BN s.length s).1=l at *;rw[Adn] at g3;have hall:∀c∈l.map (λb=>(Mo b).1),E1 c=0:=λc hc=>by
   obtain⟨b,hb,rfl⟩:=List.mem_map.1 hc;have:=g3 b hb;unfold Nd at this;simp only[AcG,Ac9] at this;exact this.2
  have hp:K8 (l.map λb=>(Mo b).1)=0:=by
   unfold K8;rw[AcB (by simp;omega)];exact Lg hall
  have hm:(l.map λb=>(Mo b).1).map EW=l:=by
   rw[AdB]
   conv=>rhs;rw[← List.map_id l]
   exact List.map_congr_left λb hb=>Z3 (g3 b hb)
  unfold Mb;rw[hp,hm];unfold PL;rw[← s2,AcC g4];rfl
def tb (i:Nat):Int:=nv (QO 8 (BitVec.ofNat 32 i))
def Jw (x:Nat):List Int:=(List.range 256).map λi=>if i<x then tb i else 0
theorem J7 (x:Nat):(Jw x).length=256:=by simp[Jw]
theorem W6 {x:Nat}(h:x<256):(Jw x).set x (tb x)=Jw (x+1):=by
 apply List.ext_getElem (by simp[Jw]);intro i h1 h2;simp only[Jw,List.getElem_set,List.getElem_map,List.getElem_range]
 by_cases e:x=i
 ·subst e;simp
 ·rw[Adp e]
  by_cases g:i<x
  ·rw[Ad2 g,Ad2 (by omega)]
  ·rw[Adp g,Adp (by omega)]
theorem AaL:Jw 0=List.replicate 256 (0:Int):=by
 apply List.ext_getElem
 ·rw[J7,List.length_replicate]
 ·intro i h1 h2;rw[List.getElem_replicate];simp only[Jw,List.getElem_map,List.getElem_range,Nat.not_lt_zero,Ad3]
theorem Abs {i:Nat}(h:i<256):Ao (Jw 256) (i:Int)=tb i:=by simp[Ao,Jw,h]
theorem Ye (k:Nat):∀(n:Nat) (b:BitVec 32) (x:Int),0≤x→x+k=8→k<n→B7 (λσ:Int×Int=>G6 σ.1 σ.2) n (nv b,x)=some (.go (nv (QO k b),8,false)):=by
 induction k with
 | zero=>
  intro n b x h0 h hn;obtain⟨n,rfl⟩:∃m,n=m+1:=⟨n-1,by omega⟩
  have:x=8:=by omega
  subst this;rfl
 | succ k ih=>
  intro n b x h0 h hn;obtain⟨n,rfl⟩:∃m,n=m+1:=⟨n-1,by omega⟩
  have hb:G6 (nv b) x=some (.next (nv (sB b),x+1)):=by
   unfold G6;rw[AF (AcC (by omega)),AB (by omega) (by omega),Ro]
  rw[B7,hb];exact ih n (sB b) (x+1) (by omega) (by omega) (by omega)
theorem WM (k:Nat):∀(n:Nat) (b:BitVec 32) (x:Int),0≤x→x+k=8→k<n→B7 (λσ:Int×Int=>H4 σ.1 σ.2) n (nv b,x)=some (.go (nv (QO k b),8,8,false)):=by
 induction k with
 | zero=>
  intro n b x h0 h hn;obtain⟨n,rfl⟩:∃m,n=m+1:=⟨n-1,by omega⟩
  have:x=8:=by omega
  subst this;rfl
 | succ k ih=>
  intro n b x h0 h hn;obtain⟨n,rfl⟩:∃m,n=m+1:=⟨n-1,by omega⟩
  have hb:H4 (nv b) x=some (.next (nv (sB b),x+1)):=by
   unfold H4;rw[AF (AcC (by omega)),AB (by omega) (by omega),Ro]
  rw[B7,hb];exact ih n (sB b) (x+1) (by omega) (by omega) (by omega)
theorem SG (n:Nat):IntKind.wrap .u32 (n:Int)=nv (BitVec.ofNat 32 n):=by
 unfold nv;rw[BitVec.toNat_ofNat];simp[IntKind.wrap,IntKind.signed,IntKind.bits]
theorem Sk {F:Nat}(hF:8<F)(k:Nat):∀(n:Nat) (x:Nat),x+k=256→k<n→B7 (λσ:Int×List Int=>G7 F σ.1 σ.2) n ((x:Int),Jw x)=some (.go (Jw 256)):=by
 induction k with
 | zero=>
  intro n x h hn;obtain⟨n,rfl⟩:∃m,n=m+1:=⟨n-1,by omega⟩
  have:x=256:=by omega
  subst this;rfl
 | succ k ih=>
  intro n x h hn;obtain⟨n,rfl⟩:∃m,n=m+1:=⟨n-1,by omega⟩
  have hb:G7 F (x:Int) (Jw x)=some (.next (((x+1:Nat):Int),Jw (x+1))):=by
   unfold G7;rw[AF (AcC (by omega)),SG,AI (Ye 8 F _ 0 (by omega) (by omega) hF),CC];unfold IH;rw[show nv (QO 8 (BitVec.ofNat 32 x))=tb x from rfl];rw[AP (by omega) (by omega),AP (by omega) (by rw[J7];omega),AB (by omega) (by omega),Int.toNat_natCast,W6 (by omega)];rfl
  rw[B7,hb];exact ih n (x+1) (by omega) (by omega)
theorem VJ {F:Nat}(hF:300<F):OH F=some (Jw 256):=by
 unfold OH;have:=Sk (F:=F) (by omega) 256 F 0 (by omega) (by omega);rw[AaL] at this;rw[show((0:Int),List.replicate 256 (0:Int))=(((0:Nat):Int),List.replicate 256 (0:Int)) from rfl,AI this,CC];unfold II;rw[BL (AcC (J7 256)),BL (AcC List.length_replicate)]
theorem CT {α:Type}[Inhabited α]{l:List α}{i:Nat}{b:α}{r:List α}(h:l.drop i=b::r):Ao l (i:Int)=b∧i<l.length∧l.drop (i+1)=r:=by
 have hl:i<l.length:=by
  have:=congrArg List.length h;simp only[Ad9,AcE] at this;omega
 have hg:l[i]? =some b:=by
  have:=congrArg (λt=>t[0]?) h;simpa using this
 refine⟨by simp[Ao,hg],hl,?_⟩;rw[← AdC,h];rfl
theorem YH (b:BitVec 32)(c:UInt8):E5 .u8 (IntKind.wrap .u8 (nv b)) (c.toNat:Int)=(((b^^^HW c).toNat % 256:Nat):Int):=by
 have hc:=c.toNat_lt;have e1:IntKind.wrap .u8 (nv b)=((b.toNat % 256:Nat):Int):=by
  unfold nv;simp[IntKind.wrap,IntKind.signed,IntKind.bits]
 have h1:(BitVec.ofInt (IntKind.bits .u8) ((b.toNat % 256:Nat):Int)^^^BitVec.ofInt (IntKind.bits .u8) (c.toNat:Int)).toNat=(b^^^HW c).toNat % 256:=by
  rw[BitVec.toNat_xor,BitVec.toNat_ofInt,BitVec.toNat_ofInt,BitVec.toNat_xor];have hbits:IntKind.bits .u8=8:=rfl;have e1:(((b.toNat % 256:Nat):Int) % ((2 ^ 8:Nat):Int)).toNat=b.toNat % 256:=by omega
  have e2:(((c.toNat:Nat):Int) % ((2 ^ 8:Nat):Int)).toNat=c.toNat % 256:=by omega
  have e3:(HW c).toNat=c.toNat:=by unfold HW;rw[BitVec.toNat_ofNat];omega
  rw[hbits,e1,e2,e3];exact(Nat.xor_mod_two_pow (n:=8)).symm
 unfold E5;rw[e1,h1];simp[IntKind.wrap,IntKind.signed,IntKind.bits]
theorem NP (b:BitVec 32)(c:UInt8):(b^^^HW c)>>>8=b>>>8:=by
 rw[BitVec.ushiftRight_xor_distrib];have:HW c>>>8=0#32:=by
  apply BitVec.eq_of_toNat_eq;have hc:=c.toNat_lt;rw[BitVec.toNat_ushiftRight,Nat.shiftRight_eq_div_pow];unfold HW;rw[BitVec.toNat_ofNat];show c.toNat % 4294967296/256=0;omega
 rw[this];simp
theorem XC (z:BitVec 32):BitVec.ofNat 32 (z.toNat % 256)=z&&& 255#32:=by
 apply BitVec.eq_of_toNat_eq;have hz:=z.isLt;rw[BitVec.toNat_ofNat,BitVec.toNat_and];have:z.toNat&&& 255=z.toNat % 256:=Nat.and_two_pow_sub_one_eq_mod z.toNat 8;show z.toNat % 256 % 4294967296=z.toNat&&& 255;rw[this];omega
theorem YD (b:BitVec 32)(c:UInt8):E5 .u32 (tb ((b^^^HW c).toNat % 256)) (BH .u32 (nv b) 8)=nv (QO 8 (b^^^HW c)):=by
 unfold tb;have hs:BH .u32 (nv b) 8=nv (b>>>8):=Ui (n:=8) (by omega) b;rw[hs,NA,OX,OX,XC,← NP b c,← UR]
theorem X2 (b:BitVec 32):Q9 .u32 (nv b)=((~~~b).toNat:Int):=by
 show E5 .u32 4294967295 (nv b)=_;rw[NA,OX];have:bv 4294967295=BitVec.allOnes 32:=by decide
 rw[this,BitVec.allOnes_xor];rfl
theorem PQ (s:Af):∀(r:Af) (n i:Nat) (b:BitVec 32),s.drop i=r→s.length≤1000000000→r.length<n→i≤s.length→B7 (λσ:Int×Int=>GZ s (Jw 256) σ.1 σ.2) n (nv b,(i:Int))=some (.go (nv (Tv b r)))
 | [],n,i,b,h,hs,hn,hi=>by
  obtain⟨n,rfl⟩:∃m,n=m+1:=⟨n-1,by simp at hn;omega⟩
  have:s.length≤i:=by simpa using h
  have hb:GZ s (Jw 256) (nv b) (i:Int)=some (.out (.go (nv b))):=by
   unfold GZ;rw[A0 (AcB (by omega))]
  rw[B7,hb];rfl
 | c::r,n,i,b,h,hs,hn,hi=>by
  obtain⟨n,rfl⟩:∃m,n=m+1:=⟨n-1,by simp at hn;omega⟩
  obtain⟨_,hl,hd⟩:=CT h;have hbt:=S7 h;have hz:(b^^^HW c).toNat % 256<256:=by omega
  have hb:GZ s (Jw 256) (nv b) (i:Int)=some (.next (nv (QO 8 (b^^^HW c)),((i+1:Nat):Int))):=by
   unfold GZ;rw[AF (AcC (by omega)),AP (by omega) (by omega),hbt,YH,AP (by omega) (by omega),AP (by omega) (by rw[J7];omega),AB (by omega) (by omega),Abs hz,YD];rfl
  rw[B7,hb];exact PQ s r n (i+1) _ hd hs (by simp at hn;omega) (by omega)
theorem Uj {F:Nat}{s:Af}(hF:300<F)(hs:s.length<F)(hl:s.length≤1000000000):VK F s=some (OU s:Int):=by
 unfold VK;rw[AI (VJ hF),BL (AcC List.length_replicate),BL (AcC (J7 256))];rw[show((4294967295:Int),(0:Int))=(nv 4294967295#32,((0:Nat):Int)) from rfl,AI (PQ s s F 0 _ rfl hl hs (by omega))];show some (Q9 .u32 (nv (Tv 4294967295#32 s)))=_;rw[X2];rfl
theorem Oo {F:Nat}(hF:8<F)(s:Af):∀(r:Af) (n i:Nat) (b:BitVec 32),s.drop i=r→s.length≤1000000000→r.length<n→i≤s.length→B7 (λσ:Int×Int=>Gg F s σ.1 σ.2) n (nv b,(i:Int))=some (.go (nv (Tv b r)))
 | [],n,i,b,h,hs,hn,hi=>by
  obtain⟨n,rfl⟩:∃m,n=m+1:=⟨n-1,by simp at hn;omega⟩
  have:s.length≤i:=by simpa using h
  have hb:Gg F s (nv b) (i:Int)=some (.out (.go (nv b))):=by
   unfold Gg;rw[A0 (AcB (by omega))]
  rw[B7,hb];rfl
 | c::r,n,i,b,h,hs,hn,hi=>by
  obtain⟨n,rfl⟩:∃m,n=m+1:=⟨n-1,by simp at hn;omega⟩
  obtain⟨_,hl,hd⟩:=CT h;have hbt:=S7 h;have e:E5 .u32 (nv b) (IntKind.wrap .u32 (c.toNat:Int))=nv (b^^^HW c):=by
   rw[SG,NA,OX,OX];rfl
  have hb:Gg F s (nv b) (i:Int)=some (.next (nv (QO 8 (b^^^HW c)),((i+1:Nat):Int))):=by
   unfold Gg;rw[AF (AcC (by omega)),AP (by omega) (by omega),hbt,e,AI (WM 8 F _ 0 (by omega) (by omega) hF),CC];unfold JC;rw[AB (by omega) (by omega)];rfl
  rw[B7,hb];exact Oo hF s r n (i+1) _ hd hs (by simp at hn;omega) (by omega)
theorem Xb {F:Nat}{s:Af}(hF:300<F)(hs:s.length<F)(hl:s.length≤1000000000):R6 F s=some (OU s:Int):=by
 unfold R6;rw[show((4294967295:Int),(0:Int))=(nv 4294967295#32,((0:Nat):Int)) from rfl,AI (Oo (by omega) s s F 0 _ rfl hl hs (by omega))];show some (Q9 .u32 (nv (Tv 4294967295#32 s)))=_;rw[X2];rfl
theorem WF (n k:Nat)(h:k≤32):BH .u32 (n:Int) (k:Int)=((n/2 ^ k:Nat):Int):=by
 unfold BH;have e:min (k:Int).toNat (IntKind.bits .u32)=k:=by
  have:IntKind.bits .u32=32:=rfl;rw[this];omega
 rw[e,Int.fdiv_eq_ediv_of_nonneg _ (Int.pow_nonneg (by omega))];simp
theorem Sm (n:Nat):([IntKind.wrap .u8 (BH .u32 (n:Int) 24),IntKind.wrap .u8 (BH .u32 (n:Int) 16),IntKind.wrap .u8 (BH .u32 (n:Int) 8),IntKind.wrap .u8 (n:Int)]:List Int)=C8 (Ux n):=by
 have ha:BH .u32 (n:Int) 24=((n/16777216:Nat):Int):=WF n 24 (by omega);have hb:BH .u32 (n:Int) 16=((n/65536:Nat):Int):=WF n 16 (by omega);have h8:BH .u32 (n:Int) 8=((n/256:Nat):Int):=WF n 8 (by omega);rw[ha,hb,h8,KE,KE,KE,KE];rfl
theorem ON (n:Nat):K1 (n:Int)=some (Ux n):=by
 unfold K1;rw[Sm,Kn]
theorem P5 (n:Nat):Mw (n:Int)=some (C8 (Ux n)):=by
 unfold Mw;rw[Sm]
theorem IS {n:Nat}(h:n<4294967296):IntKind.wrap .u32 (n:Int)=(n:Int):=by
 rw[SG];unfold nv;rw[BitVec.toNat_ofNat];omega
theorem Abj (x y:Int):IR .u32 x y=nv (bv x||| bv y):=Qh (bv x||| bv y)
theorem Q8 {x y:Nat}(hx:x<4294967296)(hy:y<4294967296):IR .u32 (x:Int) (y:Int)=((x||| y:Nat):Int):=by
 rw[Abj];unfold nv;rw[BitVec.toNat_or];have e:∀z:Nat,z<4294967296→(bv (z:Int)).toNat=z:=λz hz=>by
  have:=Aa3 (x:=(z:Int)) ⟨by omega,by omega⟩;unfold nv at this;exact Int.ofNat_inj.1 this
 rw[e x hx,e y hy]
theorem WG {n k:Nat}(h:k≤32)(hn:n*2 ^ k<4294967296):CS .u32 (n:Int) (k:Int)=((n <<< k:Nat):Int):=by
 unfold CS;have e:min (k:Int).toNat (IntKind.bits .u32)=k:=by
  have:IntKind.bits .u32=32:=rfl;rw[this];omega
 rw[e,Nat.shiftLeft_eq,show(n:Int)*2 ^ k=((n*2 ^ k:Nat):Int) from by simp,IS hn]
theorem AaT {a b c d:Nat}(ha:a<256)(hb:b<256)(hc:c<256)(hd:d<256):((a <<< 24||| b <<< 16)||| c <<< 8)||| d=((a*256+b)*256+c)*256+d:=by
 have e1:a <<< 24||| b <<< 16=(a*256+b) <<< 16:=by
  rw[← Nat.shiftLeft_add_eq_or_of_lt (by rw[Nat.shiftLeft_eq];omega)];simp only[Nat.shiftLeft_eq];omega
 have e2:(a*256+b) <<< 16||| c <<< 8=((a*256+b)*256+c) <<< 8:=by
  rw[← Nat.shiftLeft_add_eq_or_of_lt (by rw[Nat.shiftLeft_eq];omega)];simp only[Nat.shiftLeft_eq];omega
 rw[e1,e2,← Nat.shiftLeft_add_eq_or_of_lt (by omega)];simp only[Nat.shiftLeft_eq]
theorem OL {s:Af}(h:4≤s.length):Kw s=some (Gq s:Int):=by
 match s,h with
 | a::b::c::d::r,_=>
  have ha:=a.toNat_lt;have hb:=b.toNat_lt;have hc:=c.toNat_lt;have hd:=d.toNat_lt;unfold Kw;rw[AP (by omega) (by simp only[AcE];omega),AP (by omega) (by simp only[AcE];omega),AP (by omega) (by simp only[AcE];omega),AP (by omega) (by simp only[AcE];omega)];have b0:Bm (a::b::c::d::r) 0=(a.toNat:Int):=rfl;have b1:Bm (a::b::c::d::r) 1=(b.toNat:Int):=rfl;have b2:Bm (a::b::c::d::r) 2=(c.toNat:Int):=rfl;have b3:Bm (a::b::c::d::r) 3=(d.toNat:Int):=rfl;have s1:CS .u32 (a.toNat:Int) 24=((a.toNat <<< 24:Nat):Int):=WG (k:=24) (by omega) (by omega);have s2:CS .u32 (b.toNat:Int) 16=((b.toNat <<< 16:Nat):Int):=WG (k:=16) (by omega) (by omega);have s3:CS .u32 (c.toNat:Int) 8=((c.toNat <<< 8:Nat):Int):=WG (k:=8) (by omega) (by omega);have l1:a.toNat <<< 24<4294967296:=by rw[Nat.shiftLeft_eq];omega
  have l2:b.toNat <<< 16<4294967296:=by rw[Nat.shiftLeft_eq];omega
  have l3:c.toNat <<< 8<4294967296:=by rw[Nat.shiftLeft_eq];omega
  rw[b0,b1,b2,b3,IS (by omega),IS (by omega),IS (by omega),IS (by omega),s1,s2,s3,Q8 l1 l2,Q8 (Nat.or_lt_two_pow (n:=32) l1 l2) l3,Q8 (Nat.or_lt_two_pow (n:=32) (Nat.or_lt_two_pow (n:=32) l1 l2) l3) (by omega),AaT ha hb hc hd];rfl
theorem Dy (n:Nat):(Ux n).length=4:=rfl
theorem C9 (s:Af):(C8 s).length=s.length:=by simp[C8]
theorem So {F:Nat}(hF:262200<F)(b:Af):OK F b=some (bif decide (262136<b.length) then([],3) else(BU b,0)):=by
 unfold OK
 cases h:decide (262136<b.length) with
 | true=>rw[AF (AcC (by have:=AcK h;omega))];rfl
 | false=>
  have h':=AcS h;rw[A0 (AcB (by omega)),IS (by omega),AI (ON _),AI (Uj (by omega) (by omega) (by omega)),AI (ON _)];rw[AB (by rw[Dy,Dy];omega) (by rw[Dy,Dy];omega),AB (by rw[AcF,Dy,Dy];omega) (by rw[AcF,Dy,Dy];omega)];rfl
theorem Vg {F:Nat}(hF:262200<F)(b:Af):Mv F b=some (bif decide (262136<b.length) then([],3) else(BU b,0)):=by
 unfold Mv
 cases h:decide (262136<b.length) with
 | true=>rw[AF (AcC (by have:=AcK h;omega))];rfl
 | false=>
  have h':=AcS h;rw[A0 (AcB (by omega)),IS (by omega),AI (P5 _),AI (Xb (by omega) (by omega) (by omega)),AI (P5 _)];rw[Kn,Kn,AB (by rw[Dy,Dy];omega) (by rw[Dy,Dy];omega),AB (by rw[AcF,Dy,Dy];omega) (by rw[AcF,Dy,Dy];omega)];rfl
theorem U9 {n:Nat}(h:n<4294967296):IntKind.wrap .i64 (n:Int)=(n:Int):=by rw[IntKind.wrap_i64];omega
theorem Abq (s:Af)(n:Nat):List.take (Int.toNat (8+(n:Int))-Int.toNat 8) (List.drop (Int.toNat 8) s)=(s.drop 8).take n:=by
 rw[show Int.toNat (8+(n:Int))-Int.toNat 8=n from by omega];rfl
theorem Ys {F:Nat}(hF:262200<F){s:Af}(hs:s.length≤1000000000):Sr F s=some (Dm s):=by
 unfold Sr Dm
 cases h1:decide (s.length<8) with
 | true=>rw[AF (AcC (by have:=AcK h1;omega))];rfl
 | false=>
  have h1':=AcS h1;have hn:=ZB s;rw[A0 (AcB (by omega)),AI (OL (by omega)),U9 hn];simp only[AcD]
  cases h2:decide (262136<Gq s) with
  | true=>rw[AF (AcC (by have:=AcK h2;omega))];rfl
  | false=>
   have h2':=AcS h2;rw[A0 (AcB (by omega)),AB (by omega) (by omega)];simp only[AcD]
   cases h3:decide (s.length-8<Gq s) with
   | true=>rw[AF (AcC (by have:=AcK h3;omega))];rfl
   | false=>
    have h3':=AcS h3;rw[A0 (AcB (by omega)),AB (by omega) (by omega),Ca (by omega) (by omega),Ca (by omega) (by omega),Abq];have hl:((s.drop 8).take (Gq s)).length=Gq s:=by simp;omega
    rw[AI (Uj (by omega) (by rw[hl];omega) (by rw[hl];omega)),Ca (by omega) (by omega),AI (OL (by simp;omega))];simp only[AcD];rw[show decide (((OU ((s.drop 8).take (Gq s)):Nat):Int)=((Gq (List.drop (Int.toNat 4) s):Nat):Int))=decide (OU ((s.drop 8).take (Gq s))=Gq (s.drop 4)) from by rw[AcT];simp only[Ac9];exact Int.ofNat_inj]
    cases decide (OU ((s.drop 8).take (Gq s))=Gq (s.drop 4)) with
    | true=>rfl
    | false=>rfl
theorem Oe {O:Type}(s:Af)(b:List Af×Int→Option (Stp (List Af×Int) O))(e:List Af→Int→O)
  (hb:∀(acc:List Af) (x:Nat),x≤s.length→acc.length≤x→b (acc,(x:Int))=bif decide ((Dm (s.drop x)).2.2=0) then some (.next (acc++[(Dm (s.drop x)).1],(x:Int)+(Dm (s.drop x)).2.1)) else some (.out (e acc (x:Int)))) :
  ∀(n m:Nat) (acc:List Af) (x:Nat),x≤s.length→acc.length≤x→s.length-x≤n→n<m→B7 b m (acc,(x:Int))=some (e (acc++(BN n (s.drop x)).1) ((x+(BN n (s.drop x)).2:Nat):Int))
 | n,0,acc,x,hx,ha,hn,hm=>by omega
 | n,m+1,acc,x,hx,ha,hn,hm=>by
  rw[B7,hb acc x hx ha]
  cases h:decide ((Dm (s.drop x)).2.2=0) with
  | false=>
   have:BN n (s.drop x)=([],0):=by
    cases n with
    | zero=>rfl
    | succ n=>rw[BN,h];rfl
   rw[this];simp only[AcD,Adk,Nat.add_zero]
  | true=>
   obtain⟨h1,h2,h3⟩:=Ow (AcK h);have hl:=congrArg List.length h3;rw[AcF,D0,Ad9] at hl
   cases n with
   | zero=>omega
   | succ n=>
    rw[BN,h];simp only[AcH];rw[h2,show(((8+(Dm (s.drop x)).1.length:Nat):Int)).toNat=8+(Dm (s.drop x)).1.length from by omega,AdC];rw[show(x:Int)+((8+(Dm (s.drop x)).1.length:Nat):Int)=((x+(8+(Dm (s.drop x)).1.length):Nat):Int) from by omega];rw[Oe s b e hb n m _ (x+(8+(Dm (s.drop x)).1.length)) (by omega) (by rw[AcF,Ade];omega) (by omega) (by omega)];rw[AcU,Nat.add_assoc x];rfl
theorem VQ {F:Nat}(hF:262200<F){s:Af}(hs:s.length<F)(hl:s.length≤999999999):OJ F s=some ((BN s.length s).1,((BN s.length s).2:Int)):=by
 unfold OJ;have:=Oe s (λσ=>G8 F s σ.1 σ.2) (λa x=>.go (a,x)) (λacc x hx ha=>by
  show G8 F s acc (x:Int)=_;unfold G8;rw[Int.toNat_natCast]
  by_cases hx2:x<s.length
  ·rw[AF (AcC (by omega)),Ca (by omega) (by omega),AI (Ys hF (by simp;omega))]
   cases h:decide ((Dm (s.drop x)).2.2=0) with
   | false=>rfl
   | true=>
    obtain⟨h1,h2,h3⟩:=Ow (AcK h);rw[A0 (p:=!true) rfl,G9 (by simp;omega),AB (by omega) (by omega)];rfl
  ·have:s.drop x=[]:=List.drop_eq_nil_of_le (by omega);rw[A0 (AcB (by omega)),this,RC];rfl) s.length F [] 0 (by omega) (by simp) (by omega) hs
 rw[show(([]:List Af),(0:Int))=([],((0:Nat):Int)) from rfl,AI this,CC];unfold IK;rw[Ca (by omega) (AcX _),Int.toNat_natCast,Ad5,List.drop_zero,Adg,Adv]
theorem OM {F:Nat}(hF:262200<F)(l:List Af)(hl:l.length≤1000000000):∀(r:List Af) (n i:Nat) (acc:Af),l.drop i=r→i≤l.length→r.length<n→acc.length≤262144→
  Br (B7 (λσ:List Int×Int=>Gm F l σ.1 σ.2) n (C8 acc,(i:Int))) (B5 λν=>JN ν)=some (bif decide ((acc++r.flatMap BU).length≤262144) then(acc++r.flatMap BU,0) else([],3))
 | [],n,i,acc,h,hi,hn,ha=>by
  obtain⟨n,rfl⟩:∃m,n=m+1:=⟨n-1,by simp at hn;omega⟩
  have:l.length≤i:=by simpa using h
  have hb:Gm F l (C8 acc) (i:Int)=some (.out (.go (C8 acc))):=by
   unfold Gm;rw[A0 (AcB (by omega))]
  rw[B7,hb,List.flatMap_nil,Adk,AcC ha];show some (Id (C8 acc),0)=_;rw[Kn];rfl
 | c::r,n,i,acc,h,hi,hn,ha=>by
  obtain⟨n,rfl⟩:∃m,n=m+1:=⟨n-1,by simp at hn;omega⟩
  obtain⟨hat,hlt,hd⟩:=CT h;have hs:=D0 c;have hlen:(acc++(c::r).flatMap BU).length=acc.length+(8+c.length)+(r.flatMap BU).length:=by
   rw[Ad1,AcF,AcF,hs];omega
  have hb:Gm F l (C8 acc) (i:Int)=bif decide (acc.length+(8+c.length)≤262144) then some (.next (C8 (acc++BU c),((i+1:Nat):Int))) else some (.out (.ret ([],3))):=by
   unfold Gm;rw[AF (AcC (by omega)),AP (by omega) (by omega),hat]
   cases h1:decide (262136<c.length) with
   | true=>
    have hsl:OK F c=some ([],3):=by rw[So hF c,h1];rfl
    rw[AI hsl,AcB (p:=acc.length+(8+c.length)≤262144) (by have:=AcK h1;omega)];rfl
   | false=>
    have h1':=AcS h1;have hsl:OK F c=some (BU c,0):=by rw[So hF c,h1];rfl
    have hk:B9 .i64 (((C8 acc).length:Int)+((BU c).length:Int))=true:=HE (by rw[C9,hs];omega) (by rw[C9,hs];omega);rw[AI hsl,BL (by rw[hk];exact Tr _)]
    cases h2:decide (acc.length+(8+c.length)≤262144) with
    | false=>
     have h2':=AcS h2;have hx:decide ((262144:Int)<((C8 acc).length:Int)+((BU c).length:Int))=true:=AcC (by rw[C9,hs];omega);rw[AF (by rw[hx,Adl])];rfl
    | true=>
     have h2':=AcK h2;have hx:decide ((262144:Int)<((C8 acc).length:Int)+((BU c).length:Int))=false:=AcB (by rw[C9,hs];omega);rw[A0 (by rw[hx];rfl),Gn (by rw[C9,hs];omega),AB (by omega) (by omega),Qk];rfl
  rw[B7,hb]
  cases h2:decide (acc.length+(8+c.length)≤262144) with
  | false=>
   have h2':=AcS h2;rw[AcB (p:=(acc++(c::r).flatMap BU).length≤262144) (by rw[hlen];omega)];rfl
  | true=>
   have h2':=AcK h2;have:=OM hF l hl r n (i+1) (acc++BU c) hd (by omega) (by simp at hn;omega) (by rw[AcF,hs];omega);simp only[AcH];rw[this,Ad1,AcU]
theorem Yt {F:Nat}(hF:262200<F){l:List Af}(hl:l.length<F)(hb:l.length≤1000000000):Ss F l=some (PL l):=by
 unfold Ss;have:=OM hF l hb l F 0 [] rfl (by omega) hl (by simp);rw[Adg] at this;exact this
theorem L7 {F:Nat}(hF:262200<F)(l:List Af)(hb:∀b∈l,b.length≤262136)(hl:l.length≤1000000000):∀(r:List Af) (n i:Nat) (acc:Af),l.drop i=r→i≤l.length→r.length<n→(acc++r.flatMap BU).length≤262144→
  Br (B7 (λσ:List Int×Int=>Ew F l σ.1 σ.2) n (C8 acc,(i:Int))) (B5 λν=>I3 ν)=some (acc++r.flatMap BU,0)
 | [],n,i,acc,h,hi,hn,ha=>by
  obtain⟨n,rfl⟩:∃m,n=m+1:=⟨n-1,by simp at hn;omega⟩
  have:l.length≤i:=by simpa using h
  have hb:Ew F l (C8 acc) (i:Int)=some (.out (.go (C8 acc))):=by
   unfold Ew;rw[A0 (AcB (by omega))]
  rw[B7,hb,List.flatMap_nil,Adk];show some (Id (C8 acc),0)=_;rw[Kn]
 | c::r,n,i,acc,h,hi,hn,ha=>by
  obtain⟨n,rfl⟩:∃m,n=m+1:=⟨n-1,by simp at hn;omega⟩
  obtain⟨hat,hlt,hd⟩:=CT h;have hs:=D0 c;have hc:c.length≤262136:=hb c (Ad0 (i:=i) (by rw[h];simp));have hlen:(acc++(c::r).flatMap BU).length=acc.length+(8+c.length)+(r.flatMap BU).length:=by
   rw[Ad1,AcF,AcF,hs];omega
  rw[hlen] at ha;have hbd:Ew F l (C8 acc) (i:Int)=some (.next (C8 (acc++BU c),((i+1:Nat):Int))):=by
   unfold Ew;rw[AF (AcC (by omega)),AP (by omega) (by omega),hat];have hsl:Mv F c=some (BU c,0):=by rw[Vg hF c,AcB (p:=262136<c.length) (by omega)];rfl
   rw[AI hsl,Gn (by rw[C9,hs];omega),AB (by omega) (by omega),Qk];rfl
  rw[B7,hbd];have:=L7 hF l hb hl r n (i+1) (acc++BU c) hd (by omega) (by simp at hn;omega) (by rw[AcF,AcF,hs];omega);simp only;rw[this,Ad1,AcU]
theorem L8 {F:Nat}(l:List Af)(K:Int→Option (Af×Int))(hl:l.length≤1000000000):∀(r:List Af) (n i z:Nat),l.drop i=r→i≤l.length→r.length<n→z≤262144→
  Br (B7 (λσ:Int×Int=>Ex l σ.1 σ.2) n ((z:Int),(i:Int))) (B5 λν=>K ν)=bif decide (z+(r.flatMap BU).length≤262144) then K ((z+(r.flatMap BU).length:Nat):Int) else some ([],3)
 | [],n,i,z,h,hi,hn,hz=>by
  obtain⟨n,rfl⟩:∃m,n=m+1:=⟨n-1,by simp at hn;omega⟩
  have:l.length≤i:=by simpa using h
  have hb:Ex l (z:Int) (i:Int)=some (.out (.go (z:Int))):=by
   unfold Ex;rw[A0 (AcB (by omega))]
  rw[B7,hb,List.flatMap_nil,Adz,Nat.add_zero,AcC hz];rfl
 | c::r,n,i,z,h,hi,hn,hz=>by
  obtain⟨n,rfl⟩:∃m,n=m+1:=⟨n-1,by simp at hn;omega⟩
  obtain⟨hat,hlt,hd⟩:=CT h;have hlen:z+((c::r).flatMap BU).length=z+(8+c.length)+(r.flatMap BU).length:=by
   rw[Ad1,AcF,D0];omega
  have hb:Ex l (z:Int) (i:Int)=bif decide (z+(8+c.length)≤262144) then some (.next (((z+(8+c.length):Nat):Int),((i+1:Nat):Int))) else some (.out (.ret ([],3))):=by
   unfold Ex;rw[AF (AcC (by omega)),AP (by omega) (by omega),hat]
   cases h1:decide (262136<c.length) with
   | true=>
    have h1':=AcK h1;rw[AcC (p:=(262136:Int)<(c.length:Int)) (by omega),AcB (p:=z+(8+c.length)≤262144) (by omega)];rfl
   | false=>
    have h1':=AcS h1;have hk1:B9 .i64 ((z:Int)+8)=true:=HE (by omega) (by omega);have hk2:B9 .i64 ((z:Int)+8+(c.length:Int))=true:=HE (by omega) (by omega);rw[AcB (p:=(262136:Int)<(c.length:Int)) (by omega),BL (by rw[hk1];exact Tr _),BL (by rw[hk2];exact Tr _)]
    cases h2:decide (z+(8+c.length)≤262144) with
    | false=>
     have h2':=AcS h2;rw[AF (by rw[AcC (p:=(262144:Int)<_) (by omega)];rfl)];rfl
    | true=>
     have h2':=AcK h2;rw[A0 (by rw[AcB (p:=(262144:Int)<_) (by omega)];rfl),AB (by omega) (by omega),AB (by omega) (by omega),AB (by omega) (by omega)];rw[show(z:Int)+8+(c.length:Int)=((z+(8+c.length):Nat):Int) from by omega];rfl
  rw[B7,hb,hlen]
  cases h2:decide (z+(8+c.length)≤262144) with
  | false=>
   have h2':=AcS h2;rw[AcB (p:=z+(8+c.length)+(r.flatMap BU).length≤262144) (by omega)];rfl
  | true=>
   have h2':=AcK h2;simp only[AcH];exact L8 (F:=F) l K hl r n (i+1) (z+(8+c.length)) hd (by omega) (by simp at hn;omega) h2'
theorem Vh {F:Nat}(hF:262200<F){l:List Af}(hl:l.length<F)(hb:l.length≤1000000000):On F l=some (PL l):=by
 unfold On;have:=L8 (F:=F) l (Hh F l) hb l F 0 0 rfl (by omega) hl (by omega);rw[Adv] at this;refine Eq.trans this ?_;unfold PL
 cases h:decide ((l.flatMap BU).length≤262144) with
 | false=>rfl
 | true=>
  have h':=AcK h;simp only[AcH];unfold Hh;rw[Int.toNat_natCast,Gn (by omega),BL (AcC (by omega))];have:=L7 hF l (λb hb=>by have:=KL l b hb;omega) hb l F 0 [] rfl (by omega) hl (by rw[Adg];exact h');rw[Adg] at this;exact this
theorem IV:∀a:Af,BE a a=false
 | []=>rfl
 | x::a=>by
  show Op.bytesLess (x::a) (x::a)=false;have h : ¬ x<x:=λh=>absurd h (by simp);have ih:Op.bytesLess a a=false:=IV a;simp[Op.bytesLess,h,ih]
theorem Ql (x y:UInt8)(a b:Af):BE (x::a) (y::b)=(decide (x<y)||(decide (x=y)&&BE a b)):=by
 show Op.bytesLess (x::a) (y::b)=_;simp only[Op.bytesLess]
 by_cases h:x<y
 ·simp[h]
 ·by_cases e:x=y
  ·subst e;simp[h]
  ·have:y<x:=by
    rcases Nat.lt_trichotomy x.toNat y.toNat with h1 | h1 | h1
    ·exact absurd (UInt8.lt_iff_toNat_lt.2 h1) h
    ·exact absurd (UInt8.toNat_inj.1 h1) e
    ·exact UInt8.lt_iff_toNat_lt.2 h1
   simp[h,e,this]
theorem J9:∀{a b c:Af},BE a b=true→BE b c=true→BE a c=true
 | [],[],_,h,_=>by cases h
 | [],_::_,[],_,h=>by cases h
 | [],_::_,_::_,_,_=>rfl
 | _::_,[],_,h,_=>by cases h
 | _::_,_::_,[],_,h=>by cases h
 | x::a,y::b,z::c,h,h'=>by
  rw[Ql] at h h' ⊢;simp only[Adu,Ac9,AcG] at h h' ⊢;have t:∀{u v:UInt8},u<v↔u.toNat<v.toNat:=UInt8.lt_iff_toNat_lt;rcases h with h | ⟨rfl,h⟩
  ·rcases h' with h' | ⟨rfl,h'⟩
   ·exact .inl (t.2 (Nat.lt_trans (t.1 h) (t.1 h')))
   ·exact .inl h
  ·rcases h' with h' | ⟨rfl,h'⟩
   ·exact .inl h'
   ·exact .inr ⟨rfl,J9 h h'⟩
theorem Of:∀(a b:Af),BE a b=true∨a=b∨BE b a=true
 | [],[]=>.inr (.inl rfl)
 | [],_::_=>.inl rfl
 | _::_,[]=>.inr (.inr rfl)
 | x::a,y::b=>by
  rw[Ql,Ql];simp only[Adu,Ac9,AcG];rcases Nat.lt_trichotomy x.toNat y.toNat with h1 | h1 | h1
  ·exact .inl (.inl (UInt8.lt_iff_toNat_lt.2 h1))
  ·have e:=UInt8.toNat_inj.1 h1;subst e;rcases Of a b with h | rfl | h
   ·exact .inl (.inr ⟨rfl,h⟩)
   ·exact .inr (.inl rfl)
   ·exact .inr (.inr (.inr ⟨rfl,h⟩))
  ·exact .inr (.inr (.inl (UInt8.lt_iff_toNat_lt.2 h1)))
theorem WE {a b:Af}(h:BE a b=true):BE b a=false:=by
 cases h':BE b a with
 | false=>rfl
 | true=>have:=J9 h h';rw[IV] at this;cases this
theorem Aay {a b:Af}(h:BE a b=true):a≠b:=λe=>by subst e;rw[IV] at h;cases h
section
variable {T : Type}
def Ms (xs:List (Af×T)):Prop:=xs.Pairwise λp q=>BE p.1 q.1=true
theorem Ms.nil:Ms ([]:List (Af×T)):=List.Pairwise.nil
theorem Ms.nodup {xs:List (Af×T)}(h:Ms xs):(xs.map (·.1)).Nodup:=by
 rw[List.Nodup,List.pairwise_map];exact h.imp λhpq=>Aay hpq
theorem Ez {xs:List (Af×T)}{k:Af}:Bs xs k=none↔∀p∈xs,p.1≠k:=by
 induction xs with
 | nil=>simp[Bs]
 | cons p r ih=>
  rw[Bs]
  by_cases h:p.1=k
  ·rw[AcC h];simp[h]
  ·rw[AcB h];simp[h,ih]
theorem Cq {xs:List (Af×T)}{k:Af}{v:T}(h:Bs xs k=some v):(k,v)∈xs:=by
 induction xs with
 | nil=>cases h
 | cons p r ih=>
  rw[Bs] at h
  by_cases e:p.1=k
  ·rw[AcC e] at h;cases h;subst e;exact List.mem_cons_self ..
  ·rw[AcB e] at h;exact List.mem_cons_of_mem _ (ih h)
theorem O1 {xs:List (Af×T)}{k:Af}{v:T}(hn:(xs.map (·.1)).Nodup)(h:(k,v)∈xs):Bs xs k=some v:=by
 induction xs with
 | nil=>cases h
 | cons p r ih=>
  rw[Adx,List.nodup_cons] at hn;rw[Bs];rcases List.mem_cons.1 h with h | h
  ·subst h;rw[AcC rfl];rfl
  ·have hne : ¬ p.1=k:=λe=>hn.1 (by rw[e];exact List.mem_map.2 ⟨(k,v),h,rfl⟩);rw[AcB hne];exact ih hn.2 h
theorem Vy (xs:List (Af×T))(k k':Af)(v:T):Bs (mput xs k v) k'=bif decide (k'=k) then(Bs xs k).map (λ_=>v) else Bs xs k':=by
 induction xs with
 | nil=>cases decide (k'=k)<;>rfl
 | cons p r ih=>
  show Bs ((bif decide (p.1=k) then(k,v) else p)::mput r k v) k'=_
  by_cases h:p.1=k
  ·rw[AcC h];simp only[AcH,Bs]
   by_cases e:k'=k
   ·subst e;rw[AcC rfl,h,AcC rfl];rfl
   ·rw[AcB (Ne.symm e),AcB e,ih,AcB e,h,AcB (Ne.symm e)];rfl
  ·rw[AcB h];simp only[AcD,Bs];rw[ih]
   by_cases e:k'=k
   ·subst e;rw[AcC rfl,AcB h];rfl
   ·rw[AcB e]
    cases decide (p.1=k')<;>rfl
theorem Vz (xs:List (Af×T))(k k':Af)(v:T)(h:Bs xs k=none):Bs (mins k v xs) k'=bif decide (k'=k) then some v else Bs xs k':=by
 induction xs with
 | nil=>
  show(bif decide (k=k') then some v else none)=bif decide (k'=k) then some v else none
  by_cases e:k'=k
  ·rw[AcC e,AcC e.symm]
  ·rw[AcB e,AcB (Ne.symm e)]
 | cons p r ih=>
  rw[Bs] at h
  by_cases hk:p.1=k
  ·rw[AcC hk] at h;cases h
  ·rw[AcB hk] at h;rw[mins]
   cases BE k p.1 with
   | true=>
    simp only[AcH,Bs]
    by_cases e:k'=k
    ·subst e;rw[AcC rfl]
     try rfl
    ·rw[AcB e,AcB (Ne.symm e)]
     try rfl
   | false=>
    simp only[AcD,Bs];rw[ih h]
    by_cases e:k'=k
    ·subst e;rw[AcC rfl,AcB hk];rfl
    ·rw[AcB e]
     cases decide (p.1=k')<;>rfl
theorem IA (xs:List (Af×T))(k k':Af)(v:T):Bs (mset xs k v) k'=bif decide (k'=k) then some v else Bs xs k':=by
 unfold mset Cp
 cases h:Bs xs k with
 | none=>exact Vz xs k k' v h
 | some w=>
  simp only[Option.isSome_some,AcH];rw[Vy,h]
  cases decide (k'=k)<;>rfl
theorem V0 (xs:List (Af×T))(k k':Af):Bs (mdel xs k) k'=bif decide (k'=k) then none else Bs xs k':=by
 unfold mdel
 induction xs with
 | nil=>cases decide (k'=k)<;>rfl
 | cons p r ih=>
  by_cases h:p.1=k
  ·rw[List.filter_cons_of_neg (by simp[h]),ih,Bs]
   by_cases e:k'=k
   ·rw[AcC e];rfl
   ·rw[AcB e,h,AcB (Ne.symm e)];rfl
  ·rw[List.filter_cons_of_pos (by simp[h]),Bs,Bs,ih]
   by_cases e:k'=k
   ·rw[AcC e,e,AcB h];rfl
   ·rw[AcB e]
    cases decide (p.1=k')<;>rfl
theorem O3 {k:Af}{v:T}{q:Af×T}:∀{xs:List (Af×T)},q∈mins k v xs→q=(k,v)∨q∈xs
 | [],h=>by simp[mins] at h;exact .inl h
 | p::r,h=>by
  rw[mins] at h
  cases hs:BE k p.1 with
  | true=>rw[hs] at h;simpa using h
  | false=>
   rw[hs] at h;rcases List.mem_cons.1 h with h | h
   ·exact .inr (by rw[h];exact List.mem_cons_self ..)
   ·rcases O3 h with h | h
    ·exact .inl h
    ·exact .inr (List.mem_cons_of_mem _ h)
theorem Ms.mins {k:Af}{v:T}:∀{xs:List (Af×T)},Ms xs→Bs xs k=none→Ms (mins k v xs)
 | [],_,_=>List.pairwise_singleton ..
 | p::r,h,hk=>by
  obtain⟨h1,h2⟩:=List.pairwise_cons.1 h;rw[Bs] at hk
  by_cases e:p.1=k
  ·rw[AcC e] at hk;cases hk
  ·rw[AcB e] at hk;rw[Proofs.YtjfnokmpfekniaaGreatDoor.mins]
   cases hs:BE k p.1 with
   | true=>exact List.pairwise_cons.2 ⟨λq hq=>by
     rcases List.mem_cons.1 hq with rfl | hq
     ·exact hs
     ·exact J9 hs (h1 q hq),h⟩
   | false=>
    have hp:BE p.1 k=true:=by
     rcases Of p.1 k with h | h | h
     ·exact h
     ·exact absurd h e
     ·rw[h] at hs;cases hs
    exact List.pairwise_cons.2 ⟨λq hq=>by
     rcases O3 hq with rfl | hq
     ·exact hp
     ·exact h1 q hq,Ms.mins h2 hk⟩
theorem Ms.mput {xs:List (Af×T)}(h:Ms xs)(k:Af)(v:T):Ms (mput xs k v):=by
 unfold Proofs.YtjfnokmpfekniaaGreatDoor.mput;unfold Ms;rw[List.pairwise_map];refine h.imp fun {p q} hpq=>?_;have e:∀p:Af×T,(bif decide (p.1=k) then(k,v) else p).1=p.1:=λp=>by
  by_cases hp:p.1=k
  ·rw[AcC hp];exact hp.symm
  ·rw[AcB hp];rfl
 rw[e,e];exact hpq
theorem Ms.mset {xs:List (Af×T)}(h:Ms xs)(k:Af)(v:T):Ms (mset xs k v):=by
 unfold Proofs.YtjfnokmpfekniaaGreatDoor.mset Cp
 cases hk:Bs xs k with
 | none=>exact h.mins hk
 | some w=>exact h.mput k v
theorem Ms.mdel {xs:List (Af×T)}(h:Ms xs)(k:Af):Ms (mdel xs k):=h.sublist (List.filter_sublist ..)
theorem Ms.ext:∀{xs ys:List (Af×T)},Ms xs→Ms ys→(∀k,Bs xs k=Bs ys k)→xs=ys
 | [],[],_,_,_=>rfl
 | [],q::s,_,_,h=>by
  have:=h q.1;rw[Bs,Bs,AcC rfl] at this;cases this
 | p::r,[],_,_,h=>by
  have:=h p.1;rw[Bs,Bs,AcC rfl] at this;cases this
 | p::r,q::s,hx,hy,h=>by
  obtain⟨x1,x2⟩:=List.pairwise_cons.1 hx;obtain⟨y1,y2⟩:=List.pairwise_cons.1 hy;have hpq:p.1=q.1:=by
   have a1:=h p.1;have a2:=h q.1;rw[Bs,AcC rfl] at a1;rw[show Bs (q::s) q.1=bif decide (q.1=q.1) then some q.2 else Bs s q.1 from rfl,AcC rfl] at a2;simp only[AcH] at a1 a2;have m1:=Cq a1.symm;have m2:=Cq a2;rcases List.mem_cons.1 m1 with e | m1
   ·exact congrArg Prod.fst e
   ·rcases List.mem_cons.1 m2 with e | m2
    ·exact(congrArg Prod.fst e).symm
    ·have c1:=y1 _ m1;have c2:=x1 _ m2;have:=J9 c1 c2;rw[IV] at this;cases this
  have e:p=q:=by
   have a1:=h p.1;rw[Bs,AcC rfl,Bs,AcC hpq.symm] at a1;simp only[AcH,Option.some.injEq] at a1;exact Prod.ext hpq a1
  subst e;rw[Ms.ext x2 y2 λk=>by
   have a1:=h k;rw[Bs,Bs] at a1
   by_cases e:p.1=k
   ·have n1:Bs r k=none:=Ez.2 λz hz e'=>by have:=x1 z hz;rw[e',← e,IV] at this;cases this
    have n2:Bs s k=none:=Ez.2 λz hz e'=>by have:=y1 z hz;rw[e',← e,IV] at this;cases this
    rw[n1,n2]
   ·rw[AcB e] at a1;exact a1]
theorem RN (k:Af)(v:T)(xs:List (Af×T)):(mins k v xs).length=xs.length+1:=(M3 k v xs).length_eq
theorem JJ (xs:List (Af×T))(k:Af)(v:T):(mset xs k v).length=bif Cp xs k then xs.length else xs.length+1:=by
 unfold mset
 cases Cp xs k with
 | true=>simp[mput]
 | false=>simp[RN]
theorem RS {xs:List (Af×T)}(h:Ms xs)(k:Af):(mdel xs k).length=bif Cp xs k then xs.length-1 else xs.length:=by
 induction xs with
 | nil=>rfl
 | cons p r ih=>
  obtain⟨h1,h2⟩:=List.pairwise_cons.1 h;unfold mdel Cp at *;rw[Bs]
  by_cases e:p.1=k
  ·have hn:r.filter (λq=>!decide (q.1=k))=r:=List.filter_eq_self.2 λq hq=>by
    have:=h1 q hq;have hne:q.1≠k:=λe'=>by rw[e',← e,IV] at this;cases this
    simp[hne]
   rw[List.filter_cons_of_neg (by simp[e]),hn,AcC e];rfl
  ·rw[List.filter_cons_of_pos (by simp[e]),AcB e,AcE,ih h2]
   cases hg:Bs r k with
   | none=>rfl
   | some w=>
    have:=Cq hg;have:0<r.length:=List.length_pos_of_mem this;show r.length-1+1=(r.length+1)-1;omega
end
theorem RY {T St R:Type}(body:T→St→Option (Stp St (Out R St)))(g:T→St→St)(I:St→Prop):∀(ord:List T) (s:St),I s→(∀p∈ord,∀s,I s→body p s=some (.next (g p s))∧I (g p s))→V3 body ord s=some (.go (ord.foldl (λs p=>g p s) s))∧I (ord.foldl (λs p=>g p s) s)
 | [],s,hi,_=>⟨rfl,hi⟩
 | p::r,s,hi,h=>by
  obtain⟨h1,h2⟩:=h p (List.mem_cons_self ..) s hi;obtain⟨h3,h4⟩:=RY body g I r (g p s) h2 λq hq=>h q (List.mem_cons_of_mem _ hq);exact⟨by rw[V3,h1];exact h3,h4⟩
section
variable {T : Type}
theorem Vx {xs ys:List (Af×T)}(h:ys.Perm xs)(hn:(xs.map (·.1)).Nodup)(k:Af):Bs ys k=Bs xs k:=by
 have hn':(ys.map (·.1)).Nodup:=(h.map _).nodup_iff.2 hn
 cases e:Bs xs k with
 | none=>exact Ez.2 λp hp=>(Ez.1 e) p (h.subset hp)
 | some v=>exact O1 hn' (h.symm.subset (Cq e))
def NH (del:T→Bool)(xs:List (Af×T))(p:Af×T):List (Af×T):=bif del p.2 then mdel xs p.1 else mset xs p.1 p.2
theorem YQ {del:T→Bool}{xs:List (Af×T)}(h:Ms xs)(p:Af×T):Ms (NH del xs p):=by
 unfold NH
 cases del p.2 with
 | true=>exact h.mdel _
 | false=>exact h.mset _ _
theorem Md {del:T→Bool}:∀(ord:List (Af×T)) {xs:List (Af×T)},Ms xs→Ms (ord.foldl (NH del) xs)
 | [],_,h=>h
 | p::r,_,h=>Md r (YQ h p)
theorem RQ {del:T→Bool}(xs:List (Af×T))(p:Af×T)(k:Af):Bs (NH del xs p) k=bif decide (k=p.1) then(bif del p.2 then none else some p.2) else Bs xs k:=by
 unfold NH
 cases del p.2 with
 | true=>exact V0 xs p.1 k
 | false=>exact IA xs p.1 k p.2
theorem Kr {del:T→Bool}:∀(ord:List (Af×T)) (xs:List (Af×T)) (k:Af),(ord.map (·.1)).Nodup→Bs (ord.foldl (NH del) xs) k=match Bs ord k with
  | none=>Bs xs k
  | some v=>bif del v then none else some v
 | [],xs,k,_=>rfl
 | p::r,xs,k,h=>by
  rw[Adx,List.nodup_cons] at h;rw[List.foldl_cons,Kr r _ k h.2,Bs,RQ]
  by_cases e:p.1=k
  ·have hn:Bs r k=none:=Ez.2 λq hq e'=>h.1 (by rw[e,← e'];exact List.mem_map.2 ⟨q,hq,rfl⟩);rw[hn,AcC e,AcC e.symm];rfl
  ·rw[AcB e,AcB (Ne.symm e)];rfl
theorem Wc {del:T→Bool}{xs ys zs:List (Af×T)}(hz:Ms zs)(hx:Ms xs)(h:ys.Perm xs):ys.foldl (NH del) zs=xs.foldl (NH del) zs:=
 Ms.ext (Md ys hz) (Md xs hz) λk=>by
  rw[Kr ys zs k ((h.map _).nodup_iff.2 hx.nodup),Kr xs zs k hx.nodup,Vx h hx.nodup]
end
theorem TR {R V:Type}(K:V→Option R)(v:V):B5 K (.go v)=K v:=rfl
theorem AaS {R V:Type}(K:V→Option R)(r:R):B5 K (.ret r)=some r:=rfl
theorem IC {α R U:Type}[Inhabited α](l:List α)(P:α→Prop)(B:R→Prop)(u:U)(body:Int→Option (Stp Int (Out R U)))
  (h1:∀(x:Int) (c:α),0≤x→x<(l.length:Int)→c∈l→Ao l x=c→(body x=some (.next (x+1))∧P c)∨∃q,body x=some (.out (.ret q))∧B q)
  (h2:body (l.length:Int)=some (.out (.go u))) {F:Nat} (hF:l.length<F) :
  ∃o,B7 body F 0=some o∧((∃q,o = .ret q∧B q)∨(o = .go u∧∀c∈l,P c)):=by
 refine Gj (λx=>0≤x∧x≤(l.length:Int)∧∀c∈l.take x.toNat,P c) (λx=>l.length-x.toNat) _ (λx ⟨h0,hl,ha⟩=>?_) F 0 ⟨AcX 0,by omega,by simp⟩ (by show l.length-0<F;omega)
 by_cases hx:x<(l.length:Int)
 ·obtain⟨c,hc⟩:∃c,l[x.toNat]? =some c:=⟨l[x.toNat]'(by omega),AcL (by omega)⟩
  have hat:Ao l x=c:=by simp[Ao,hc]
  rcases h1 x c h0 hx (AcO hc) hat with⟨hb,hp⟩ | ⟨q,hb,hq⟩
  ·refine .inl ⟨x+1,hb,⟨by omega,by omega,λd hd=>?_⟩,by omega⟩;rw[show(x+1).toNat=x.toNat+1 from by omega,List.take_add_one,hc] at hd;simp only[Option.toList_some,List.mem_append,Ad6,List.not_mem_nil,or_false] at hd;rcases hd with hd | rfl
   ·exact ha d hd
   ·exact hp
  ·exact .inr ⟨.ret q,hb,.inl ⟨q,rfl,hq⟩⟩
 ·have e:x=(l.length:Int):=by omega
  subst e;refine .inr ⟨.go u,h2,.inr ⟨rfl,λc hc=>ha c ?_⟩⟩;rw[show((l.length:Int)).toNat=l.length from by omega,Ad5];exact hc
structure SmC (c:Ad):Prop where
 key:c.fKey.length≤300
 val:c.fValue.length≤300
 cells:∀x∈c.fValue,x.fStr.length≤5000
structure SmP (l:List Ad):Prop where
 len:l.length≤300
 all:∀c∈l,SmC c
theorem XK {F:Nat}(hF:5000<F)(l:List Ad):∃b,O7 F l=some b∧(b=true→SmP l):=by
 unfold O7
 by_cases hl:(300:Int)<(l.length:Int)
 ·rw[AF (AcC hl)];exact⟨false,rfl,λh=>by cases h⟩
 ·rw[A0 (AcB hl)];obtain⟨o,h1,h2⟩:=IC l SmC (λq=>q=false) () (λσ=>Dn F l σ) (λx c h0 hx hc hat=>by
   by_cases hk:(300:Int)<(c.fKey.length:Int)∨(300:Int)<(c.fValue.length:Int)
   ·refine .inr ⟨false,?_,rfl⟩;show Dn F l x=_;unfold Dn;rw[AF (AcC hx),AP h0 hx,hat,AF (by simpa using hk)]
   ·obtain⟨o,g1,g2⟩:=IC c.fValue (λy=>y.fStr.length≤5000) (λq=>q = .out (.ret false)) (((c.fValue.length:Int)),decide ((c.fValue.length:Int)<(c.fValue.length:Int))) (λσ=>D5 l x σ) (λy d y0 yx yc yat=>by
     by_cases hd:(5000:Int)<(d.fStr.length:Int)
     ·refine .inr ⟨_,?_,rfl⟩;show D5 l x y=_;unfold D5;rw[hat,AF (AcC yx),AP y0 yx,yat,AF (AcC hd)]
     ·refine .inl ⟨?_,by omega⟩;show D5 l x y=_;unfold D5;rw[hat,AF (AcC yx),AP y0 yx,yat,A0 (AcB hd),AB (by omega) (by omega)]) (by
     show D5 l x _=_;unfold D5;rw[hat,A0 (AcB (by omega))]) (F:=F) (by omega)
    have hb:Dn F l x=Br (some o) (B5 λν=>Hj x ν.1 ν.2):=by
     unfold Dn;rw[AF (AcC hx),AP h0 hx,g1,hat,A0 (by simpa using hk)]
    rcases g2 with⟨q,rfl,rfl⟩ | ⟨rfl,g⟩
    ·exact .inr ⟨false,hb,rfl⟩
    ·refine .inl ⟨?_,⟨by omega,by omega,g⟩⟩;show Dn F l x=_;rw[hb,AI rfl,TR];unfold Hj;rw[AB (by omega) (by omega)]) (by
   show Dn F l _=_;unfold Dn;rw[A0 (AcB (by omega))]) (F:=F) (by omega)
  rw[AI h1];rcases h2 with⟨q,rfl,rfl⟩ | ⟨rfl,h⟩
  ·exact⟨false,rfl,λh=>by cases h⟩
  ·exact⟨true,rfl,λ_=>⟨by omega,h⟩⟩
structure OkC (c:Ad):Prop where
 iv : -9223372036854775808≤c.fIfVersion∧c.fIfVersion≤9223372036854775807
 cells:∀x∈c.fValue,B9 .i64 x.fInt=true∧x.fN≤9223372036854775807
theorem Aai {v:List Aa}:GO v≠19:=by
 unfold GO
 cases whole v with
 | none=>decide
 | some f=>
  show ER f≠19;unfold ER
  cases f.flat.any BT with
  | true=>show(2:Int)≠19;decide
  | false=>
   simp only[AcD]
   cases(f.flat.any H8||(decide (200<f.flat.length)||(decide (8<f.dep)||decide (4000<(f.txt true).length))))<;>decide
theorem XT {F:Nat}(hF:5000<F){c:Ad}(hs:SmC c)(ho:OkC c):∃e,HD F c=some e∧e≠19:=by
 have hA:Hn 5000 c.fValue:=⟨by decide,by have:=hs.val;omega,λx hx=>⟨hs.cells x hx,(ho.cells x hx).1,(ho.cells x hx).2⟩⟩
 unfold HD;rw[Iu hA (by decide) hF,AI rfl]
 cases Pd c.fKey with
 | false=>exact⟨4,rfl,by decide⟩
 | true=>
  rw[A0 (p:=!true) rfl]
  cases(decide (c.fIfVersion<(-1))||decide (1000000000000<c.fIfVersion)) with
  | true=>exact⟨2,rfl,by decide⟩
  | false=>
   rw[A0 rfl]
   cases(c.fDelete&&decide (0<(c.fValue.length:Int))) with
   | true=>exact⟨7,rfl,by decide⟩
   | false=>
    rw[A0 rfl]
    cases c.fDelete with
    | true=>exact⟨0,rfl,by decide⟩
    | false=>exact⟨_,rfl,Aai⟩
def zI:Ae:=⟨[],[],0⟩
def Jg (q:AM)(k:Af):Ae:=(Bs q.fChanged k).getD ((Bs q.fItems k).getD zI)
def JP (q:AM)(c:Ad)(size:Int):Int×Int×AM:=
 bif (decide (0≤c.fIfVersion))&&(!decide (c.fIfVersion=(Jg q c.fKey).fVersion)) then(0,19,q) else
 bif c.fDelete then(bif decide (0<(Jg q c.fKey).fVersion) then size-1 else size,0,⟨q.fItems,mset q.fChanged c.fKey zI⟩) else
 bif (decide ((Jg q c.fKey).fVersion=0))&&(decide (256≤size)) then(0,3,q) else
 bif decide (1000000000000≤(Jg q c.fKey).fVersion) then(0,8,q) else
 (bif decide ((Jg q c.fKey).fVersion=0) then size+1 else size,0,⟨q.fItems,mset q.fChanged c.fKey ⟨c.fKey,c.fValue,(Jg q c.fKey).fVersion+1⟩⟩)
theorem ZO (q:AM)(k:Af):XP q k=some (Jg q k,q):=by
 unfold XP Jg Cp Cw
 cases Bs q.fChanged k<;>rfl
theorem Qc {ys:List Aa}(h:ys.length≤1000000):Lk ys=some ys:=by
 unfold Lk;rw[BL (by unfold Dw;simp only[Adz,Ac9];omega)];rfl
theorem Tp {q:AM}{c:Ad}{size:Int}(hs : -1000000000≤size∧size≤1000000000)(hv:0≤(Jg q c.fKey).fVersion)(hl:c.fValue.length≤300):Kv q c size=some (JP q c size):=by
 unfold Kv JP G4;rw[ZO,AI rfl,Qc (by omega)];generalize Jg q c.fKey=x at hv;simp only
 cases(decide (0≤c.fIfVersion)&&!decide (c.fIfVersion=x.fVersion)) with
 | true=>rfl
 | false=>
  rw[A0 rfl]
  cases c.fDelete with
  | true=>
   rw[AF rfl]
   cases decide (0<x.fVersion) with
   | true=>rw[AF rfl,AB (by omega) (by omega)];rfl
   | false=>rfl
  | false=>
   rw[A0 rfl]
   cases(decide (x.fVersion=0)&&decide (256≤size)) with
   | true=>rfl
   | false=>
    rw[A0 rfl]
    cases hb:decide ((1000000000000:Int)≤x.fVersion) with
    | true=>rfl
    | false=>
     have hb':=AcS hb;rw[A0 rfl]
     cases decide (x.fVersion=0) with
     | true=>rw[AF rfl,AB (by omega) (by omega),AI rfl,AB (by omega) (by omega)];rfl
     | false=>rw[A0 rfl,AI rfl,AB (by omega) (by omega)];rfl
theorem H6 {T:Type}{xs:List (Af×T)}{k:Af}{v:T}{p:Af×T}(h:p∈mset xs k v):p=(k,v)∨p∈xs:=by
 unfold mset at h
 cases hh:Cp xs k with
 | false=>rw[hh] at h;exact O3 h
 | true=>
  rw[hh] at h;obtain⟨q,hq,e⟩:=List.mem_map.1 h
  cases hk:decide (q.1=k) with
  | true=>rw[hk] at e;exact .inl e.symm
  | false=>rw[hk] at e;exact .inr (e▸hq)
theorem RR {T:Type}{xs:List (Af×T)}{k:Af}{p:Af×T}(h:p∈mdel xs k):p∈xs:=(List.mem_filter.1 h).1
theorem ZD {T:Type}{del:T→Bool}{xs:List (Af×T)}{q p:Af×T}(h:p∈NH del xs q):p∈xs∨(p=q∧del p.2=false):=by
 unfold NH at h
 cases hd:del q.2 with
 | true=>rw[hd] at h;exact .inl (RR h)
 | false=>
  rw[hd] at h;rcases H6 h with e | h
  ·exact .inr ⟨e,by rw[e];exact hd⟩
  ·exact .inl h
theorem LK {T:Type}{del:T→Bool}{p:Af×T}:∀{ord xs:List (Af×T)},p∈ord.foldl (NH del) xs→p∈xs∨(p∈ord∧del p.2=false)
 | [],xs,h=>.inl h
 | q::r,xs,h=>by
  rcases LK (ord:=r) h with h | ⟨h,h'⟩
  ·rcases ZD h with h2 | ⟨h2,h3⟩
   ·exact .inl h2
   ·exact .inr ⟨by rw[h2];exact List.mem_cons_self ..,h3⟩
  ·exact .inr ⟨List.mem_cons_of_mem _ h,h'⟩
structure Mg (xs:List (Af×Ae)):Prop where
 ms:Ms xs
 ok:∀p∈xs,0≤p.2.fVersion∧p.2.fVersion≤1000000000000∧p.2.fValue.length≤300
theorem Mg.nil:Mg []:=⟨Ms.nil,λ_ h=>by cases h⟩
theorem Mg.set {xs:List (Af×Ae)}(h:Mg xs){k:Af}{v:Ae}(hv:0≤v.fVersion∧v.fVersion≤1000000000000∧v.fValue.length≤300):Mg (mset xs k v):=
 ⟨h.ms.mset k v,λp hp=>by
  rcases H6 hp with rfl | hp
  ·exact hv
  ·exact h.ok p hp⟩
theorem Wi:0≤zI.fVersion∧zI.fVersion≤1000000000000∧zI.fValue.length≤300:=by decide
theorem Mg.get {xs:List (Af×Ae)}(h:Mg xs)(k:Af):0≤((Bs xs k).getD zI).fVersion∧((Bs xs k).getD zI).fVersion≤1000000000000∧((Bs xs k).getD zI).fValue.length≤300:=by
 cases e:Bs xs k with
 | none=>exact Wi
 | some v=>exact h.ok _ (Cq e)
theorem Ut {q:AM}(h1:Mg q.fItems)(h2:Mg q.fChanged)(k:Af):0≤(Jg q k).fVersion∧(Jg q k).fVersion≤1000000000000∧(Jg q k).fValue.length≤300:=by
 unfold Jg
 cases e:Bs q.fChanged k with
 | none=>exact h1.get k
 | some v=>exact h2.ok _ (Cq e)
theorem YF {q:AM}{c:Ad}{size:Int}(h1:Mg q.fItems)(h2:Mg q.fChanged)(hl:c.fValue.length≤300) :
  (JP q c size).2.2.fItems=q.fItems∧Mg (JP q c size).2.2.fChanged∧(JP q c size).2.2.fChanged.length≤q.fChanged.length+1∧((JP q c size).2.1=0→size-1≤(JP q c size).1∧(JP q c size).1≤size+1):=by
 have hc:=Ut h1 h2 c.fKey;have hm:∀v:Ae,(mset q.fChanged c.fKey v).length≤q.fChanged.length+1:=λv=>by rw[JJ];cases Cp q.fChanged c.fKey<;>simp
 unfold JP;generalize Jg q c.fKey=x at hc
 cases(decide (0≤c.fIfVersion)&&!decide (c.fIfVersion=x.fVersion)) with
 | true=>exact⟨rfl,h2,Nat.le_succ _,λh=>by cases h⟩
 | false=>
  cases c.fDelete with
  | true=>
   refine⟨rfl,h2.set Wi,hm _,λ_=>?_⟩;show size-1≤(bif decide (0<x.fVersion) then size-1 else size)∧(bif decide (0<x.fVersion) then size-1 else size)≤size+1
   cases decide (0<x.fVersion)<;>simp only[AcH,AcD]<;>omega
  | false=>
   cases(decide (x.fVersion=0)&&decide (256≤size)) with
   | true=>exact⟨rfl,h2,Nat.le_succ _,λh=>by cases h⟩
   | false=>
    cases hb:decide ((1000000000000:Int)≤x.fVersion) with
    | true=>exact⟨rfl,h2,Nat.le_succ _,λh=>by cases h⟩
    | false=>
     have hb':=AcS hb;refine⟨rfl,h2.set ⟨?_,?_,hl⟩,hm _,λ_=>?_⟩
     ·show 0≤x.fVersion+1;omega
     ·show x.fVersion+1≤1000000000000;omega
     ·show size-1≤(bif decide (x.fVersion=0) then size+1 else size)∧(bif decide (x.fVersion=0) then size+1 else size)≤size+1
      cases decide (x.fVersion=0)<;>simp only[AcH,AcD]<;>omega
def Il:List Ad→Int→AM→Int×AM
 | [],_,q=>(0,q)
 | c::r,size,q=>bif !decide ((JP q c size).2.1=0) then((JP q c size).2.1,(JP q c size).2.2) else Il r (JP q c size).1 (JP q c size).2.2
theorem QH:∀(l:List Ad) {q:AM} {size:Int},(∀c∈l,c.fValue.length≤300)→Mg q.fItems→Mg q.fChanged→(Il l size q).2.fItems=q.fItems∧Mg (Il l size q).2.fChanged∧(Il l size q).2.fChanged.length≤q.fChanged.length+l.length
 | [],q,size,_,h1,h2=>⟨rfl,h2,AcY _⟩
 | c::r,q,size,hl,h1,h2=>by
  obtain⟨a1,a2,a3,_⟩:=YF (size:=size) h1 h2 (hl c (List.mem_cons_self ..));rw[Il]
  cases decide ((JP q c size).2.1=0) with
  | false=>exact⟨a1,a2,by simp only[AcE];exact Nat.le_trans a3 (by omega)⟩
  | true=>
   obtain⟨b1,b2,b3⟩:=QH r (q:=(JP q c size).2.2) (size:=(JP q c size).1) (λd hd=>hl d (List.mem_cons_of_mem _ hd)) (by rw[a1];exact h1) a2;exact⟨b1.trans a1,b2,by simp only[AcE,AcP,AcD];omega⟩
def AaR (t:Int×AM):Out (Int×AM) ((List (Af×Ae))×(List (Af×Ae))):=bif !decide (t.1=0) then .ret t else .go (t.2.fItems,t.2.fChanged)
theorem Sg {l:List Ad}(hlen:l.length≤300)(hsm:∀c∈l,c.fValue.length≤300)(r:List Ad):∀(F:Nat) (size x:Int) (q:AM),0≤x→x+r.length=l.length→l.drop x.toNat=r→r.length<F→Mg q.fItems→Mg q.fChanged→-1000000+(r.length:Int)≤size→size≤1000000-(r.length:Int)→
  B7 (λσ=>E0 l σ.1 σ.2.1 σ.2.2.1 σ.2.2.2) F (size,x,q.fItems,q.fChanged)=some (AaR (Il r size q)):=by
 induction r with
 | nil=>
  intro F size x q h0 hx hd hF h1 h2 hs1 hs2;obtain⟨F,rfl⟩:∃G,F=G+1:=⟨F-1,by simp at hF;omega⟩
  have hx':x=(l.length:Int):=by simpa using hx
  have hb:E0 l size x q.fItems q.fChanged=some (.out (.go (q.fItems,q.fChanged))):=by
   unfold E0;rw[A0 (AcB (by omega))]
  rw[B7];simp only[hb];rfl
 | cons c r ih=>
  intro F size x q h0 hx hd hF h1 h2 hs1 hs2;simp only[AcE] at hx hF hs1 hs2;obtain⟨F,rfl⟩:∃G,F=G+1:=⟨F-1,by omega⟩
  have hxl:x<(l.length:Int):=by omega
  have hc:l[x.toNat]? =some c:=by
   have:=congrArg (·[0]?) hd;simpa using this
  have hat:Ao l x=c:=by simp[Ao,hc]
  have hm:c∈l:=AcO hc;have hq:=Ut h1 h2 c.fKey;have hch:Kv q c size=some (JP q c size):=Tp ⟨by omega,by omega⟩ hq.1 (hsm c hm);obtain⟨a1,a2,_,a4⟩:=YF (size:=size) h1 h2 (hsm c hm);have hb:E0 l size x q.fItems q.fChanged=Bf (!decide ((JP q c size).2.1=0)) (some (.out (.ret ((JP q c size).2.1,(JP q c size).2.2)))) (some (.next ((JP q c size).1,x+1,(JP q c size).2.2.fItems,(JP q c size).2.2.fChanged))):=by
   unfold E0;rw[AF (AcC hxl),AP h0 hxl,hat,hch,AI rfl,AB (by omega) (by omega)]
  rw[B7];simp only[hb];rw[Il];generalize hg:JP q c size=t at a1 a2 a4
  cases he:decide (t.2.1=0) with
  | false=>
   simp only[Ada,AcH,Bf];rw[AaR];simp only[he];rfl
  | true=>
   obtain⟨s1,s2⟩:=a4 (AcK he);simp only[AcP,AcD,Bf];have hd2:l.drop (x+1).toNat=r:=by
    have:=congrArg (·.drop 1) hd;rw[AdC] at this;rw[show(x+1).toNat=x.toNat+1 from by omega];simpa using this
   exact ih F _ (x+1) t.2.2 (by omega) (by omega) hd2 (by omega) (by rw[a1];exact h1) a2 (by omega) (by omega)
def IM (x:Ae):Bool:=decide (x.fVersion=0)
theorem Q5 {xs ys:List (Af×Ae)}(hx:Ms xs)(hy:Ms ys):G5 xs ys=some (0,⟨ys.foldl (NH IM) xs,ys⟩):=by
 unfold G5;refine AaW λp hp=>?_;obtain⟨h1,_⟩:=RY (λp τ=>Hl p.1 p.2 τ) (λp τ=>NH IM τ p) (λ_=>True) p xs trivial (λz _ s _=>⟨by
  unfold Hl NH;show _=some (Stp.next (bif IM z.2 then _ else _))
  cases hd:IM z.2 with
  | true=>exact(AF (show decide (z.2.fVersion=0)=true from hd)).trans rfl
  | false=>exact(A0 (show decide (z.2.fVersion=0)=false from hd)).trans rfl,trivial⟩)
 rw[h1,AI rfl,TR];show some (0,AM.mk (p.foldl (NH IM) xs) ys)=_;rw[Wc hx hy hp]
def SA (e0:Int)(q:AM)(l:List Ad):Int×AM:=
 bif !decide (e0=0) then(e0,q) else
 bif !decide ((Il l (q.fItems.length:Int) ⟨q.fItems,[]⟩).1=0) then Il l (q.fItems.length:Int) ⟨q.fItems,[]⟩ else
 (0,⟨(Il l (q.fItems.length:Int) ⟨q.fItems,[]⟩).2.fChanged.foldl (NH IM) q.fItems,(Il l (q.fItems.length:Int) ⟨q.fItems,[]⟩).2.fChanged⟩)
theorem VC {F:Nat}(hF:5000<F){q:AM}{l:List Ad}{e0:Int}(he:HA F l=some e0)(hs:SmP l)(hq:Mg q.fItems)(hn:q.fItems.length≤100000):Ih F q l=some (SA e0 q l):=by
 have hlen:=hs.len;have hsm:∀c∈l,c.fValue.length≤300:=λc hc=>(hs.all c hc).val;unfold Ih SA LQ;rw[AI rfl,A0 (p:=!true) rfl,he,AI rfl]
 cases decide (e0=0) with
 | false=>rfl
 | true=>
  rw[A0 (p:=!true) rfl];have hl:=Sg hlen hsm l F (q.fItems.length:Int) 0 ⟨q.fItems,[]⟩ (by omega) (by omega) (by simp) (by omega) hq Mg.nil (by omega) (by omega);rw[AI hl];obtain⟨b1,b2,_⟩:=QH l (q:=⟨q.fItems,[]⟩) (size:=(q.fItems.length:Int)) hsm hq Mg.nil;generalize Il l (q.fItems.length:Int) ⟨q.fItems,[]⟩=t at b1 b2;unfold AaR
  cases hd:decide (t.1=0) with
  | false=>rfl
  | true=>
   show G5 t.2.fItems t.2.fChanged=_;rw[b1,Q5 hq.ms b2.ms];rfl
structure QOk (q:AM) (n:Nat):Prop where
 ok:Mg q.fItems
 pos:∀p∈q.fItems,1≤p.2.fVersion
 len:q.fItems.length≤n
theorem ZR {q:AM}(h:Mg q.fItems)(k:Af):V9 q k=some ((Bs q.fItems k).getD zI,(Bs q.fItems k).isSome,q):=by
 have hg:=h.get k;unfold V9 LQ ZN Cw Cp;rw[AI rfl,A0 (p:=!true) rfl];show Br (Br (Lk ((Bs q.fItems k).getD zI).fValue) λr3=>some (Ae.mk ((Bs q.fItems k).getD zI).fKey r3 ((Bs q.fItems k).getD zI).fVersion)) _=_;rw[Qc (by omega)];rfl
theorem ZQ (q:AM):V8 q=some ((q.fItems.length:Int),q):=rfl
theorem AaV {α:Type}[Inhabited α](a:α):ov (some a)=a:=rfl
theorem AaP:∀a b d e f g h i j:Bool,(Br (some a) λha=>Bf ha (some true) (Bf d (Bf e (some true) (Br (some b) λhb=>Bf hb (some true) (Bf f (some true) (Bf g (some true) (Bf h (some true) (Bf i (some true) (some j))))))) (Br (some b) λhd=>Bf hd (some true) (Bf f (some true) (Bf g (some true) (Bf h (some true) (Bf i (some true) (some j))))))))=some (a||b||(d&&e)||f||g||h||i||j):=by decide
theorem VH (c:Int):QB c=some (Dr c):=AaP (decide (97≤c)&&decide (c≤122)) (decide (48≤c)&&decide (c≤57)) (decide (65≤c)) (decide (c≤90)) (decide (c=45)) (decide (c=95)) (decide (c=46)) (decide (c=58)) (decide (c=47))
theorem Nl:∀(s:Af) (k:Nat),Bx M8 k s=s.all λu=>Dr u.toNat
 | [],k=>rfl
 | u::r,k=>by rw[Bx,Nl r (k+1),Ado];rfl
theorem QC {F:Nat}(hF:64<F)(s:Af):VI F s=some (Pd s):=by
 unfold VI Pd;rw[Nl]
 by_cases hl:(s.length:Int)<1∨(64:Int)<(s.length:Int)
 ·rw[AF (by simpa using hl)];have:(decide (1≤s.length)&&decide (s.length≤64))=false:=by
   simp only[Ad4,AcA];omega
  rw[Bool.and_assoc,this,Add]
 ·rw[A0 (by simpa using hl)];have hb:(decide (1≤s.length)&&decide (s.length≤64))=true:=by
   simp only[AcG,Ac9];omega
  rw[Bool.and_assoc,hb,AcZ];obtain⟨o,h1,h2⟩:=IC s (λu=>Dr u.toNat=true) (λq=>q=false∧(s.all λu=>Dr u.toNat)=false) () (λσ=>GY s σ) (λx c h0 hx hc hat=>by
   have hb:Bm s x=(c.toNat:Int):=by rw[← hat];rfl
   have e:GY s x=Bf (!Dr c.toNat) (some (.out (.ret false))) (some (.next (x+1))):=by
    unfold GY;rw[AF (AcC hx),AP h0 hx,hb,VH,AI rfl,AB (by omega) (by omega)]
   cases hL:Dr c.toNat with
   | true=>exact .inl ⟨by rw[hL] at e;exact e,rfl⟩
   | false=>exact .inr ⟨false,by rw[hL] at e;exact e,rfl,List.all_eq_false.2 ⟨c,hc,by simp[hL]⟩⟩) (by
   show GY s _=_;unfold GY;rw[A0 (AcB (by omega))]) (F:=F) (by omega)
  rw[AI h1];rcases h2 with⟨q,rfl,rfl,ha⟩ | ⟨rfl,h⟩
  ·rw[AaS,ha]
  ·rw[TR,List.all_eq_true.2 h];rfl
theorem UT {F:Nat}(hF:30000<F){c:Ad}(hs:SmC c)(ho:OkC c):KW F c=HD F c:=by
 have hA:Hn 5000 c.fValue:=⟨by decide,by have:=hs.val;omega,λx hx=>⟨hs.cells x hx,(ho.cells x hx).1,(ho.cells x hx).2⟩⟩
 unfold KW HD;rw[QC (by omega),AI rfl,Kf hA (by decide) (by omega),Iu hA (by decide) (by omega),AI rfl]
 cases Pd c.fKey with
 | false=>rfl
 | true=>
  cases(decide (c.fIfVersion<(-1))||decide (1000000000000<c.fIfVersion)) with
  | true=>rfl
  | false=>
   cases c.fDelete with
   | true=>cases decide (0<(c.fValue.length:Int))<;>rfl
   | false=>rfl
theorem RU {S O:Type}{b b':S→Option (Stp S O)}(I:S→Prop)(h:∀s,I s→b s=b' s∧∀s',b s=some (.next s')→I s'):∀(n:Nat) (s:S),I s→B7 b n s=B7 b' n s
 | 0,s,_=>rfl
 | n+1,s,hi=>by
  obtain⟨h1,h2⟩:=h s hi;rw[B7,B7,← h1]
  cases hb:b s with
  | none=>rfl
  | some t=>cases t with
   | next s'=>exact RU I h n s' (h2 s' hb)
   | out o=>rfl
theorem Zz {F:Nat}(hF:30000<F){l:List Ad}(hs:SmP l)(ho:∀c∈l,OkC c):R3 F l=HA F l:=by
 have hl:=hs.len;unfold R3 HA;have:B7 (λσ=>DE F l σ) F 0=B7 (λσ=>Dd F l σ) F 0:=RU (λx:Int=>0≤x∧x≤(l.length:Int)) (λx ⟨h0,hx⟩=>by
  by_cases hx2:x<(l.length:Int)
  ·obtain⟨c,hc⟩:∃c,l[x.toNat]? =some c:=⟨l[x.toNat]'(by omega),AcL (by omega)⟩
   have hat:Ao l x=c:=by simp[Ao,hc]
   have hm:c∈l:=AcO hc;obtain⟨e,he,_⟩:=XT (by omega:5000<F) (hs.all c hm) (ho c hm);have e1:DE F l x=Bf (!decide (e=0)) (some (.out (.ret e))) (some (.next (x+1))):=by
    unfold DE;rw[AF (AcC hx2),AP h0 hx2,hat,UT hF (hs.all c hm) (ho c hm),he,AI rfl,AB (by omega) (by omega)]
   have e2:Dd F l x=Bf (!decide (e=0)) (some (.out (.ret e))) (some (.next (x+1))):=by
    unfold Dd;rw[AF (AcC hx2),AP h0 hx2,hat,he,AI rfl,AB (by omega) (by omega)]
   refine⟨e1.trans e2.symm,λs' hs'=>?_⟩;rw[e1] at hs'
   cases hd:decide (e=0) with
   | false=>rw[hd] at hs';cases hs'
   | true=>rw[hd] at hs';cases hs';omega
  ·refine⟨?_,λs' hs'=>?_⟩
   ·show DE F l x=Dd F l x;unfold DE Dd;rw[A0 (AcB hx2),A0 (AcB hx2)]
   ·have:DE F l x=some (.out (.go ())):=by unfold DE;rw[A0 (AcB hx2)]
    rw[this] at hs';cases hs') F 0 ⟨AcX 0,by omega⟩
 rw[this];rfl
section
variable {T : Type}
def pos:List (Af×T)→Af→Nat
 | [],_=>0
 | p::r,k=>bif BE p.1 k then pos r k+1 else 0
theorem Or {k:Af}:∀(xs:List (Af×T)) (x:Nat),x≤xs.length→(∀p∈xs.take x,BE p.1 k=true)→(∀p,xs[x]? =some p→BE p.1 k=false)→pos xs k=x
 | [],x,h,_,_=>by simp at h;subst h;rfl
 | p::r,0,_,_,h=>by rw[pos,h p rfl];rfl
 | p::r,x+1,hl,h1,h2=>by
  rw[pos,h1 p (by simp)];simp only[AcH];rw[Or r x (by simpa using hl) (λq hq=>h1 q (by simp[hq])) (λq hq=>h2 q (by simpa using hq))]
theorem Tb {k:Af}:∀xs:List (Af×T),pos xs k≤xs.length
 | []=>AcY _
 | p::r=>by
  rw[pos]
  cases BE p.1 k with
  | true=>simpa using Tb r
  | false=>exact Adt _
theorem LD {k:Af}:∀(xs:List (Af×T)),Ms xs→
  (Bs xs k=match xs[pos xs k]? with
   | some p=>bif decide (p.1=k) then some p.2 else none
   | none=>none)∧
  (∀v,mset xs k v=xs.take (pos xs k)++(k,v)::xs.drop (pos xs k+bif Cp xs k then 1 else 0))∧
  (mdel xs k=xs.take (pos xs k)++xs.drop (pos xs k+bif Cp xs k then 1 else 0))
 | [],_=>⟨rfl,λv=>rfl,rfl⟩
 | p::r,h=>by
  obtain⟨h1,h2⟩:=List.pairwise_cons.1 h;obtain⟨i1,i2,i3⟩:=LD (k:=k) r h2;rw[pos]
  cases hs:BE p.1 k with
  | true=>
   have hne : ¬ p.1=k:=Aay hs;have hg:Bs (p::r) k=Bs r k:=by rw[Bs,AcB hne];rfl
   have hh:Cp (p::r) k=Cp r k:=by unfold Cp;rw[hg]
   simp only[AcH];refine⟨by rw[hg,i1];rfl,λv=>?_,?_⟩
   ·have e:mset (p::r) k v=p::mset r k v:=by
     unfold mset;rw[hh]
     cases Cp r k with
     | true=>show(bif decide (p.1=k) then(k,v) else p)::mput r k v=p::mput r k v;rw[AcB hne];rfl
     | false=>
      show mins k v (p::r)=p::mins k v r;rw[mins,WE hs];rfl
    rw[e,i2 v,hh,show pos r k+1+(bif Cp r k then 1 else 0)=(pos r k+(bif Cp r k then 1 else 0))+1 from by omega];rfl
   ·have e:mdel (p::r) k=p::mdel r k:=by unfold mdel;rw[List.filter_cons_of_pos (by simp[hne])]
    rw[e,i3,hh,show pos r k+1+(bif Cp r k then 1 else 0)=(pos r k+(bif Cp r k then 1 else 0))+1 from by omega];rfl
  | false=>
   simp only[AcD]
   by_cases hk:p.1=k
   ·have hg:Bs (p::r) k=some p.2:=by rw[Bs,AcC hk];rfl
    have hh:Cp (p::r) k=true:=by unfold Cp;rw[hg];rfl
    have hn:∀q∈r,¬ q.1=k:=λq hq e=>by have:=h1 q hq;rw[e,← hk,IV] at this;cases this
    have e1:∀v,mput r k v=r:=λv=>by
     unfold mput
     conv=>rhs;rw[← List.map_id r]
     refine List.map_congr_left λq hq=>?_;rw[AcB (hn q hq)];rfl
    have e2:mdel r k=r:=List.filter_eq_self.2 λq hq=>by simp[hn q hq]
    refine⟨by rw[hg];show _=bif decide (p.1=k) then some p.2 else none;rw[AcC hk];rfl,λv=>?_,?_⟩
    ·unfold mset;rw[hh];show(bif decide (p.1=k) then(k,v) else p)::mput r k v=_;rw[AcC hk,e1];rfl
    ·rw[hh];show mdel (p::r) k=r;unfold mdel;rw[List.filter_cons_of_neg (by simp[hk])];exact e2
   ·have hlt:BE k p.1=true:=by
     rcases Of p.1 k with h | h | h
     ·rw[h] at hs;cases hs
     ·exact absurd h hk
     ·exact h
    have hn:∀q∈p::r,¬ q.1=k:=λq hq e=>by
     rcases List.mem_cons.1 hq with rfl | hq
     ·exact hk e
     ·have:=J9 hlt (h1 q hq);rw[e,IV] at this;cases this
    have hg:Bs (p::r) k=none:=Ez.2 hn;have hh:Cp (p::r) k=false:=by unfold Cp;rw[hg];rfl
    refine⟨by rw[hg];show none=bif decide (p.1=k) then some p.2 else none;rw[AcB hk];rfl,λv=>?_,?_⟩
    ·unfold mset;rw[hh];show mins k v (p::r)=_;rw[mins,hlt];rfl
    ·rw[hh];exact List.filter_eq_self.2 λq hq=>by simp[hn q hq]
end
def Jz (xs:List (Af×Ae)):List Ae:=xs.map (·.2)
def U1 (xs:List (Af×Ae)):Prop:=∀p∈xs,p.2.fKey=p.1
theorem Uf (xs:List (Af×Ae)):(Jz xs).length=xs.length:=by simp[Jz]
theorem Q6 {xs:List (Af×Ae)}{i:Nat}{p:Af×Ae}(h:xs[i]? =some p):(Jz xs)[i]? =some p.2:=by simp[Jz,h]
theorem UW {F:Nat}{xs:List (Af×Ae)}(hF:xs.length<F)(hL:xs.length≤1000000)(hm:Ms xs)(hk:U1 xs)(k:Af):ST F (Jz xs) k=some ((pos xs k:Int),Cp xs k):=by
 have hlen:=Uf xs;unfold ST;obtain⟨o,h1,h2⟩:=Gj (body:=λσ=>He (Jz xs) k σ) (λx=>0≤x∧x≤(xs.length:Int)∧∀p∈xs.take x.toNat,BE p.1 k=true) (λx=>xs.length-x.toNat)
  (λo=>o = .go (pos xs k:Int)) (λx ⟨h0,hl,ha⟩=>by
   by_cases hx:x<(xs.length:Int)
   ·obtain⟨p,hp⟩:∃p,xs[x.toNat]? =some p:=⟨xs[x.toNat]'(by omega),AcL (by omega)⟩
    have hat:(Ao (Jz xs) x).fKey=p.1:=by
     rw[← hk p (AcO hp)];simp[Ao,Q6 hp]
    have e:He (Jz xs) k x=Bf (BE p.1 k) (some (.next (x+1))) (some (.out (.go x))):=by
     unfold He;rw[hlen,AcC hx,BL (by rw[Q7 h0 hx];rfl),hat,AcQ,AB (by omega) (by omega)]
    cases hs:BE p.1 k with
    | true=>
     refine .inl ⟨x+1,by rw[hs] at e;exact e,⟨by omega,by omega,λq hq=>?_⟩,by omega⟩;rw[show(x+1).toNat=x.toNat+1 from by omega,List.take_add_one,hp] at hq;simp only[Option.toList_some,List.mem_append,Ad6,List.not_mem_nil,or_false] at hq;rcases hq with hq | rfl
     ·exact ha q hq
     ·exact hs
    | false=>
     refine .inr ⟨.go x,by rw[hs] at e;exact e,?_⟩;have:=Or xs x.toNat (by omega) ha (λq hq=>by rw[hp] at hq;cases hq;exact hs);rw[this,show((x.toNat:Nat):Int)=x from by omega]
   ·refine .inr ⟨.go x,?_,?_⟩
    ·show He (Jz xs) k x=_;unfold He;rw[hlen,AcB hx];rfl
    ·have:=Or (k:=k) xs x.toNat (by omega) ha (λq hq=>by
      have:=(List.getElem?_eq_some_iff.1 hq).1;omega)
     rw[this,show((x.toNat:Nat):Int)=x from by omega]) F 0 ⟨AcX 0,by omega,by simp⟩ (by show xs.length-0<F;omega)
 subst h2;rw[AI h1,TR];unfold P2;have hp:=Tb (k:=k) xs;obtain⟨g1,_,_⟩:=LD (k:=k) xs hm;rw[hlen]
 by_cases hx:((pos xs k:Nat):Int)<(xs.length:Int)
 ·obtain⟨p,hpp⟩:∃p,xs[pos xs k]? =some p:=⟨xs[pos xs k]'(by omega),AcL (by omega)⟩
  have hat:(Ao (Jz xs) (pos xs k:Int)).fKey=p.1:=by
   rw[← hk p (AcO hpp)];simp[Ao,Q6 hpp]
  rw[AcC hx,BL (by rw[Q7 (by omega) hx];rfl),hat,AcQ];rw[hpp] at g1;have:Cp xs k=decide (p.1=k):=by
   unfold Cp;rw[g1];simp only
   cases decide (p.1=k)<;>rfl
  rw[this]
 ·rw[AcB hx];have hpp:xs[pos xs k]? =none:=List.getElem?_eq_none (by omega);rw[hpp] at g1;have:Cp xs k=false:=by unfold Cp;rw[g1];rfl
  rw[this];rfl
theorem Abt {xs:List (Af×Ae)}(hm:Ms xs){k:Af}(h:Cp xs k=true):(pos xs k:Int)<(xs.length:Int)∧Ao (Jz xs) (pos xs k:Int)=(Bs xs k).getD zI:=by
 obtain⟨g1,_,_⟩:=LD (k:=k) xs hm;unfold Cp at h
 cases hp:xs[pos xs k]? with
 | none=>rw[hp] at g1;rw[g1] at h;cases h
 | some p=>
  rw[hp] at g1;have hlt:=(List.getElem?_eq_some_iff.1 hp).1;refine⟨by omega,?_⟩;simp only at g1
  cases hd:decide (p.1=k) with
  | false=>rw[hd] at g1;rw[g1] at h;cases h
  | true=>
   rw[hd] at g1;rw[g1];simp[Ao,Q6 hp]
def Wg (xs:List (Af×Ae))(c:Ad):List (Af×Ae)×Int:=
 bif (decide (0≤c.fIfVersion))&&(!decide (c.fIfVersion=((Bs xs c.fKey).getD zI).fVersion)) then([],19) else
 bif c.fDelete then(mdel xs c.fKey,0) else
 bif (decide (((Bs xs c.fKey).getD zI).fVersion=0))&&(decide (256≤(xs.length:Int))) then([],3) else
 bif decide (1000000000000≤((Bs xs c.fKey).getD zI).fVersion) then([],8) else
 (mset xs c.fKey ⟨c.fKey,c.fValue,((Bs xs c.fKey).getD zI).fVersion+1⟩,0)
theorem Ni {α:Type}{n:Nat}{x:Option α}(h:n≤1000000):AX (Dw 48 n) x=x:=BL (by unfold Dw;simp only[Ac9];omega)
theorem XU {xs:List (Af×Ae)}(hm:Ms xs)(k:Af)(v:Ae):Jz (mset xs k v)=(Jz xs).take (pos xs k)++v::(Jz xs).drop (pos xs k+bif Cp xs k then 1 else 0):=by
 rw[(LD xs hm).2.1 v];simp[Jz,List.map_take,List.map_drop]
theorem XV {xs:List (Af×Ae)}(hm:Ms xs)(k:Af):Jz (mdel xs k)=(Jz xs).take (pos xs k)++(Jz xs).drop (pos xs k+bif Cp xs k then 1 else 0):=by
 rw[(LD xs hm).2.2];simp[Jz,List.map_take,List.map_drop]
theorem R2 {F:Nat}{xs:List (Af×Ae)}(hF:xs.length<F)(hL:xs.length≤256)(hm:Ms xs)(hk:U1 xs)(hpos:∀p∈xs,1≤p.2.fVersion∧p.2.fVersion≤1000000000000)(c:Ad) :
  Om F (Jz xs) c=some (Jz (Wg xs c).1,(Wg xs c).2):=by
 have hp:=Tb (k:=c.fKey) xs;have hlen:=Uf xs;have hset:=λv=>XU hm c.fKey v;have hdel:=XV hm c.fKey;unfold Om;rw[UW hF (by omega) hm hk,AI rfl];dsimp only
 cases hh:Cp xs c.fKey with
 | true=>
  obtain⟨ha,hat⟩:=Abt hm hh;rw[hh] at hset hdel;simp only[AcH] at hset hdel;have hv:1≤((Bs xs c.fKey).getD zI).fVersion∧((Bs xs c.fKey).getD zI).fVersion≤1000000000000:=by
   unfold Cp at hh
   cases hg:Bs xs c.fKey with
   | none=>rw[hg] at hh;cases hh
   | some v=>exact hpos _ (Cq hg)
  rw[AF rfl,AP (by omega) (by rw[hlen];exact ha),hat];unfold Wg;generalize(Bs xs c.fKey).getD zI=y at hv
  cases(decide (0≤c.fIfVersion)&&!decide (c.fIfVersion=y.fVersion)) with
  | true=>rfl
  | false=>
   rw[A0 rfl,Ca (by omega) (by rw[hlen];omega),Ni (by simp[hlen];omega)]
   cases c.fDelete with
   | true=>
    rw[A0 (p:=!true) rfl,AB (by omega) (by omega),Ca (by omega) (by rw[hlen];omega),Ni (by simp[hlen];omega)];simp only[AcH,AcD];rw[hdel,Adg,show Int.toNat (pos xs c.fKey:Int)=pos xs c.fKey from by omega,show Int.toNat ((pos xs c.fKey:Int)+1)=pos xs c.fKey+1 from by omega]
   | false=>
    have h0:decide (y.fVersion=0)=false:=AcB (by omega);rw[AF (p:=!false) rfl,h0];simp only[AcD,Adb]
    by_cases h8:y.fVersion=1000000000000
    ·rw[AF (AcC h8),AcC (by omega:(1000000000000:Int)≤y.fVersion)];rfl
    ·rw[A0 (AcB h8),AcB (by omega : ¬ (1000000000000:Int)≤y.fVersion),AB (by omega) (by omega),Ni (by simp[hlen];omega),AB (by omega) (by omega),Ca (by omega) (by rw[hlen];omega),Ni (by simp[hlen];omega)];simp only[AcD];rw[hset,Adg,show Int.toNat (pos xs c.fKey:Int)=pos xs c.fKey from by omega,show Int.toNat ((pos xs c.fKey:Int)+1)=pos xs c.fKey+1 from by omega,AcU];rfl
 | false=>
  rw[hh] at hset hdel;simp only[AcD,Nat.add_zero] at hset hdel;have hg:(Bs xs c.fKey).getD zI=zI:=by
   unfold Cp at hh
   cases hg:Bs xs c.fKey with
   | none=>rfl
   | some v=>rw[hg] at hh;cases hh
  have hz:zI.fVersion=0:=rfl;rw[A0 rfl];unfold Wg;rw[hg,hz]
  cases(decide (0≤c.fIfVersion)&&!decide (c.fIfVersion=0)) with
  | true=>rfl
  | false=>
   rw[A0 rfl,Ca (by omega) (by rw[hlen];omega),Ni (by simp[hlen];omega)]
   cases c.fDelete with
   | true=>
    rw[A0 (p:=!true) rfl,Ni (by simp[hlen];omega)];simp only[AcH,AcD];rw[hdel,Adg,show Int.toNat (pos xs c.fKey:Int)=pos xs c.fKey from by omega]
   | false=>
    rw[AF (p:=!false) rfl,hlen];simp only[AcD]
    by_cases h3:(xs.length:Int)=256
    ·rw[AF (AcC h3),AcC (by omega:(256:Int)≤(xs.length:Int))];rfl
    ·rw[A0 (AcB h3),AcB (by omega : ¬ (256:Int)≤(xs.length:Int)),Ni (by simp[hlen];omega),Ni (by simp[hlen];omega)];rw[Adg,show Int.toNat (pos xs c.fKey:Int)=pos xs c.fKey from by omega,AcU];show _=some (Jz (mset xs c.fKey ⟨c.fKey,c.fValue,0+1⟩),0);rw[hset];rfl
def E2 (q:AM):List (Af×Ae):=q.fChanged.foldl (NH IM) q.fItems
structure Nm (q:AM):Prop where
 it:Mg q.fItems
 ch:Mg q.fChanged
 ipos:∀p∈q.fItems,1≤p.2.fVersion
 ikey:U1 q.fItems
 cz:∀p∈q.fChanged,IM p.2=true→p.2=zI
 ck:∀p∈q.fChanged,IM p.2=false→p.2.fKey=p.1
 len:(E2 q).length≤256
 kl:∀p∈E2 q,p.1.length≤300
theorem O2 {q:AM}(h:Ms q.fChanged)(k:Af):Bs (E2 q) k=match Bs q.fChanged k with
  | none=>Bs q.fItems k
  | some v=>bif IM v then none else some v:=(Kr (del:=IM) q.fChanged q.fItems k h.nodup).trans (by cases Bs q.fChanged k<;>rfl)
theorem Nm.ms {q:AM}(h:Nm q):Ms (E2 q):=Md _ h.it.ms
theorem Nm.iok {q:AM}(h:Nm q):Mg (E2 q):=⟨h.ms,λp hp=>by
 rcases LK hp with hp | ⟨hp,_⟩
 ·exact h.it.ok p hp
 ·exact h.ch.ok p hp⟩
theorem Nm.pos {q:AM}(h:Nm q):∀p∈E2 q,1≤p.2.fVersion∧p.2.fVersion≤1000000000000:=λp hp=>by
 refine⟨?_,(h.iok.ok p hp).2.1⟩;rcases LK hp with hp | ⟨hp,hd⟩
 ·exact h.ipos p hp
 ·have:=(h.ch.ok p hp).1;have:=AcS hd;omega
theorem Nm.key {q:AM}(h:Nm q):U1 (E2 q):=λp hp=>by
 rcases LK hp with hp | ⟨hp,hd⟩
 ·exact h.ikey p hp
 ·exact h.ck p hp hd
theorem YC {q:AM}(h:Nm q)(k:Af):Jg q k=(Bs (E2 q) k).getD zI:=by
 rw[O2 h.ch.ms];unfold Jg
 cases e:Bs q.fChanged k with
 | none=>rfl
 | some v=>
  simp only[Adj]
  cases hd:IM v with
  | true=>exact h.cz _ (Cq e) hd
  | false=>rfl
theorem Ur {q:AM}(h:Nm q)(k:Af)(v:Ae):E2 ⟨q.fItems,mset q.fChanged k v⟩=NH IM (E2 q) (k,v):=
 Ms.ext (Md _ h.it.ms) (YQ h.ms _) λk'=>by
  rw[O2 (q:=⟨q.fItems,mset q.fChanged k v⟩) (h.ch.ms.mset k v),RQ,O2 h.ch.ms];show(match Bs (mset q.fChanged k v) k' with | none=>Bs q.fItems k' | some v=>bif IM v then none else some v)=_;rw[IA]
  cases decide (k'=k)<;>rfl
theorem ZY {q:AM}(h:Nm q)(k:Af):Cp (E2 q) k=decide (0<((Bs (E2 q) k).getD zI).fVersion):=by
 unfold Cp
 cases e:Bs (E2 q) k with
 | none=>rfl
 | some v=>
  have:=(h.pos _ (Cq e)).1;simp only[Option.isSome_some,Adj];rw[AcC (by have h':1≤v.fVersion:=this;omega)]
theorem Aar {q:AM}(h:Nm q){c:Ad}(hs:SmC c) :
  (JP q c ((E2 q).length:Int)).2.1=(Wg (E2 q) c).2∧((Wg (E2 q) c).2=0→E2 (JP q c ((E2 q).length:Int)).2.2=(Wg (E2 q) c).1∧(JP q c ((E2 q).length:Int)).1=((E2 (JP q c ((E2 q).length:Int)).2.2).length:Int)∧Nm (JP q c ((E2 q).length:Int)).2.2∧(JP q c ((E2 q).length:Int)).2.2.fItems=q.fItems):=by
 have hlen:=h.len;have hver:=ZY h c.fKey;have hcur:=YC h c.fKey;have hok:=h.iok.get c.fKey;unfold JP Wg;rw[hcur];generalize hx:(Bs (E2 q) c.fKey).getD zI=x at hver hok
 cases(decide (0≤c.fIfVersion)&&!decide (c.fIfVersion=x.fVersion)) with
 | true=>exact⟨rfl,λh=>by cases h⟩
 | false=>
  cases c.fDelete with
  | true=>
   have he:=Ur h c.fKey zI;have he2:NH IM (E2 q) (c.fKey,zI)=mdel (E2 q) c.fKey:=rfl;rw[he2] at he;have hl:=RS h.ms c.fKey;rw[hver] at hl;refine⟨rfl,λ_=>⟨he,?_,⟨h.it,h.ch.set Wi,h.ipos,h.ikey,λp hp hd=>?_,λp hp hd=>?_,?_,λp hp=>?_⟩,rfl⟩⟩
   ·show(bif decide (0<x.fVersion) then((E2 q).length:Int)-1 else((E2 q).length:Int))=((E2 ⟨q.fItems,mset q.fChanged c.fKey zI⟩).length:Int);rw[he,hl]
    cases hd:decide (0<x.fVersion) with
    | false=>rfl
    | true=>
     rw[hd] at hver;have:0<(E2 q).length:=by
      unfold Cp at hver
      cases e:Bs (E2 q) c.fKey with
      | none=>rw[e] at hver;cases hver
      | some v=>exact List.length_pos_of_mem (Cq e)
     simp only[AcH];omega
   ·rcases H6 hp with rfl | hp
    ·rfl
    ·exact h.cz p hp hd
   ·rcases H6 hp with rfl | hp
    ·cases hd
    ·exact h.ck p hp hd
   ·show(E2 ⟨q.fItems,mset q.fChanged c.fKey zI⟩).length≤256;rw[he,hl]
    cases decide (0<x.fVersion)<;>simp only[AcH,AcD]<;>omega
   ·have hp':p∈mdel (E2 q) c.fKey:=by rw[← he];exact hp
    exact h.kl p (RR hp')
  | false=>
   have hz:decide (x.fVersion=0) = !Cp (E2 q) c.fKey:=by
    rw[hver]
    by_cases h0:x.fVersion=0
    ·rw[AcC h0,AcB (by omega)];rfl
    ·rw[AcB h0,AcC (by omega)];rfl
   cases h3:(decide (x.fVersion=0)&&decide (256≤((E2 q).length:Int))) with
   | true=>exact⟨rfl,λh=>by cases h⟩
   | false=>
    cases hb:decide ((1000000000000:Int)≤x.fVersion) with
    | true=>exact⟨rfl,λh=>by cases h⟩
    | false=>
     have hb':=AcS hb;have hd1:IM ⟨c.fKey,c.fValue,x.fVersion+1⟩=false:=AcB (by show ¬ x.fVersion+1=0;omega);have he:=Ur h c.fKey ⟨c.fKey,c.fValue,x.fVersion+1⟩;have he2:NH IM (E2 q) (c.fKey,⟨c.fKey,c.fValue,x.fVersion+1⟩)=mset (E2 q) c.fKey ⟨c.fKey,c.fValue,x.fVersion+1⟩:=by
      unfold NH;rw[hd1];rfl
     rw[he2] at he;have hl:=JJ (E2 q) c.fKey ⟨c.fKey,c.fValue,x.fVersion+1⟩;have hsz:(bif decide (x.fVersion=0) then((E2 q).length:Int)+1 else((E2 q).length:Int))=((mset (E2 q) c.fKey ⟨c.fKey,c.fValue,x.fVersion+1⟩).length:Int):=by
      rw[hl,hz]
      cases Cp (E2 q) c.fKey<;>simp
     refine⟨rfl,λ_=>⟨he,?_,⟨h.it,h.ch.set ⟨?_,?_,hs.val⟩,h.ipos,h.ikey,λp hp hd=>?_,λp hp hd=>?_,?_,λp hp=>?_⟩,rfl⟩⟩
     ·show(bif decide (x.fVersion=0) then((E2 q).length:Int)+1 else((E2 q).length:Int))=((E2 ⟨q.fItems,mset q.fChanged c.fKey ⟨c.fKey,c.fValue,x.fVersion+1⟩⟩).length:Int);rw[he];exact hsz
     ·show 0≤x.fVersion+1;omega
     ·show x.fVersion+1≤1000000000000;omega
     ·rcases H6 hp with rfl | hp
      ·rw[hd1] at hd;cases hd
      ·exact h.cz p hp hd
     ·rcases H6 hp with rfl | hp
      ·rfl
      ·exact h.ck p hp hd
     ·show(E2 ⟨q.fItems,mset q.fChanged c.fKey ⟨c.fKey,c.fValue,x.fVersion+1⟩⟩).length≤256;rw[he,hl];rw[hz] at h3
      cases hh:Cp (E2 q) c.fKey with
      | true=>simp only[AcH];omega
      | false=>
       rw[hh] at h3;simp only[Ada,AcQ,AcA] at h3;simp only[AcD];omega
     ·have hp':p∈mset (E2 q) c.fKey ⟨c.fKey,c.fValue,x.fVersion+1⟩:=by rw[← he];exact hp
      rcases H6 hp' with rfl | hp'
      ·exact hs.key
      ·exact h.kl p hp'
theorem R1 {F:Nat}(hF:300<F){l:List Ad}(hlen:l.length≤300)(hsm:∀c∈l,SmC c)(s:Cc)(r:List Ad):∀(n:Nat) (x:Int) (q:AM),0≤x→x+r.length=l.length→l.drop x.toNat=r→r.length<n→Nm q→
  B7 (λσ=>G1 F s l σ.1 σ.2) n (Jz (E2 q),x)=some (bif !decide ((Il r ((E2 q).length:Int) q).1=0) then .ret ((Il r ((E2 q).length:Int) q).1,s) else .go (Jz (E2 (Il r ((E2 q).length:Int) q).2)))∧((Il r ((E2 q).length:Int) q).1=0→Nm (Il r ((E2 q).length:Int) q).2∧(Il r ((E2 q).length:Int) q).2.fItems=q.fItems):=by
 induction r with
 | nil=>
  intro n x q h0 hx hd hn hw;obtain⟨n,rfl⟩:∃m,n=m+1:=⟨n-1,by simp at hn;omega⟩
  have hx':x=(l.length:Int):=by simpa using hx
  have hb:G1 F s l (Jz (E2 q)) x=some (.out (.go (Jz (E2 q)))):=by
   unfold G1;rw[A0 (AcB (by omega))]
  refine⟨?_,λ_=>⟨hw,rfl⟩⟩;rw[B7];simp only[hb];rfl
 | cons c r ih=>
  intro n x q h0 hx hd hn hw;simp only[AcE] at hx hn;obtain⟨n,rfl⟩:∃m,n=m+1:=⟨n-1,by omega⟩
  have hxl:x<(l.length:Int):=by omega
  have hc:l[x.toNat]? =some c:=by
   have:=congrArg (·[0]?) hd;simpa using this
  have hat:Ao l x=c:=by simp[Ao,hc]
  have hm:c∈l:=AcO hc;have hwl:=hw.len;have ha:=R2 (F:=F) (by omega) hw.len hw.ms hw.key hw.pos c;obtain⟨s1,s2⟩:=Aar hw (hsm c hm);have hb:G1 F s l (Jz (E2 q)) x=Bf (!decide ((Wg (E2 q) c).2=0)) (some (.out (.ret ((Wg (E2 q) c).2,s)))) (some (.next (Jz (Wg (E2 q) c).1,x+1))):=by
   unfold G1;rw[AF (AcC hxl),AP h0 hxl,hat,ha,AI rfl,AB (by omega) (by omega)]
  rw[B7];simp only[hb];rw[Il];generalize JP q c ((E2 q).length:Int)=t at s1 s2;rw[s1];generalize Wg (E2 q) c=u at s2
  cases he:decide (u.2=0) with
  | false=>
   simp only[Ada,AcH,Bf];refine⟨by rw[he];rfl,λh=>?_⟩;have:=AcS he;exact absurd h this
  | true=>
   obtain⟨t1,t2,t3,t4⟩:=s2 (AcK he);simp only[AcP,AcD,Bf];have hd2:l.drop (x+1).toNat=r:=by
    have:=congrArg (·.drop 1) hd;rw[AdC] at this;rw[show(x+1).toNat=x.toNat+1 from by omega];simpa using this
   rw[← t1,t2];obtain⟨i1,i2⟩:=ih n (x+1) t.2.2 (by omega) (by omega) hd2 (by omega) t3;exact⟨i1,λh=>⟨(i2 h).1,(i2 h).2.trans t4⟩⟩
theorem Ve {F:Nat}(hF:30000<F){xs ys:List (Af×Ae)}{l:List Ad}(hw:Nm ⟨xs,[]⟩)(hs:SmP l)(ho:∀c∈l,OkC c){e0:Int}(he:HA F l=some e0) :
  WX F ⟨true,Jz xs⟩ l=some ((SA e0 ⟨xs,ys⟩ l).1,⟨true,Jz (SA e0 ⟨xs,ys⟩ l).2.fItems⟩)∧Nm ⟨(SA e0 ⟨xs,ys⟩ l).2.fItems,[]⟩:=by
 have hlen:=hs.len;unfold WX SA;rw[A0 (p:=!true) rfl,Zz hF hs ho,he,AI rfl]
 cases decide (e0=0) with
 | false=>exact⟨rfl,hw⟩
 | true=>
  rw[A0 (p:=!true) rfl];obtain⟨i1,i2⟩:=R1 (F:=F) (by omega) hlen hs.all ⟨true,Jz xs⟩ l F 0 ⟨xs,[]⟩ (AcX 0) (by omega) (by simp) (by omega) hw;have ee:E2 ⟨xs,[]⟩=xs:=rfl;rw[ee] at i1 i2;show Br (B7 (λσ=>G1 F ⟨true,Jz xs⟩ l σ.1 σ.2) F (Jz xs,0)) _=some _∧_;rw[AI i1];have hk:=(QH l (q:=⟨xs,[]⟩) (size:=(xs.length:Int)) (λc hc=>(hs.all c hc).val) hw.it Mg.nil).1;generalize Il l (xs.length:Int) ⟨xs,[]⟩=t at i2 hk
  cases hd:decide (t.1=0) with
  | false=>
   refine⟨?_,?_⟩
   ·show some (t.1,Cc.mk true (Jz xs))=some (t.1,⟨true,Jz t.2.fItems⟩);rw[hk]
   ·show Nm ⟨t.2.fItems,[]⟩;rw[hk];exact hw
  | true=>
   obtain⟨j1,j2⟩:=i2 (AcK hd);have e:t.2.fChanged.foldl (NH IM) xs=E2 t.2:=by unfold E2;rw[j2]
   refine⟨?_,?_⟩
   ·show some ((0:Int),Cc.mk true (Jz (E2 t.2)))=some ((0:Int),⟨true,Jz (t.2.fChanged.foldl (NH IM) xs)⟩);rw[e]
   ·show Nm ⟨t.2.fChanged.foldl (NH IM) xs,[]⟩;rw[e];exact⟨j1.iok,Mg.nil,λp hp=>(j1.pos p hp).1,j1.key,λ_ h=>by(cases h),λ_ h=>by(cases h),j1.len,j1.kl⟩
theorem R0 {F:Nat}{v:List Aa}(hF:v.length<F)(hl:v.length≤1000000):H3 F v v=some true:=by
 unfold H3;rw[A0 (by simp)];obtain⟨o,h1,h2⟩:=IC v (λ_=>True) (λq:Bool=>False) () (λσ=>Ev v v σ) (λx c h0 hx hc hat=>by
  refine .inl ⟨?_,trivial⟩;show Ev v v x=_;unfold Ev;rw[AF (AcC hx),AP h0 hx,AP h0 hx,A0 (by simp),AB (by omega) (by omega)]) (by
  show Ev v v _=_;unfold Ev;rw[A0 (AcB (by omega))]) hF
 rw[AI h1];rcases h2 with⟨q,_,h⟩ | ⟨rfl,_⟩
 ·exact h.elim
 ·rfl
theorem Rv {F:Nat}{a:List Ae}(hF:a.length<F)(hF2:300<F)(hl:a.length≤1000000)(hv:∀y∈a,y.fValue.length≤300):GN F a a=some true:=by
 unfold GN;rw[A0 (by simp)];obtain⟨o,h1,h2⟩:=IC a (λ_=>True) (λq:Bool=>False) () (λσ=>Er F a a σ) (λx c h0 hx hc hat=>by
  refine .inl ⟨?_,trivial⟩;show Er F a a x=_;unfold Er;rw[AF (AcC hx),AP h0 hx,AP h0 hx,hat,R0 (by have:=hv c hc;omega) (by have:=hv c hc;omega),BL (by simp[imp]),A0 (by simp[ov]),AB (by omega) (by omega)]) (by
  show Er F a a _=_;unfold Er;rw[A0 (AcB (by omega))]) hF
 rw[AI h1];rcases h2 with⟨q,_,h⟩ | ⟨rfl,_⟩
 ·exact h.elim
 ·rfl
theorem Hn.up {M K:Nat}{v:List Aa}(h:Hn M v)(hK:M≤K)(hb:K≤1000000000):Hn K v:=⟨hb,by have:=h.hv;omega,λc hc=>⟨by have:=(h.hc c hc).1;omega,(h.hc c hc).2⟩⟩
theorem Hn.zero {M:Nat}(hM:M≤1000000000):Hn M []:=⟨hM,Adt _,λ_ h=>by cases h⟩
def CkC (c:Ad):Prop:=Hn 5000 c.fValue
def YW (l:List Ad):Prop:=∀c∈l,CkC c
theorem PK {F:Nat}(hF:5000<F){c:Ad}(hA:CkC c):HD F c=some (E1 c):=by
 unfold HD E1;rw[Iu hA (by decide) hF,AI rfl]
 cases Pd c.fKey with
 | false=>rfl
 | true=>
  cases(decide (c.fIfVersion<(-1))||decide (1000000000000<c.fIfVersion)) with
  | true=>rfl
  | false=>
   cases(c.fDelete&&decide (0<(c.fValue.length:Int))) with
   | true=>rfl
   | false=>cases c.fDelete<;>rfl
theorem SS {F:Nat}(hF:30000<F){c:Ad}(hA:CkC c):KW F c=some (E1 c):=by
 unfold KW E1;rw[QC (by omega),AI rfl,Kf hA (by decide) (by omega),AI rfl]
 cases Pd c.fKey with
 | false=>rfl
 | true=>
  cases(decide (c.fIfVersion<(-1))||decide (1000000000000<c.fIfVersion)) with
  | true=>rfl
  | false=>
   cases c.fDelete with
   | true=>cases decide (0<(c.fValue.length:Int))<;>rfl
   | false=>rfl
theorem KQ {l:List Ad}{b:Int→Option (Stp Int (Out Int Unit))}(hb:∀(x:Nat) (c:Ad) (r:List Ad),l.drop x=c::r→b (x:Int)=bif decide (E1 c=0) then some (.next ((x+1:Nat):Int)) else some (.out (.ret (E1 c))))
  (he:b (l.length:Int)=some (.out (.go ()))):∀(r:List Ad) (n x:Nat),l.drop x=r→x≤l.length→r.length<n→Br (B7 b n (x:Int)) (B5 λ_=>some 0)=some (JM r)
 | [],n,x,h,hx,hn=>by
  obtain⟨n,rfl⟩:∃m,n=m+1:=⟨n-1,by simp at hn;omega⟩
  have:l.length≤x:=by simpa using h
  have e:x=l.length:=by omega
  subst e;rw[B7,he];rfl
 | c::r,n,x,h,hx,hn=>by
  obtain⟨n,rfl⟩:∃m,n=m+1:=⟨n-1,by simp at hn;omega⟩
  obtain⟨hat,hlt,hd⟩:=CT h;rw[B7,hb x c r h,JM]
  cases hc:decide (E1 c=0) with
  | false=>rfl
  | true=>
   simp only[AcH];exact KQ hb he r n (x+1) hd (by omega) (by simp at hn;omega)
theorem PI {F:Nat}(hF:5000<F){l:List Ad}(hA:YW l):HA F l=some (K8 l):=by
 unfold HA K8
 cases h:decide (256<l.length) with
 | true=>rw[AF (AcC (by have:=AcK h;omega))];rfl
 | false=>
  have h':=AcS h;rw[A0 (AcB (by omega))];exact KQ (λx c r hd=>by
   obtain⟨hat,hlt,_⟩:=CT hd;show Dd F l (x:Int)=_;unfold Dd;rw[AF (AcC (by omega)),AP (by omega) (by omega),hat,AI (PK hF (hA c (Ad0 (i:=x) (by rw[hd];simp)))),AB (by omega) (by omega)]
   cases decide (E1 c=0)<;>rfl) (by
   show Dd F l _=_;unfold Dd;rw[A0 (AcB (by omega))]) l F 0 rfl (by omega) (by omega)
theorem WY {F:Nat}(hF:30000<F){l:List Ad}(hA:YW l):R3 F l=some (K8 l):=by
 unfold R3 K8
 cases h:decide (256<l.length) with
 | true=>rw[AF (AcC (by have:=AcK h;omega))];rfl
 | false=>
  have h':=AcS h;rw[A0 (AcB (by omega))];exact KQ (λx c r hd=>by
   obtain⟨hat,hlt,_⟩:=CT hd;show DE F l (x:Int)=_;unfold DE;rw[AF (AcC (by omega)),AP (by omega) (by omega),hat,AI (SS hF (hA c (Ad0 (i:=x) (by rw[hd];simp)))),AB (by omega) (by omega)]
   cases decide (E1 c=0)<;>rfl) (by
   show DE F l _=_;unfold DE;rw[A0 (AcB (by omega))]) l F 0 rfl (by omega) (by omega)
theorem Yy (v:List Aa):(Ii v).2=GO v:=by
 unfold Ii GO
 cases whole v with
 | none=>rfl
 | some f=>
  simp only
  cases hh:decide (ER f=0) with
  | true=>rw[AcK hh];rfl
  | false=>rfl
theorem Ou {c:Ad}(h:E1 c=0):MW (OI c)=(EW c,0):=by
 unfold MW;rw[RE h];rfl
theorem XO {F:Nat}(hF:30000<F){c:Ad}(hA:CkC c)(h:E1 c=0):Sd F c=some (EW c,0):=by
 obtain⟨h1,h2,h3,h4,h5⟩:=JO h;have hp:=Ou h;unfold Sd;unfold OI at hp
 cases hd:c.fDelete with
 | true=>
  rw[hd] at hp;rw[A0 (by rfl),AB (by omega) (by omega),AI (Sq (by omega))];exact congrArg some hp
 | false=>
  rw[hd] at hp;rw[AF (by rfl),AI (SM hA (by decide) (by omega)),Yy,h5 hd,A0 (by rfl),AB (by omega) (by omega),AI (Sq (by omega))];exact congrArg some hp
theorem OO {l:List Ad}{b:List Af×Int→Option (Stp (List Af×Int) (Out (Af×Int) (List Af)))}(hl:l.length≤300)(hb:∀(acc:List Af) (x:Nat) (c:Ad) (r:List Ad),l.drop x=c::r→acc.length≤300→b (acc,(x:Int))=some (.next (acc++[EW c],((x+1:Nat):Int))))
  (he:∀acc,b (acc,(l.length:Int))=some (.out (.go acc))):∀(r:List Ad) (n x:Nat) (acc:List Af),l.drop x=r→x≤l.length→acc.length=x→r.length<n→B7 b n (acc,(x:Int))=some (.go (acc++r.map EW))
 | [],n,x,acc,h,hx,ha,hn=>by
  obtain⟨n,rfl⟩:∃m,n=m+1:=⟨n-1,by simp at hn;omega⟩
  have:l.length≤x:=by simpa using h
  have e:x=l.length:=by omega
  rw[e,B7,he,List.map_nil,Adk]
 | c::r,n,x,acc,h,hx,ha,hn=>by
  obtain⟨n,rfl⟩:∃m,n=m+1:=⟨n-1,by simp at hn;omega⟩
  obtain⟨hat,hlt,hd⟩:=CT h;rw[B7,hb acc x c r h (by omega)];simp only;rw[OO hl hb he r n (x+1) _ hd (by omega) (by simp;omega) (by simp at hn;omega),AcU];rfl
theorem Sv {l:List Ad}(h:K8 l=0):l.length≤256∧∀c∈l,E1 c=0:=by
 unfold K8 at h
 cases h2:decide (256<l.length) with
 | true=>rw[h2] at h;cases h
 | false=>
  rw[h2] at h;exact⟨by have:=AcS h2;omega,M9 h⟩
theorem OD {F:Nat}(hF:270000<F){l:List Ad}(hA:YW l):Jd F l=some (Mb l):=by
 unfold Jd Mb;rw[AI (PI (by omega) hA)]
 cases h:decide (K8 l=0) with
 | false=>rfl
 | true=>
  obtain⟨h1,h2⟩:=Sv (AcK h);rw[A0 (p:=!true) rfl];have:=OO (l:=l) (b:=λσ=>DH F l σ.1 σ.2) (by omega) (λacc x c r hd ha=>by
   obtain⟨hat,hlt,_⟩:=CT hd;have hm:c∈l:=Ad0 (i:=x) (by rw[hd];simp);show DH F l acc (x:Int)=_;unfold DH;rw[AF (AcC (by omega)),AP (by omega) (by omega),hat,AI (XO (by omega) (hA c hm) (h2 c hm)),A0 (by rfl),G9 (by simp;omega),AB (by omega) (by omega)];rfl) (λacc=>by
   show DH F l acc _=_;unfold DH;rw[A0 (AcB (by omega))]) l F 0 [] rfl (by omega) rfl (by omega)
  rw[show(([]:List Af),(0:Int))=([],((0:Nat):Int)) from rfl,AI this,CC,Adg];unfold HB;rw[AI (Yt (by omega) (by simp;omega) (by simp;omega))];rfl
theorem Rz {F:Nat}(hF:270000<F){l:List Ad}(hA:YW l):I0 F l=some (Mb l):=by
 unfold I0 Mb;rw[AI (WY (by omega) hA)]
 cases h:decide (K8 l=0) with
 | false=>rfl
 | true=>
  obtain⟨h1,h2⟩:=Sv (AcK h);rw[A0 (p:=!true) rfl];have:=OO (l:=l) (b:=λσ=>Dp F l σ.1 σ.2) (by omega) (λacc x c r hd ha=>by
   obtain⟨hat,hlt,_⟩:=CT hd;have hm:c∈l:=Ad0 (i:=x) (by rw[hd];simp);obtain⟨g1,g2,g3,g4,g5⟩:=JO (h2 c hm);have hp:=Ou (h2 c hm);unfold OI at hp;show Dp F l acc (x:Int)=_;unfold Dp;rw[AF (AcC (by omega)),AP (by omega) (by omega),hat,AB (by omega) (by omega)]
   cases hdl:c.fDelete with
   | true=>
    rw[hdl] at hp;have hp':JB F (List.set ([c.fKey,([48]:Af),([]:Af),Lib.itoa c.fIfVersion]:List Af) (Int.toNat 1) ([49]:Af))=some (EW c,0):=(P4 (by omega)).trans (congrArg some hp);rw[AF (by rfl),AP (by omega) (by simp)];rw[Ga,AI hp',A0 (by rfl),G9 (by simp;omega),AB (by omega) (by omega)];rfl
   | false=>
    rw[hdl] at hp;have hp':JB F (List.set ([c.fKey,([48]:Af),([]:Af),Lib.itoa c.fIfVersion]:List Af) (Int.toNat 2) (Ii c.fValue).1)=some (EW c,0):=(P4 (by omega)).trans (congrArg some hp);rw[A0 (by rfl),AI (SX (hA c hm) (by decide) (by omega)),AP (by omega) (by simp)];rw[Ga,AI hp',A0 (by rfl),G9 (by simp;omega),AB (by omega) (by omega)];rfl) (λacc=>by
   show Dp F l acc _=_;unfold Dp;rw[A0 (AcB (by omega))]) l F 0 [] rfl (by omega) rfl (by omega)
  rw[show(([]:List Af),(0:Int))=([],((0:Nat):Int)) from rfl,AI this,CC,Adg];unfold GI;rw[AI (Vh (by omega) (by simp;omega) (by simp;omega))];rfl
theorem Qd {α:Type}{n:Nat}{x:Option α}(h:n≤1000000000):AX (Dw 56 n) x=x:=BL (AcC (by omega))
theorem Y7 (l:List Af):decide ((l.length:Int)=4)=true→∃a b c d,l=[a,b,c,d]:=λh=>AbS (AcK h)
theorem W1 {b:Af}(h:(GU b).2=0):∀f∈(GU b).1,f.length≤4000:=λf hf=>UJ hf h
theorem Tl {F:Nat}(hF:30000<F){b:Af}(hb:b.length≤1000000000):LP F b=some (Mo b):=by
 unfold LP Mo;rw[AI (Tt (by omega) hb)];have hsm:=W1 (b:=b);generalize GU b=u at *;obtain⟨l,e⟩:=u
 cases he:decide (e=0) with
 | false=>rw[BL (by simp[imp,he]),AF (by simp[he])];rfl
 | true=>
  have e0:=AcK he;subst e0
  cases hl:decide ((l.length:Int)=4) with
  | false=>
   rw[BL (by simp[imp,hl]),AF (by simp[hl])];unfold Sn;rw[hl];rfl
  | true=>
   obtain⟨k,f,t,m,rfl⟩:=Y7 l hl;have a0:Ao [k,f,t,m] 0=k:=rfl;have a1:Ao [k,f,t,m] 1=f:=rfl;have a2:Ao [k,f,t,m] 2=t:=rfl;have a3:Ao [k,f,t,m] 3=m:=rfl;have hm:m.length≤4000:=hsm rfl m (by simp);rw[BL (by rfl)];unfold Sn ofC;rw[a0,a1,a2,a3]
   cases hd:decide (f=[48]) with
   | false=>
    cases ha:decide (f=[49]) with
    | false=>rw[AF (by rfl)];rfl
    | true=>
     rw[A0 (by rfl),AP (by omega) (by simp),Gn (by omega)]
     cases hp:decide (BP m=0) with
     | false=>rfl
     | true=>
      rw[A0 (by rfl),AP (by omega) (by simp),AP (by omega) (by simp),AF (by rfl),AP (by omega) (by simp)];rfl
   | true=>
    have hf:=AcK hd;have ha:decide (f=[49])=false:=by rw[hf];rfl
    rw[ha,A0 (by rfl),AP (by omega) (by simp),Gn (by omega)]
    cases hp:decide (BP m=0) with
    | false=>rfl
    | true=>
     obtain⟨r,hr⟩:=MD t;rw[A0 (by rfl),AP (by omega) (by simp),AP (by omega) (by simp),A0 (by rfl),AP (by omega) (by simp),Rj (by omega),hr,AI rfl,Kl];rfl
theorem AaI {b:Af}(h:(Mo b).2=true):CkC (Mo b).1:=by
 obtain⟨_,_,u3⟩:=T9 h;rw[u3] at h ⊢;unfold ofC at h ⊢;unfold CkC
 cases hf:decide (Ao (GU b).1 1=[49]) with
 | true=>exact Hn.zero (by decide)
 | false=>
  rw[hf] at h;simp only[AcD] at h ⊢;obtain⟨r,hr⟩:=MD (Ao (GU b).1 2);rw[hr,Kl] at h ⊢;exact Hn.up (Us hr (AcK h)).1 (by decide) (by decide)
theorem S2 {l:List Af}{b:List Ad×Int→Option (Stp (List Ad×Int) (Out (List Ad×Int) (List Ad)))}{good:Af→Bool}{val:Af→Ad}
  (hb:∀(acc:List Ad) (x:Nat) (c:Af) (r:List Af),l.drop x=c::r→acc.length=x→b (acc,(x:Int))=bif good c then some (.next (acc++[val c],((x+1:Nat):Int))) else some (.out (.ret ([],13))))
  (he:∀acc,b (acc,(l.length:Int))=some (.out (.go acc))):∀(r:List Af) (n x:Nat) (acc:List Ad),l.drop x=r→x≤l.length→acc.length=x→r.length<n→B7 b n (acc,(x:Int))=some (bif r.all good then .go (acc++r.map val) else .ret ([],13))
 | [],n,x,acc,h,hx,ha,hn=>by
  obtain⟨n,rfl⟩:∃m,n=m+1:=⟨n-1,by simp at hn;omega⟩
  have:l.length≤x:=by simpa using h
  have e:x=l.length:=by omega
  rw[e,B7,he,List.map_nil,Adk];rfl
 | c::r,n,x,acc,h,hx,ha,hn=>by
  obtain⟨n,rfl⟩:∃m,n=m+1:=⟨n-1,by simp at hn;omega⟩
  obtain⟨hat,hlt,hd⟩:=CT h;rw[B7,hb acc x c r h ha,Ado]
  cases hg:good c with
  | false=>rfl
  | true=>
   simp only[AcH,AcQ];rw[S2 hb he r n (x+1) _ hd (by omega) (by simp;omega) (by simp at hn;omega),AcU];rfl
theorem SQ (s:Af):(BN s.length s).1.length≤s.length:=by
 obtain⟨h1,h2,_⟩:=Kb s.length s;have:=LU (BN s.length s).1;rw[← h2,List.length_take] at this;omega
theorem HG {s:Af}(h:K9 s=false):OT s=([],13):=by unfold OT;rw[h];rfl
theorem VV {s:Af}(h:K9 s=true):OT s=((BN s.length s).1.map λb=>(Mo b).1,0):=by unfold OT;rw[h];rfl
theorem To {F:Nat}(hF:270000<F){s:Af}(hs:s.length≤270000):LR F s=some (OT s):=by
 have hsl:=SQ s;have hbl:=(Kb s.length s).2.2;unfold LR;rw[AI (VQ (by omega) (by omega) (by omega))]
 cases hn:decide ((BN s.length s).2=s.length) with
 | false=>
  have hg:K9 s=false:=by unfold K9;rw[hn];rfl
  rw[HG hg,AF (by rw[AcB (by have:=AcS hn;omega)];rfl)]
 | true=>
  have hn':=AcK hn;rw[A0 (by rw[AcC (by omega)];rfl)];have:=S2 (l:=(BN s.length s).1) (b:=λσ=>DI F ((BN s.length s).1,((BN s.length s).2:Int)) σ.1 σ.2) (good:=λb=>(Mo b).2) (val:=λb=>(Mo b).1) (λacc x c r hd ha=>by
   obtain⟨hat,hlt,_⟩:=CT hd;have hc:=hbl c (Ad0 (i:=x) (by rw[hd];simp));show DI F ((BN s.length s).1,((BN s.length s).2:Int)) acc (x:Int)=_;unfold DI;rw[AF (AcC (by simp only;omega)),AP (by omega) (by simp only;omega),hat,AI (Tl (by omega) (by omega))]
   cases(Mo c).2 with
   | false=>rfl
   | true=>rw[A0 (by rfl),Qd (by simp;omega),AB (by omega) (by omega)];rfl) (λacc=>by
   show DI F ((BN s.length s).1,((BN s.length s).2:Int)) acc _=_;unfold DI;rw[A0 (AcB (by simp only;omega))]) (BN s.length s).1 F 0 [] rfl (by omega) rfl (by omega)
  rw[show(([]:List Ad),(0:Int))=([],((0:Nat):Int)) from rfl,AI this,Adg]
  cases hall:(BN s.length s).1.all (λb=>(Mo b).2) with
  | false=>
   have hg:K9 s=false:=by
    cases hgg:K9 s with
    | false=>rfl
    | true=>
     unfold K9 at hgg;simp only[AcG] at hgg;obtain⟨_,_,g3,_⟩:=hgg;rw[Adn] at g3;have:(BN s.length s).1.all (λb=>(Mo b).2)=true:=List.all_eq_true.2 λb hb=>by
      have:=g3 b hb;unfold Nd at this;simp only[AcG] at this;exact this.1
     rw[this] at hall;cases hall
   rw[HG hg];rfl
  | true=>
   have hck:YW ((BN s.length s).1.map λb=>(Mo b).1):=λc hc=>by
    obtain⟨b,hb,rfl⟩:=List.mem_map.1 hc;exact AaI ((List.all_eq_true.1 hall) b hb)
   simp only[AcH];rw[CC];unfold HC;rw[AI (OD hF hck)]
   cases hg:K9 s with
   | true=>
    have h1:=VV hg;have h2:=Y8 (s:=s) (by rw[h1]);rw[h1] at h2 ⊢;simp only at h2;rw[h2,A0 (by simp)]
   | false=>
    rw[HG hg]
    cases he:((!decide ((Mb ((BN s.length s).1.map λb=>(Mo b).1)).2=0))||(!decide ((Mb ((BN s.length s).1.map λb=>(Mo b).1)).1=s))) with
    | true=>rw[AF (by rfl)]
    | false=>
     simp only[Adf,AdD,Ac9] at he;have h2:=OP he.1;rw[he.2,HG hg] at h2;exact absurd (show(13:Int)=0 from congrArg Prod.snd h2) (by decide)
theorem Jc:Lc 300000=some true:=by decide +kernel
theorem YW.of {l:List Ad}(hs:SmP l)(ho:∀c∈l,OkC c):YW l:=λc hc=>
 ⟨by decide,by have:=(hs.all c hc).val;omega,λx hx=>⟨(hs.all c hc).cells x hx,((ho c hc).cells x hx).1,((ho c hc).cells x hx).2⟩⟩
theorem Aap {s:Af}(h:(OT s).2=0):K9 s=true:=by
 cases hg:K9 s with
 | true=>rfl
 | false=>rw[HG hg] at h;exact absurd h (by decide)
theorem YA {s:Af}(h:K9 s=true):s.length≤262144:=by
 unfold K9 at h;simp only[AcG,Ac9] at h;exact h.2.2.2
theorem Y0 {l:List Ad}(h:(Mb l).2=0):(Mb l).1.length≤262144:=YA (Aap (by rw[OP h]))
theorem Yv {v:List Aa}(h:GO v=0):v.length≤200:=by
 unfold GO at h
 cases hw:whole v with
 | none=>rw[hw] at h;cases h
 | some f=>
  rw[hw] at h;have:=(Ma h).2.2.1;rw[(Hu hw).1];exact this
theorem ZZ {c:Ad}(h:E1 c=0)(hA:CkC c):SmC c∧OkC c:=by
 obtain⟨h1,h2,h3,h4,h5⟩:=JO h;have hk:=PO h1;have hv:c.fValue.length≤200:=by
  cases hd:c.fDelete with
  | true=>rw[h4 hd];exact Adt _
  | false=>exact Yv (h5 hd)
 exact⟨⟨by omega,by omega,λx hx=>(hA.hc x hx).1⟩,⟨⟨by omega,by omega⟩,λx hx=>(hA.hc x hx).2⟩⟩
theorem Nm.start:Nm ⟨[],[]⟩:=⟨Mg.nil,Mg.nil,λ_ h=>by(cases h),λ_ h=>by(cases h),λ_ h=>by(cases h),λ_ h=>by(cases h),by decide,λ_ h=>by(cases h)⟩
def Mh (y:Ae):Ad:=⟨y.fKey,false,y.fValue,0⟩
def Ug (y:Ae):Ae:=⟨y.fKey,y.fValue,1⟩
def IW (y:Ae):Af×Int:=Mb [Mh y]
def UO:List Ae→List Af→List Af→List Af×Int
 | [],_,acc=>(acc,0)
 | y::r,seen,acc=>bif !decide (E1 (Mh y)=0) then([],E1 (Mh y)) else bif decide (y.fKey∈seen) then([],6) else bif !decide ((IW y).2=0) then([],(IW y).2) else UO r (seen++[y.fKey]) (acc++[(IW y).1])
theorem Yx (y:Ae):E1 (Mh y)=bif !Pd y.fKey then 4 else GO y.fValue:=by
 unfold E1 Mh
 cases Pd y.fKey<;>rfl
theorem TA:∀(r:List Ae) (seen acc:List Af),((UO r seen acc).2≠0∧(UO r seen acc).1=[])∨(UO r seen acc=(acc++r.map λy=>(IW y).1,0)∧(∀y∈r,E1 (Mh y)=0∧(IW y).2=0∧y.fKey ∉ seen)∧(r.map (·.fKey)).Nodup)
 | [],seen,acc=>.inr ⟨by simp[UO],λ_ h=>by(cases h),List.nodup_nil⟩
 | y::r,seen,acc=>by
  rw[UO]
  cases h1:decide (E1 (Mh y)=0) with
  | false=>exact .inl ⟨AcS h1,rfl⟩
  | true=>
   cases h2:decide (y.fKey∈seen) with
   | true=>exact .inl ⟨show(6:Int)≠0 by decide,rfl⟩
   | false=>
    cases h3:decide ((IW y).2=0) with
    | false=>exact .inl ⟨AcS h3,rfl⟩
    | true=>
     simp only[AcP,AcD];rcases TA r (seen++[y.fKey]) (acc++[(IW y).1]) with h | ⟨g1,g2,g3⟩
     ·exact .inl h
     ·refine .inr ⟨by rw[g1,AcU];rfl,λz hz=>?_,?_⟩
      ·rcases List.mem_cons.1 hz with rfl | hz
       ·exact⟨AcK h1,AcK h3,AcS h2⟩
       ·obtain⟨a1,a2,a3⟩:=g2 z hz;exact⟨a1,a2,λh=>a3 (List.mem_append_left _ h)⟩
      ·rw[Adx,List.nodup_cons];refine⟨λh=>?_,g3⟩;obtain⟨z,hz,e⟩:=List.mem_map.1 h;exact(g2 z hz).2.2 (by rw[e];simp)
theorem Vt {M:List (Af×Bool)}{seen:List Af}(h:∀k,Cw M k false=decide (k∈seen))(k:Af):∀k',Cw (mset M k true) k' false=decide (k'∈seen++[k]):=λk'=>by
 have:=h k';unfold Cw at this ⊢;rw[IA]
 cases hd:decide (k'=k) with
 | true=>rw[AcK hd];simp
 | false=>
  have hd':=AcS hd;simp only[AcD];rw[this];simp[hd']
theorem OC {F:Nat}(hF:270000<F){l:List Ae}(hA:∀y∈l,Hn 5000 y.fValue)(hl:l.length≤300):∀(r:List Ae) (n x:Nat) (acc:List Af) (M:List (Af×Bool)) (seen:List Af),l.drop x=r→x≤l.length→acc.length=x→(∀k,Cw M k false=decide (k∈seen))→r.length<n→
  Br (B7 (λσ:List Af×Int×List (Af×Bool)=>Ds F l σ.1 σ.2.1 σ.2.2) n (acc,(x:Int),M)) (B5 λν=>Gl ν)=some (UO r seen acc)
 | [],n,x,acc,M,seen,h,hx,ha,hM,hn=>by
  obtain⟨n,rfl⟩:∃m,n=m+1:=⟨n-1,by simp at hn;omega⟩
  have:l.length≤x:=by simpa using h
  have hb:Ds F l acc (x:Int) M=some (.out (.go acc)):=by
   unfold Ds;rw[A0 (AcB (by omega))]
  rw[B7,hb];rfl
 | y::r,n,x,acc,M,seen,h,hx,ha,hM,hn=>by
  obtain⟨n,rfl⟩:∃m,n=m+1:=⟨n-1,by simp at hn;omega⟩
  obtain⟨hat,hlt,hd⟩:=CT h;have hy:=hA y (Ad0 (i:=x) (by rw[h];simp));have hck:YW [Mh y]:=λc hc=>by rw[List.mem_singleton.1 hc];exact hy
  have e1:HD F (Ad.mk y.fKey false y.fValue 0)=some (E1 (Mh y)):=PK (by omega) (c:=Mh y) hy;have e2:Jd F ([(Ad.mk y.fKey false y.fValue 0)]:List Ad)=some (IW y):=OD hF hck;rw[B7,UO];simp only;unfold Ds;rw[AF (AcC (by omega)),AP (by omega) (by omega),hat,AI e1,hM y.fKey]
  cases h1:decide (E1 (Mh y)=0) with
  | false=>rfl
  | true=>
   rw[A0 (by rfl)]
   cases h2:decide (y.fKey∈seen) with
   | true=>rfl
   | false=>
    rw[A0 (by rfl),AI e2]
    cases h3:decide ((IW y).2=0) with
    | false=>rfl
    | true=>
     rw[A0 (by rfl),G9 (by simp;omega),AB (by omega) (by omega)];exact OC hF hA hl r n (x+1) _ _ _ hd (by omega) (by simp;omega) (Vt hM y.fKey) (by simp at hn;omega)
theorem Q4 {F:Nat}(hF:270000<F){l:List Ae}(hA:∀y∈l,Hn 5000 y.fValue):IE F l=some (bif decide (256<l.length) then([],3) else UO l [] []):=by
 unfold IE
 cases h:decide (256<l.length) with
 | true=>rw[AF (AcC (by have:=AcK h;omega))];rfl
 | false=>
  have h':=AcS h;rw[A0 (AcB (by omega))];exact OC hF hA (by omega) l F 0 [] [] [] rfl (by omega) rfl (λk=>by simp[Cw,Bs]) (by omega)
theorem WR {l:List Ae}{x:Nat}(hx:x<l.length)(hl:l.length≤300){k:Af}(hk:(Ao l (x:Int)).fKey=k){F:Nat}(hF:300<F) :
  B7 (λσ=>CB l (x:Int) σ) F 0=some (bif decide (k∈(l.take x).map (·.fKey)) then .ret (.out (.ret ([],6))) else .go ((x:Int),false)):=by
 have hlen:(l.take x).length=x:=by rw[List.length_take];omega
 obtain⟨o,h1,h2⟩:=IC (l.take x) (λc=>c.fKey≠k) (λq=>q = .out (.ret (([]:List Af),(6:Int)))∧∃c∈l.take x,c.fKey=k) ((x:Int),false) (λσ=>CB l (x:Int) σ) (λj c h0 hj hc hat=>by
  rw[hlen] at hj;have hat2:Ao l j=c:=by
   rw[← hat];unfold Ao;rw[Adw,Ad2 (by omega)]
  show(CB l (x:Int) j=_∧_)∨_;unfold CB;rw[AF (AcC hj),AP h0 (by omega),hat2,hk]
  cases hd:decide (c.fKey=k) with
  | true=>exact .inr ⟨_,rfl,rfl,c,hc,AcK hd⟩
  | false=>exact .inl ⟨by rw[A0 (by rfl),AB (by omega) (by omega)],AcS hd⟩) (by
  show CB l (x:Int) _=_;unfold CB;rw[hlen,AcB (by omega),A0 (by rfl)]) (F:=F) (by rw[hlen];omega)
 rw[h1];rcases h2 with⟨q,rfl,rfl,c,hc,e⟩ | ⟨rfl,h⟩
 ·rw[AcC (List.mem_map.2 ⟨c,hc,e⟩)];rfl
 ·rw[AcB (λhm=>by obtain⟨c,hc,e⟩:=List.mem_map.1 hm;exact h c hc e)];rfl
theorem Oj {F:Nat}(hF:270000<F){l:List Ae}(hA:∀y∈l,Hn 5000 y.fValue)(hl:l.length≤300):∀(r:List Ae) (n x:Nat) (acc:List Af),l.drop x=r→x≤l.length→acc.length=x→r.length<n→
  Br (B7 (λσ:List Af×Int=>Do F l σ.1 σ.2) n (acc,(x:Int))) (B5 λν=>Gf ν)=some (UO r ((l.take x).map (·.fKey)) acc)
 | [],n,x,acc,h,hx,ha,hn=>by
  obtain⟨n,rfl⟩:∃m,n=m+1:=⟨n-1,by simp at hn;omega⟩
  have:l.length≤x:=by simpa using h
  have hb:Do F l acc (x:Int)=some (.out (.go acc)):=by
   unfold Do;rw[A0 (AcB (by omega))]
  rw[B7,hb];rfl
 | y::r,n,x,acc,h,hx,ha,hn=>by
  obtain⟨n,rfl⟩:∃m,n=m+1:=⟨n-1,by simp at hn;omega⟩
  obtain⟨hat,hlt,hd⟩:=CT h;have hy:=hA y (Ad0 (i:=x) (by rw[h];simp));have hck:YW [Mh y]:=λc hc=>by rw[List.mem_singleton.1 hc];exact hy
  have e2:I0 F ([(Ad.mk y.fKey false y.fValue 0)]:List Ad)=some (IW y):=Rz hF hck;have e3:=WR hlt hl (by rw[hat]) (F:=F) (k:=y.fKey) (by omega);have htk:(l.take (x+1)).map (·.fKey)=(l.take x).map (·.fKey)++[y.fKey]:=by
   have hg:l[x]? =some y:=by
    have:=congrArg (λt=>t[0]?) h;simpa using this
   rw[List.take_add_one,hg];simp
  rw[B7,UO,Yx];simp only;unfold Do;rw[AF (AcC (by omega)),AP (by omega) (by omega),hat,QC (by omega),AI rfl,Kf hy (by decide) (by omega),AI rfl]
  cases h0:Pd y.fKey with
  | false=>rfl
  | true=>
   rw[A0 (by rfl)];simp only[AcP,AcD]
   cases h1:decide (GO y.fValue=0) with
   | false=>rfl
   | true=>
    rw[A0 (by rfl),e3]
    cases h2:decide (y.fKey∈(l.take x).map (·.fKey)) with
    | true=>rfl
    | false=>
     simp only[AcD,AcP];rw[AI rfl,CC];unfold Ge;rw[hat,AI e2]
     cases h3:decide ((IW y).2=0) with
     | false=>rfl
     | true=>
      rw[A0 (by rfl),G9 (by simp;omega),AB (by omega) (by omega),← htk];exact Oj hF hA hl r n (x+1) _ hd (by omega) (by simp;omega) (by simp at hn;omega)
theorem Qq {F:Nat}(hF:270000<F){l:List Ae}(hA:∀y∈l,Hn 5000 y.fValue):Ix F l=some (bif decide (256<l.length) then([],3) else UO l [] []):=by
 unfold Ix
 cases h:decide (256<l.length) with
 | true=>rw[AF (AcC (by have:=AcK h;omega))];rfl
 | false=>
  have h':=AcS h;rw[A0 (AcB (by omega))];exact Oj hF hA (by omega) l F 0 [] rfl (by omega) rfl (by omega)
theorem YP {xs ys:List (Af×Ae)}{y:Ae}(hn:Bs xs y.fKey=none)(hl:xs.length<256):SA 0 ⟨xs,ys⟩ [Mh y]=(0,⟨mset xs y.fKey (Ug y),[(y.fKey,Ug y)]⟩):=by
 have hc:Jg ⟨xs,[]⟩ (Mh y).fKey=zI:=by
  unfold Jg Mh;show(none:Option Ae).getD ((Bs xs y.fKey).getD zI)=zI;rw[hn];rfl
 have hg:JP ⟨xs,[]⟩ (Mh y) (xs.length:Int)=((xs.length:Int)+1,0,⟨xs,[(y.fKey,Ug y)]⟩):=by
  unfold JP;rw[hc];have:decide ((256:Int)≤(xs.length:Int))=false:=AcB (by omega);rw[this];rfl
 unfold SA Il;simp only;rw[hg];rfl
theorem XE {F:Nat}(hF:270000<F){xs:List (Af×Ae)}(ys:List (Af×Ae)){y:Ae}(hw:Nm ⟨xs,[]⟩)(hA:Hn 5000 y.fValue)(h1:E1 (Mh y)=0)(h2:(IW y).2=0)(hn:Bs xs y.fKey=none)(hl:xs.length<256) :
  Se F ⟨xs,ys⟩ (IW y).1=some (0,⟨mset xs y.fKey (Ug y),[(y.fKey,Ug y)]⟩)∧Nm ⟨mset xs y.fKey (Ug y),[]⟩:=by
 obtain⟨g1,g2⟩:=ZZ h1 hA;have hs:SmP [Mh y]:=⟨by simp,λc hc=>by rw[List.mem_singleton.1 hc];exact g1⟩
 have ho:∀c∈[Mh y],OkC c:=λc hc=>by rw[List.mem_singleton.1 hc];exact g2
 have hel:=Y0 h2;have hdc:=OP h2;have he:=PI (F:=F) (by omega) (YW.of hs ho);have he0:K8 [Mh y]=0:=by
  unfold K8;rw[AcB (by simp)];exact Lg λc hc=>by rw[List.mem_singleton.1 hc];exact h1
 rw[he0] at he;have ha:=YP (ys:=ys) hn hl;have hk:=VC (q:=⟨xs,ys⟩) (by omega) he hs hw.it (by show xs.length≤100000;omega);have hr:=(Ve (ys:=ys) (by omega) hw hs ho he).2;rw[ha] at hk hr;refine⟨?_,hr⟩;unfold Se LQ;rw[AI rfl,A0 (by rfl)];unfold IW at hel ⊢;rw[To hF (by omega),AI rfl,hdc,A0 (by rfl),hk,AI rfl]
end Go.Proofs.YtjfnokmpfekniaaGreatDoor
namespace Go.Proofs.YtjfnokmpfekniaaGreatDoor
open Go
set_option linter.unusedVariables false
set_option linter.unusedSimpArgs false
theorem WB {l:List Ae}(hl:l.length≤300):∀(r:List Ae) (n x:Nat) (acc:List Ad),l.drop x=r→x≤l.length→acc.length=x→r.length<n→B7 (λσ:List Ad×Int=>CE l σ.1 σ.2) n (acc,(x:Int))=some (.go (acc++r.map Mh))
 | [],n,x,acc,h,hx,ha,hn=>by
  obtain⟨n,rfl⟩:∃m,n=m+1:=⟨n-1,by simp at hn;omega⟩
  have:l.length≤x:=by simpa using h
  have hb:CE l acc (x:Int)=some (.out (.go acc)):=by
   unfold CE;rw[A0 (AcB (by omega))]
  rw[B7,hb,List.map_nil,Adk]
 | y::r,n,x,acc,h,hx,ha,hn=>by
  obtain⟨n,rfl⟩:∃m,n=m+1:=⟨n-1,by simp at hn;omega⟩
  obtain⟨hat,hlt,hd⟩:=CT h;have hb:CE l acc (x:Int)=some (.next (acc++[Mh y],((x+1:Nat):Int))):=by
   unfold CE;rw[AF (AcC (by omega)),AP (by omega) (by omega),hat,Qd (by simp;omega),AB (by omega) (by omega)];rfl
  rw[B7,hb];simp only;rw[WB hl r n (x+1) _ hd (by omega) (by simp;omega) (by simp at hn;omega),AcU];rfl
structure Hld (l:List Ae) (n:Nat) (xs:List (Af×Ae)):Prop where
 ok:Nm ⟨xs,[]⟩
 len:xs.length=n
 got:∀y∈l.take n,Bs xs y.fKey=some (Ug y)
 non:∀k,k ∉ (l.take n).map (·.fKey)→Bs xs k=none
theorem Hld.next {l:List Ae}{n:Nat}{xs:List (Af×Ae)}(h:Hld l n xs){y:Ae}(hy:l[n]? =some y)(hk:y.fKey ∉ (l.take n).map (·.fKey))(hw:Nm ⟨mset xs y.fKey (Ug y),[]⟩):Hld l (n+1) (mset xs y.fKey (Ug y)):=by
 have ht:l.take (n+1)=l.take n++[y]:=by rw[List.take_add_one,hy];rfl
 have hno:=h.non _ hk;refine⟨hw,?_,λz hz=>?_,λk hkk=>?_⟩
 ·rw[JJ];unfold Cp;rw[hno,h.len];rfl
 ·rw[IA];rw[ht] at hz;rcases List.mem_append.1 hz with hz | hz
  ·rw[AcB (λe=>hk (List.mem_map.2 ⟨z,hz,e⟩))];exact h.got z hz
  ·rw[List.mem_singleton.1 hz,AcC rfl];rfl
 ·rw[IA];rw[ht,AdA,List.mem_append,not_or] at hkk;rw[AcB (λe=>hkk.2 (by rw[e];simp))];exact h.non k hkk.1
theorem Th {l:List Ae}(h:(l.map (·.fKey)).Nodup){n:Nat}{y:Ae}(hy:l[n]? =some y):y.fKey ∉ (l.take n).map (·.fKey):=by
 have hs:l=l.take n++y::l.drop (n+1):=by
  obtain⟨hl,e⟩:=List.getElem?_eq_some_iff.1 hy;rw[← e,List.getElem_cons_drop,Ady]
 rw[hs,AdA,List.nodup_append] at h;exact λhm=>h.2.2 _ hm _ (by simp) rfl
theorem O6 {l:List Ae}(hl:∀y∈l,OkC (Mh y)):H9 300000 l=some true:=by
 unfold H9
 by_cases h3:(300:Int)<(l.length:Int)
 ·rw[AF (AcC h3),Jc];rfl
 ·have hlen:l.length≤300:=by omega
  rw[A0 (AcB h3)];rw[show(([]:List Ad),(0:Int))=([],((0:Nat):Int)) from rfl,AI (WB hlen l 300000 0 [] rfl (by omega) rfl (by omega)),CC,Adg];unfold EE;obtain⟨b,hb,hs⟩:=XK (F:=300000) (by decide) (l.map Mh);rw[hb,AI rfl]
  cases b with
  | false=>rw[AF (by rfl),Jc];rfl
  | true=>
   have hsm:=hs rfl;have hck:=YW.of hsm (λc hc=>by obtain⟨y,hy,rfl⟩:=List.mem_map.1 hc;exact hl y hy);have hA:∀y∈l,Hn 5000 y.fValue:=λy hy=>hck (Mh y) (List.mem_map.2 ⟨y,hy,rfl⟩);rw[A0 (by rfl),Q4 (by decide) hA,AI rfl,Qq (by decide) hA,AI rfl];have hR:∃a e,(bif decide (256<l.length) then(([]:List Af),(3:Int)) else UO l [] [])=(a,e)∧((e≠0∧a=[])∨(e=0∧l.length≤256∧a=l.map (λy=>(IW y).1)∧(∀y∈l,E1 (Mh y)=0∧(IW y).2=0)∧(l.map (·.fKey)).Nodup)):=by
    cases h:decide (256<l.length) with
    | true=>exact⟨[],3,rfl,.inl ⟨by decide,rfl⟩⟩
    | false=>
     have h':=AcS h;rcases TA l [] [] with⟨g1,g2⟩ | ⟨g1,g2,g3⟩
     ·exact⟨_,_,rfl,.inl ⟨g1,g2⟩⟩
     ·exact⟨_,_,g1,.inr ⟨rfl,by omega,by simp,λy hy=>⟨(g2 y hy).1,(g2 y hy).2.1⟩,g3⟩⟩
   obtain⟨a,e,hae,hc⟩:=hR;rw[hae,A0 (by simp)];unfold XR;rw[AI rfl];rcases hc with⟨he,rfl⟩ | ⟨rfl,ha,rfl,hgood,hnd⟩
   ·have hb:Cr 300000 ([],e) ([],e) 0 [] []=some (.out (.go ([],[]))):=by
     unfold Cr;rw[A0 (by rfl)]
    have hlp:B7 (λσ:Int×List (Af×Ae)×List (Af×Ae)=>Cr 300000 ([],e) ([],e) σ.1 σ.2.1 σ.2.2) 300000 (0,[],[])=some (.go ([],[])):=DO (n:=299999) hb;rw[AI hlp,CC];unfold DT;rw[AF (by simp[he]),Jc];rfl
   ·generalize hq:(l.map (λy=>(IW y).1),(0:Int))=q;have hq1:q.1=l.map (λy=>(IW y).1):=by rw[← hq]
    have hq2:q.2=0:=by rw[← hq]
    have hql:q.1.length=l.length:=by rw[hq1,AcR]
    obtain⟨o,g1,g2⟩:=Gj (body:=λσ:Int×List (Af×Ae)×List (Af×Ae)=>Cr 300000 q q σ.1 σ.2.1 σ.2.2) (λσ=>0≤σ.1∧σ.1≤(l.length:Int)∧Hld l σ.1.toNat σ.2.1) (λσ=>l.length-σ.1.toNat)
     (λo=>∃xs ys,o = .go (xs,ys)∧Hld l l.length xs) (λ⟨x,xs,ys⟩ ⟨h0,hxl,hh⟩=>by
      dsimp only at h0 hxl hh ⊢
      by_cases hx:x<(l.length:Int)
      ·obtain⟨y,hy⟩:∃y,l[x.toNat]? =some y:=⟨l[x.toNat]'(by omega),AcL (by omega)⟩
       have hm:y∈l:=AcO hy;have hat:Ao q.1 x=(IW y).1:=by rw[hq1];simp[Ao,hy]
       have hk:=Th hnd hy;have hxl2:=hh.len;obtain⟨k1,k2⟩:=XE (F:=300000) (by decide) ys hh.ok (hA y hm) (hgood y hm).1 (hgood y hm).2 (hh.non _ hk) (by omega);have hnx:=hh.next hy hk k2;refine .inl ⟨(x+1,mset xs y.fKey (Ug y),[(y.fKey,Ug y)]),?_,⟨by show 0≤x+1;omega,by show x+1≤_;omega,?_⟩,by show l.length-(x+1).toNat<l.length-x.toNat;omega⟩
       ·unfold Cr;rw[AF (AcC (by omega)),AP h0 (by omega),AP h0 (by omega),hat,A0 (by simp),AI k1];unfold DU;rw[A0 (by rfl),AB (by omega) (by omega)]
       ·show Hld l (x+1).toNat _;rw[show(x+1).toNat=x.toNat+1 from by omega];exact hnx
      ·refine .inr ⟨.go (xs,ys),by unfold Cr;rw[A0 (AcB (by omega))],xs,ys,rfl,?_⟩;rw[show x.toNat=l.length from by omega] at hh;exact hh) 300000 (0,[],[]) ⟨AcX 0,by show(0:Int)≤_;omega,⟨Nm.start,rfl,λ_ h=>by simp at h,λ_ _=>rfl⟩⟩ (by show l.length-0<300000;omega)
    obtain⟨xs,ys,rfl,hh⟩:=g2;rw[AI g1,CC];unfold DT;rw[hq2,A0 (by rfl)];have htk:l.take l.length=l:=Ad5;obtain⟨o,f1,f2⟩:=Gj (body:=λσ:Int×List (Af×Ae)×List (Af×Ae)=>Du 300000 l σ.1 σ.2.1 σ.2.2) (λσ=>0≤σ.1∧σ.1≤(l.length:Int)∧σ.2=(xs,ys)) (λσ=>l.length-σ.1.toNat)
     (λo=>o = .go (xs,ys)) (λ⟨x,xs2,ys2⟩ ⟨h0,hxl,hz⟩=>by
      dsimp only at h0 hxl hz ⊢
      cases hz
      by_cases hx:x<(l.length:Int)
      ·obtain⟨y,hy⟩:∃y,l[x.toNat]? =some y:=⟨l[x.toNat]'(by omega),AcL (by omega)⟩
       have hm:y∈l:=AcO hy;have hat:Ao l x=y:=by simp[Ao,hy]
       have hg:=hh.got y (by rw[htk];exact hm);have hvl:y.fValue.length≤300:=(hsm.all (Mh y) (List.mem_map.2 ⟨y,hm,rfl⟩)).val;refine .inl ⟨(x+1,xs,ys),?_,⟨by show 0≤x+1;omega,by show x+1≤_;omega,rfl⟩,by show l.length-(x+1).toNat<l.length-x.toNat;omega⟩;unfold Du;rw[AF (AcC hx),AP h0 hx,hat,ZR (q:=⟨xs,ys⟩) hh.ok.it,AI rfl];dsimp only;rw[hg];have hr:GN 300000 ([Ug y]:List Ae) ([Ae.mk y.fKey y.fValue 1]:List Ae)=some true:=Rv (by simp) (by decide) (by simp) (λz hz=>by rw[List.mem_singleton.1 hz];exact hvl);rw[show((some (Ug y)).getD zI)=Ug y from rfl,hr,BL (by simp[imp]),A0 (by simp[AaV]),AB (by omega) (by omega)]
      ·exact .inr ⟨.go (xs,ys),by unfold Du;rw[A0 (AcB hx)],rfl⟩) 300000 (0,xs,ys) ⟨AcX 0,by show(0:Int)≤_;omega,rfl⟩ (by show l.length-0<300000;omega)
    subst f2;rw[AI f1,CC];unfold ED;rw[ZQ,AI rfl];dsimp only;rw[AF (AcC (by rw[hh.len])),Jc];rfl
end Go.Proofs.YtjfnokmpfekniaaGreatDoor
namespace Go.Proofs.YtjfnokmpfekniaaGreatDoor.lawKvSnapshots
open Go
set_option linter.unusedVariables false
theorem okI {y:Ae}(h:Vl y=true):OkC (Mh y):=by
 unfold Vl at h;simp only[AcG,Adn,Ac9] at h;refine⟨⟨by show(-9223372036854775808:Int)≤0;decide,by show(0:Int)≤9223372036854775807;decide⟩,λx hx=>?_⟩;have:=h.1.2.1 x hx;unfold Xq at this;simp only[AcG] at this;exact⟨this.1.1.2,(GD this.2).2⟩
theorem law:Law:=λl h1=>⟨300000,O6 (λy hy=>by
 simp only[AcG,Adn,Ac9] at h1;exact okI (h1.1 y hy))⟩
end Go.Proofs.YtjfnokmpfekniaaGreatDoor.lawKvSnapshots
