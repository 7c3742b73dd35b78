/-
  Texts of the proof, put together: LaB, LaC, LaD, LaE, LaL, LaF, LaG, LaH, LaI, LaJ, LaA0, LaK, LaM, LaO, LaP, LaQ, PN, LaS, LaT, LaU, PlF, LaV, LaR, LaW, LaX, LwHDoes.
-/
import Derived.Test.YtphnhpcjnmmhiaaGreatDoorHD5
import Derived.Laws.BitsLemmas
import Derived.Lib.RowBridge
import Derived.Sort.Walk0
namespace Go.Proofs.YtphnhpcjnmmhiaaGreatDoor
open Go
set_option linter.unusedVariables false
set_option linter.unusedSimpArgs false
variable{α:Type}{i:Nat}
theorem BF [Inhabited α]{l:List α}(h:i<l.length):Af l (i:Int)=l[i]:=by simp[Af,h]
theorem GR (p:Bool)(a b:α):Bj p (some a) (some b)=some (bif p then a else b):=by cases p<;>rfl
theorem Cf (a b:Option α):Bj true a b=a:=rfl
theorem Bi (a b:Option α):Bj false a b=b:=rfl
theorem C6 (x:Option α):AM true x=x:=rfl
theorem UZ (a:Bool):imp false a=true:=rfl
theorem C4 (a:Bool):imp a true=true:=by cases a<;>rfl
variable{β:Type}
theorem A3 (a:α)(k:α→Option β):Ba (some a) k=k a:=rfl
variable{S:Type}
theorem RU {O:Type}{body:S→Option (Stp S O)}{n:Nat}{s s':S}(h:body s=some (.next s')):Cg body (n+1) s=Cg body n s':=by rw[Cg,h]
theorem Ln {O:Type}{body:S→Option (Stp S O)}{n:Nat}{s:S}{o:O}(h:body s=some (.out o)):Cg body (n+1) s=some o:=by rw[Cg,h]
variable{R U:Type}{body:Int→Option (Stp Int (Out R U))}{u:U}{p:α→Bool}
theorem AjA {l:List α}{ret:Nat→R}(hb:∀(i:Nat) (h:i<l.length),body (i:Int)=Bj (p l[i]) (some (.out (.ret (ret i)))) (some (.next ((i:Int)+1))))(he:body (l.length:Int)=some (.out (.go u))) :
  ∀(d n i:Nat),i+d=l.length→d<n→Cg body n (i:Int)=some (match (l.drop i).findIdx? p with | some j=>.ret (ret (i+j)) | none=>.go u):=by
 intro d
 induction d with
 | zero=>
  intro n i h hn;obtain⟨n,rfl⟩:∃m,n=m+1:=⟨n-1,by omega⟩
  obtain rfl:i=l.length:=by omega
  rw[Cg,he,List.drop_length];rfl
 | succ d ih=>
  intro n i h hn;obtain⟨n,rfl⟩:∃m,n=m+1:=⟨n-1,by omega⟩
  have hi:i<l.length:=by omega
  rw[Cg,hb i hi,List.drop_eq_getElem_cons hi,List.findIdx?_cons]
  cases hp:p l[i] with
  | true=>simp[Bj]
  | false=>
   have:=ih n (i+1) (by omega) (by omega);simp only[Bi];refine this.trans ?_
   cases(List.drop (i+1) l).findIdx? p with
   | none=>rfl
   | some j=>simp only[Option.map_some,ApL,Aqe];rw[show i+1+j=i+(j+1) by omega]
variable{F:Nat}
theorem HI {l:List α}{ret:Nat→R}(hF:l.length<F)(hb:∀(i:Nat) (h:i<l.length),body (i:Int)=Bj (p l[i]) (some (.out (.ret (ret i)))) (some (.next ((i:Int)+1))))(he:body (l.length:Int)=some (.out (.go u))) :
  Cg body F 0=some (match l.findIdx? p with | some j=>.ret (ret j) | none=>.go u):=by
 have h:=AjA hb he l.length F 0 (by omega) hF;rw[List.drop_zero] at h;refine h.trans ?_
 cases l.findIdx? p with
 | none=>rfl
 | some j=>simp only[ApQ]
def Wb {α:Type}(l:List α)(p:α→Bool):Int:=match l.findIdx? p with
 | some j=>(j:Int)
 | none=>-1
theorem ER (l:List α)(p:α→Bool):decide (0≤Wb l p)=l.any p:=by
 unfold Wb
 cases h:l.findIdx? p with
 | none=>
  have:l.any p=false:=by
   rw[List.any_eq_false];intro x hx;simpa using List.findIdx?_eq_none_iff.1 h x hx
  rw[this];rfl
 | some j=>
  obtain⟨hj,h1,_⟩:=List.findIdx?_eq_some_iff_getElem.1 h;rw[List.any_eq_true.2 ⟨l[j],List.getElem_mem hj,h1⟩];exact Apr (Int.natCast_nonneg j)
theorem Qe {l:List α}{body:Int→Option (Stp Int (Out Int Unit))}(hF:l.length<F)(hb:∀(i:Nat) (h:i<l.length),body (i:Int)=Bj (p l[i]) (some (.out (.ret (i:Int)))) (some (.next ((i:Int)+1))))(he:body (l.length:Int)=some (.out (.go ()))) :
  Ba (Cg body F 0) (Cm λ_=>some (-1))=some (Wb l p):=by
 rw[HI hF (ret:=λj:Nat=>(j:Int)) hb he,A3];unfold Wb
 cases l.findIdx? p<;>rfl
def RF {α β R:Type}(g:Nat→β→α→Out R β):Nat→β→List α→Out R β
 | _,acc,[]=>.go acc
 | i,acc,x::r=>match g i acc x with
  | .ret q=>.ret q
  | .go b=>RF g (i+1) b r
def Amt {R β U:Type}(f:β→U):Out R β→Out R U
 | .ret q=>.ret q
 | .go b=>.go (f b)
def Am6 {S R U β:Type}(mk:β→S):Out R β→Stp S (Out R U)
 | .ret q=>.out (.ret q)
 | .go b=>.next (mk b)
theorem Ahu {l:List α}{mk:Nat→β→S}{body:S→Option (Stp S (Out R U))}{fin:β→U}(g:Nat→β→α→Out R β)(P:Nat→β→Prop)
  (hb:∀(i:Nat) (h:i<l.length) (acc:β),P i acc→body (mk i acc)=some (Am6 (mk (i+1)) (g i acc l[i]))∧∀b,g i acc l[i] = .go b→P (i+1) b)
  (he:∀acc,P l.length acc→body (mk l.length acc)=some (.out (.go (fin acc)))) :
  ∀(d i n:Nat) (acc:β),i+d=l.length→d<n→P i acc→Cg body n (mk i acc)=some (Amt fin (RF g i acc (l.drop i)))∧∀b,RF g i acc (l.drop i) = .go b→P l.length b:=by
 intro d
 induction d with
 | zero=>
  intro i n acc h hn hP;obtain⟨n,rfl⟩:∃m,n=m+1:=⟨n-1,by omega⟩
  obtain rfl:i=l.length:=by omega
  rw[Cg,he _ hP,List.drop_length];exact⟨rfl,λb hb=>by cases hb;exact hP⟩
 | succ d ih=>
  intro i n acc h hn hP;obtain⟨n,rfl⟩:∃m,n=m+1:=⟨n-1,by omega⟩
  have hi:i<l.length:=by omega
  obtain⟨h1,h2⟩:=hb i hi acc hP;rw[Cg,h1,List.drop_eq_getElem_cons hi,RF]
  cases hg:g i acc l[i] with
  | ret q=>exact⟨rfl,λb hb=>by cases hb⟩
  | go b=>exact ih (i+1) n b (by omega) (by omega) (h2 b hg)
theorem Kg {l:List α}{mk:Nat→β→S}{body:S→Option (Stp S (Out R U))}{fin:β→U}(g:Nat→β→α→Out R β)(P:Nat→β→Prop)
  (hb:∀(i:Nat) (h:i<l.length) (acc:β),P i acc→body (mk i acc)=some (Am6 (mk (i+1)) (g i acc l[i]))∧∀b,g i acc l[i] = .go b→P (i+1) b)
  (he:∀acc,P l.length acc→body (mk l.length acc)=some (.out (.go (fin acc)))) {F:Nat} (hF:l.length<F) {a:β} (hP:P 0 a) :
  Cg body F (mk 0 a)=some (Amt fin (RF g 0 a l))∧∀b,RF g 0 a l = .go b→P l.length b:=by
 have h:=Ahu (fin:=fin) g P hb he l.length 0 F a (by omega) hF hP;rw[List.drop_zero] at h;exact h
theorem P5 (s w:Ac):GH s w=some (Ic s w):=by
 unfold GH NC Ic;have:imp (decide ((w.length:Int)≤(s.length:Int))) (IG (w.length:Int) (s.length:Int))=true:=by
  cases hd:decide ((w.length:Int)≤(s.length:Int)) with
  | false=>rfl
  | true=>simp only[imp];rw[Afn (by omega) (by simpa using hd)];rfl
 rw[BN this,show Int.toNat (w.length:Int)=w.length from by omega];simp[Ba]
variable{s:Ac}
theorem NB {x:Ac}(h:s.length≤1000000000)(hx:x.length≤1000):J2 s x=some (EA s x):=by
 unfold J2 EA;have e:decide (x.length≤s.length)=decide ((x.length:Int)≤(s.length:Int)):=by simp
 rw[e]
 cases hd:decide ((x.length:Int)≤(s.length:Int)) with
 | false=>rfl
 | true=>
  have hd':(x.length:Int)≤(s.length:Int):=ApH hd;rw[I6 (by omega) (by omega),Afn (by omega) (by omega),C4,C6,C6,show Int.toNat ((s.length:Int)-(x.length:Int))=s.length-x.length from by omega]
theorem Vb (h:s.length≤1000000000):I7 s=some (M1 s [42]):=by
 unfold I7 PJ M4 M1;rw[NB h (by decide),A3]
 cases hs:EA s [42] with
 | false=>rfl
 | true=>
  have hl:(1:Int)≤(s.length:Int):=by have:=AbW hs;simp only[ApC] at this;omega
  rw[Cf,show(([42]:Ac).length:Int)=1 from rfl,A8 (by omega) (by omega),CU (by omega) (by omega),show Int.toNat ((s.length:Int)-1)=s.length-1 from by omega];rfl
theorem Aan (h:s.length≤1000000000):Rb s=some (EA s [42]):=by
 unfold Rb Sm;rw[NB h (by decide)];rfl
theorem Tc (h:s.length≤1000000000):Oc s=some (Kd s):=by
 unfold Oc;rw[Vb h,Aan h];simp only[Option.isSome_some,C4,C6,DN];rfl
theorem Aao {q:Ac}(h:q.length≤1000000000)(s:Ac):Rc q s=some (MG q s):=by
 unfold Rc MG;rw[Tc h,A3]
 cases Kd q with
 | false=>rfl
 | true=>
  simp only[Ap0,Bi,Ap7];rw[Aan h,A3]
  cases EA q [42] with
  | false=>rfl
  | true=>
   rw[Cf,Vb h,A3,P5];rfl
structure Qv (s:Ad):Prop where
 a:s.fActions.length≤2000000
 r:s.fResources.length≤2000000
 sa:∀x∈s.fActions,x.length≤1000000000
 sr:∀x∈s.fResources,x.length≤1000000000
abbrev FB:Nat:=5000000
variable{l:List Ac}
theorem WV (hl:l.length≤2000000)(hs:∀x∈l,x.length≤1000000000):Vi FB l=some (l.any λx=>!Kd x):=by
 unfold Vi Ah8;have:=Qe (l:=l) (p:=λx=>!Kd x) (F:=FB) (body:=Mb l) (by show l.length<5000000;omega) (λi h=>by
  unfold Mb UF;rw[AO (Apr (by omega)),AI (by omega) (by omega),BF h,Tc (hs _ (List.getElem_mem h)),A3,A3,A8 (by omega) (by omega)]) (by unfold Mb;rw[AC (Apq (by omega))])
 unfold Oa;rw[this,A3,ER]
theorem AbX (hl:l.length≤2000000)(hs:∀x∈l,x.length≤1000000000)(s:Ac):TL FB l s=some (l.any λx=>MG x s):=by
 unfold TL AbM;have:=Qe (l:=l) (p:=λx=>MG x s) (F:=FB) (body:=Ky l s) (by show l.length<5000000;omega) (λi h=>by
  unfold Ky XS;rw[AO (Apr (by omega)),AI (by omega) (by omega),BF h,Aao (hs _ (List.getElem_mem h)),A3,A3,A8 (by omega) (by omega)]) (by unfold Ky;rw[AC (Apq (by omega))])
 unfold LZ;rw[this,A3,ER]
theorem W9 (hl:l.length≤2000000)(hs:∀x∈l,x.length≤1000000000)(s:Ac):I3 FB l s=some (l.any λx=>MG x s):=by
 unfold I3;rw[AbX hl hs];rfl
def Afl (l:List Ac):Bool:=decide ((l.length:Int)<1)||decide (8<(l.length:Int))
def RS (s:Ad):Int:=bif Afl s.fActions||Afl s.fResources then 3 else bif (s.fActions.any λx=>!Kd x)||(s.fResources.any λx=>!Kd x) then 4 else 0
theorem UE {s:Ad}(h:Qv s):HS FB s=some (RS s):=by
 unfold HS MC KI RS;rw[HI (l:=[s.fActions,s.fResources]) (p:=Afl) (ret:=λ_=>(3:Int)) (u:=()) (body:=Ja s) (by show 2<5000000;omega) (λi hi=>by
  unfold Ja;rw[AO (Apr (by omega)),AI (by omega) (by omega),BF hi,A8 (by simp at hi;omega) (by simp at hi;omega)];rfl) (by unfold Ja;rw[AC (Apq (by omega))]),A3]
 have e2:∀x∈[s.fActions,s.fResources],Vi FB x=some (x.any λx=>!Kd x):=by
  intro x hx;simp only[Aqb,List.not_mem_nil,or_false] at hx;rcases hx with rfl | rfl
  ·exact WV h.a h.sa
  ·exact WV h.r h.sr
 rw[HI (l:=[s.fActions,s.fResources]) (p:=λl=>l.any λx=>!Kd x) (ret:=λ_=>(4:Int)) (u:=()) (body:=IZ FB s) (by show 2<5000000;omega) (λi hi=>by
  unfold IZ;rw[AO (Apr (by omega)),AI (by omega) (by omega),BF hi,e2 _ (List.getElem_mem hi),A3,A8 (by simp at hi;omega) (by simp at hi;omega)]) (by unfold IZ;rw[AC (Apq (by omega))]),A3]
 simp only[List.findIdx?_cons,List.findIdx?_nil]
 cases Afl s.fActions<;>cases Afl s.fResources<;>cases(s.fActions.any λx=>!Kd x)<;>cases(s.fResources.any λx=>!Kd x)<;>rfl
def We (allow:Bool)(action resource:Ac)(x:Ad):Bool:=(x.fAllow ==allow)&&(decide (RS x=0)&&((x.fActions.any λy=>MG y action)&&(x.fResources.any λy=>MG y resource)))
theorem Ab5 {x:Ad}(h:Qv x)(allow:Bool)(action resource:Ac):QN FB x allow action resource=some (We allow action resource x):=by
 unfold QN;rw[UE h,W9 h.a h.sa,W9 h.r h.sr];simp only[Option.isSome_some,C4,C6,DN];rfl
def AeI (l:List Ad)(action resource:Ac):Ch:=
 bif l.any (We false action resource) then⟨false,Wb l (We false action resource)⟩ else⟨l.any (We true action resource),Wb l (We true action resource)⟩
theorem Aai {l:List Ad}(hl:l.length≤2000000)(h:∀x∈l,Qv x)(allow:Bool)(action resource:Ac):Adm FB l allow action resource=some (Wb l (We allow action resource)):=by
 unfold Adm NZ;exact Qe (l:=l) (p:=We allow action resource) (F:=FB) (body:=Ma FB l allow action resource) (by show l.length<5000000;omega) (λi hi=>by
  unfold Ma;rw[AO (Apr (by omega)),AI (by omega) (by omega),BF hi,Ab5 (h _ (List.getElem_mem hi)),A3,A8 (by omega) (by omega)]) (by unfold Ma;rw[AC (Apq (by omega))])
theorem ZB {l:List Ad}(hl:l.length≤2000000)(h:∀x∈l,Qv x)(action resource:Ac):NP FB l action resource=some (AeI l action resource):=by
 unfold NP UD AeI;rw[Aai hl h,Aai hl h];simp only[A3,ER,GR]
def Pg (n low high:Int):Bool:=decide (low≤n)&&decide (n≤high)
def Pw (bits:Int):Int:=Sc .i64 1 (32-bits)-1
theorem Zq {bits:Int}(h:Pg bits 0 32=true):0≤Pw bits∧Pw bits≤4294967295:=by
 unfold Pg at h;simp only[Aps,Apt] at h;have key:∀k:Nat,k<33→0≤Pw (k:Int)∧Pw (k:Int)≤4294967295:=by decide +kernel
 have:=key bits.toNat (by omega)
 rwa [show((bits.toNat:Nat):Int)=bits from by omega] at this
theorem WG {bits:Int}(h:Pg bits 0 32=true):Hl bits=some (Pw bits):=by
 have h1:=Zq h;unfold Pg at h;simp only[Aps,Apt] at h;unfold Hl;rw[A8 (by omega) (by omega),BN (Apr (by omega)),A8 (by unfold Pw at h1;omega) (by unfold Pw at h1;omega)];rfl
def Tw (q:A1):Bool:=!Pg q.fAddr 0 4294967295||(!Pg q.fBits 0 32||(!Pg q.fLow 1 65535||!Pg q.fHigh q.fLow 65535))
def Kf (q:A1):Int:=bif Tw q then 2 else bif !decide (Aaq .i64 q.fAddr (Pw q.fBits)=0) then 1 else 0
theorem XY (n a b:Int):Ga n a b=some (Pg n a b):=rfl
theorem UM (q:A1):Gf q=some (Kf q):=by
 unfold Gf Kf;simp only[XY,Option.isSome_some,C4,C6,DN];rw[show((!Pg q.fAddr 0 4294967295)||((!Pg q.fBits 0 32)||((!Pg q.fLow 1 65535)||(!Pg q.fHigh q.fLow 65535))))=Tw q from rfl]
 cases hb:Tw q with
 | true=>rfl
 | false=>
  have h1:Pg q.fBits 0 32=true:=by
   unfold Tw at hb;simp only[ApB,ApX] at hb;exact hb.2.1
  rw[Bi,WG h1,A3,GR];rfl
def XW (addr port:Int)(q:A1):Bool:=decide (Kf q=0)&&(Pg addr q.fAddr (q.fAddr+Pw q.fBits)&&Pg port q.fLow q.fHigh)
theorem AeR {q:A1}(h:Kf q=0):Pg q.fAddr 0 4294967295=true∧Pg q.fBits 0 32=true:=by
 unfold Kf at h
 cases hb:Tw q with
 | true=>rw[hb] at h;cases h
 | false=>
  unfold Tw at hb;simp only[ApB,ApX] at hb;exact⟨hb.1,hb.2.1⟩
theorem XX (q:A1)(addr port:Int):LW q addr port=some (XW addr port q):=by
 unfold LW XW;rw[UM];have e:decide (ov (some (Kf q))=0)=decide (Kf q=0):=rfl;rw[e]
 cases hd:decide (Kf q=0) with
 | false=>simp only[UZ,C6,ApO,Option.isSome_some]
 | true=>
  simp only[Option.isSome_some,C4,C6,XY,DN];obtain⟨h1,h2⟩:=AeR (ApH hd);have h3:=Zq h2;unfold Pg at h1;simp only[Aps,Apt] at h1;rw[WG h2];simp only[Option.isSome_some,C4,C6,DN];rw[I6 (by omega) (by omega)];simp only[C4,C6]
def Ahl (l:List A1)(addr port:Int):Ch:=match l.findIdx? (XW addr port) with
 | some j=>⟨(Af l (j:Int)).fAllow,j⟩
 | none=>⟨false,-1⟩
theorem ZO {l:List A1}(hl:l.length≤2000000)(addr port:Int):JC FB l addr port=some (Ahl l addr port):=by
 unfold JC Ahl;rw[HI (l:=l) (p:=XW addr port) (ret:=λj:Nat=>(⟨(Af l (j:Int)).fAllow,(j:Int)⟩:Ch)) (u:=()) (body:=Im l addr port) (by show l.length<5000000;omega) (λi hi=>by
  unfold Im;rw[AO (Apr (by omega)),AI (by omega) (by omega),BF hi,XX,A3,A8 (by omega) (by omega)]) (by unfold Im;rw[AC (Apq (by omega))]),A3]
 cases l.findIdx? (XW addr port)<;>rfl
def De:Ac→List Ac
 | []=>[[]]
 | c::r=>bif decide (c=46) then[]::De r else match De r with
  | p::ps=>(c::p)::ps
  | []=>[]
theorem M3:∀s:Ac,(De s).length=Lib.countByte s 46+1
 | []=>rfl
 | c::r=>by
  have ih:=M3 r;unfold Lib.countByte at *;rw[De,List.count_cons]
  by_cases hc:c=46
  ·subst hc;simp[ih]
  ·rw[Apq hc,Apv];have:(c ==46)=false:=by simp[hc]
   rw[this]
   cases h:De r with
   | nil=>rw[h] at ih;simp at ih
   | cons p ps=>rw[h] at ih;simpa using ih
theorem R9:∀{s:Ac},0≤Lib.indexByte s 46→De s=s.take (Lib.indexByte s 46).toNat::De (s.drop ((Lib.indexByte s 46).toNat+1))
 | [],h=>by simp[Lib.indexByte] at h
 | c::r,h=>by
  unfold Lib.indexByte at h ⊢
  by_cases hc:c=46
  ·subst hc;simp[De]
  ·have h1:(c ==46)=false:=by simp[hc]
   rw[h1] at h ⊢;simp only[ApL,Aqe] at h ⊢;have hg:=(Sb r 46).1;have h2:(Lib.indexByte r 46 == -1)=false:=by
    by_cases h3:Lib.indexByte r 46 = -1
    ·rw[h3] at h;simp at h
    ·simp[h3]
   rw[h2] at h ⊢;simp only[ApL,Aqe] at h ⊢;have h3:0≤Lib.indexByte r 46:=by simp at h2;omega
   have ih:=R9 h3;rw[De,Apq hc,Apv,ih,show Int.toNat (Lib.indexByte r 46+1)=(Lib.indexByte r 46).toNat+1 from by omega];simp
theorem R8:∀{s:Ac},Lib.indexByte s 46<0→De s=[s]
 | [],h=>rfl
 | c::r,h=>by
  unfold Lib.indexByte at h
  by_cases hc:c=46
  ·subst hc;simp at h
  ·have h1:(c ==46)=false:=by simp[hc]
   rw[h1] at h;simp only[ApL,Aqe] at h;have hg:=(Sb r 46).1;have h3:Lib.indexByte r 46<0:=by
    by_cases h4:Lib.indexByte r 46 = -1
    ·omega
    ·rw[show(Lib.indexByte r 46 == -1)=false from by simp[h4]] at h;simp at h;omega
   rw[De,Apq hc,Apv,R8 h3]
theorem Ae0 (x:Ac):X7 x=some (Lib.indexByte x 46):=by
 unfold X7 Adl
 by_cases h:([46]:Ac)=x
 ·subst h;rfl
 ·rw[AC (Apq h),AI (by decide) (by decide),A3];rfl
theorem V0 (a:α)(f:α→Option β):Nu a f=f a:=rfl
theorem Abm (s:Ac)(hs:s.length≤1000000000):∀(k:Nat) (x:Ac) (dn:List Ac) (n:Nat),(De x).length=k+1→dn.length+k=Lib.countByte s 46→k<n→x.length≤1000000000→
  Ba (Cg (λσ=>Eh s σ.1 σ.2.1 σ.2.2) n (x,(dn.length:Int),dn++List.replicate (k+1) ([]:Ac))) (Cm λν=>Hu ν.1 ν.2.1 ν.2.2)=some (dn++De x):=by
 have hc:Lib.countByte s 46≤s.length:=List.count_le_length;have hmin:min ((Lib.countByte s 46:Int)+1) ((s.length:Int)+1)-1=(Lib.countByte s 46:Int):=by omega
 intro k
 induction k with
 | zero=>
  intro x dn n hl hk hn hx;obtain⟨n,rfl⟩:∃m,n=m+1:=⟨n-1,by omega⟩
  have h0:Lib.indexByte x 46<0:=by
   by_cases h:0≤Lib.indexByte x 46
   ·have:=R9 h;rw[this] at hl;have h2:=M3 (x.drop ((Lib.indexByte x 46).toNat+1));simp only[Ap2] at hl;omega
   ·omega
  have hbody:Eh s x (dn.length:Int) (dn++List.replicate 1 ([]:Ac))=some (.out (.go (x,(dn.length:Int),dn++List.replicate 1 ([]:Ac)))):=by
   unfold Eh;rw[hmin,AC (Apq (by omega))]
  rw[Ln (body:=λσ=>Eh s σ.1 σ.2.1 σ.2.2) hbody,A3];show Hu x (dn.length:Int) (dn++List.replicate 1 ([]:Ac))=_;unfold Hu;rw[V0];have e1:List.set (dn++List.replicate 1 ([]:Ac)) (Int.toNat (dn.length:Int)) x=dn++[x]:=by
   rw[show Int.toNat (dn.length:Int)=dn.length from by omega];simp[List.set_append]
  rw[e1,AI (by omega) (by simp;omega),A8 (by omega) (by omega),CU (by omega) (by simp),R8 h0,show Int.toNat ((dn.length:Int)+1)=(dn++[x]).length from by simp,Aqi]
 | succ k ih=>
  intro x dn n hl hk hn hx;obtain⟨n,rfl⟩:∃m,n=m+1:=⟨n-1,by omega⟩
  have h0:0≤Lib.indexByte x 46:=by
   by_cases h:0≤Lib.indexByte x 46
   ·exact h
   ·rw[R8 (by omega)] at hl;simp at hl
  have hb:=(Sb x 46).2;have e:=R9 h0;rw[e] at hl;simp only[Ap2] at hl;have hd:(De (x.drop ((Lib.indexByte x 46).toNat+1))).length=k+1:=by omega
  have e1:List.set (dn++List.replicate (k+1+1) ([]:Ac)) (Int.toNat (dn.length:Int)) (List.take (Int.toNat (Lib.indexByte x 46+0)) x)=(dn++[x.take (Lib.indexByte x 46).toNat])++List.replicate (k+1) ([]:Ac):=by
   rw[show Int.toNat (dn.length:Int)=dn.length from by omega,show Lib.indexByte x 46+0=Lib.indexByte x 46 from by omega];rw[List.replicate_succ];simp[List.set_append]
  have hbody:Eh s x (dn.length:Int) (dn++List.replicate (k+1+1) ([]:Ac))=some (.next (x.drop ((Lib.indexByte x 46).toNat+1),((dn++[x.take (Lib.indexByte x 46).toNat]).length:Int),(dn++[x.take (Lib.indexByte x 46).toNat])++List.replicate (k+1) ([]:Ac))):=by
   unfold Eh;rw[hmin,AO (Apr (by omega)),Ae0,A3,AC (Apq (by omega)),A8 (by omega) (by omega),CU (by omega) (by omega),AI (by omega) (by simp;omega)];rw[V0,e1,A8 (by omega) (by omega),CU (by omega) (by omega),A8 (by omega) (by omega)];rw[show Int.toNat (Lib.indexByte x 46+1)=(Lib.indexByte x 46).toNat+1 from by omega,show((dn.length:Int)+1)=((dn++[x.take (Lib.indexByte x 46).toNat]).length:Int) from by simp]
  have:=ih (x.drop ((Lib.indexByte x 46).toNat+1)) (dn++[x.take (Lib.indexByte x 46).toNat]) n hd (by simp;omega) (by omega) (by rw[ApU];omega);rw[RU (body:=λσ=>Eh s σ.1 σ.2.1 σ.2.2) hbody];refine this.trans ?_;rw[e];simp
theorem Aez (hs:s.length≤2000000):X6 FB s=some (De s):=by
 have hc:Lib.countByte s 46≤s.length:=List.count_le_length;unfold X6 Rn;rw[A8 (by omega) (by omega),A8 (by omega) (by omega),BN (show Dl 16 _=true from Apr (by omega)),BN (Apr (by omega)),A8 (by omega) (by omega)];have:=Abm s (by omega) (Lib.countByte s 46) s [] FB (M3 s) (by simp) (by show Lib.countByte s 46<5000000;omega) (by omega);rw[show Int.toNat (min ((Lib.countByte s 46:Int)+1) ((s.length:Int)+1))=Lib.countByte s 46+1 from by omega];rw[show Ba (Cg (λσ=>Eh s σ.1 σ.2.1 σ.2.2) FB (s,0,List.replicate (Lib.countByte s 46+1) ([]:Ac))) (Cm λν=>Hu ν.1 ν.2.1 ν.2.2)=some (De s) from this,A3]
theorem KG:∀{s:Ac} {p:Ac},p∈De s→p.length≤s.length
 | [],p,h=>by simp[De] at h;subst h;simp
 | c::r,p,h=>by
  rw[De] at h
  by_cases hc:c=46
  ·rw[Apr hc,Ap1] at h;rcases List.mem_cons.1 h with rfl | h
   ·simp
   ·have:=KG h;simp;omega
  ·rw[Apq hc,Apv] at h
   cases hr:De r with
   | nil=>rw[hr] at h;cases h
   | cons q qs=>
    rw[hr] at h;rcases List.mem_cons.1 h with rfl | h
    ·have:=KG (s:=r) (p:=q) (by rw[hr];simp);simp;omega
    ·have:=KG (s:=r) (p:=p) (by rw[hr];simp[h]);simp;omega
theorem Xq {n:Nat}(h:n<9223372036854775808):IntKind.i64.wrap (n:Int)=(n:Int):=by
 rw[IntKind.wrap_i64];omega
variable{k:Nat}
theorem Va {a:Nat}(h:a*2 ^ k<9223372036854775808)(hk:k≤64):Sc .i64 (a:Int) (k:Int)=((a*2 ^ k:Nat):Int):=by
 unfold Sc;have e:(a:Int)*2 ^ k=((a*2 ^ k:Nat):Int):=by simp
 rw[show min (Int.toNat (k:Int)) (IntKind.bits .i64)=k from by show min (Int.toNat (k:Int)) 64=k;omega,e,Xq h]
theorem Yi {a b:Nat}(ha:a<4611686018427387904)(hb:b<4611686018427387904):iOr .i64 (a:Int) (b:Int)=((a||| b:Nat):Int):=by
 unfold iOr;have h1:a||| b<4611686018427387904:=Nat.or_lt_two_pow (n:=62) ha hb;rw[show(IntKind.bits .i64)=64 from rfl,BitVec.ofInt_natCast,BitVec.ofInt_natCast,BitVec.toNat_or,BitVec.toNat_ofNat,BitVec.toNat_ofNat,Nat.mod_eq_of_lt (by omega),Nat.mod_eq_of_lt (by omega)];exact Xq (by omega)
theorem Ab8 {a b:Nat}(h:b<2 ^ k):a*2 ^ k||| b=a*2 ^ k+b:=by
 have:=Nat.shiftLeft_add_eq_or_of_lt h a;rw[Nat.shiftLeft_eq] at this;exact this.symm
theorem or4 {a b c d:Nat}(ha:a<256)(hb:b<256)(hc:c<256)(hd:d<256) :
  iOr .i64 (iOr .i64 (iOr .i64 (Sc .i64 (a:Int) 24) (Sc .i64 (b:Int) 16)) (Sc .i64 (c:Int) 8)) (d:Int)=(((a*256+b)*256+c)*256+d:Nat):=by
 rw[show(24:Int)=((24:Nat):Int) from rfl,show(16:Int)=((16:Nat):Int) from rfl,show(8:Int)=((8:Nat):Int) from rfl];rw[Va (by omega) (by omega),Va (by omega) (by omega),Va (by omega) (by omega)];have e1:a*2 ^ 24||| b*2 ^ 16=a*2 ^ 24+b*2 ^ 16:=Ab8 (by omega);rw[Yi (by omega) (by omega),e1,Yi (by omega) (by omega)];have e2:(a*2 ^ 24+b*2 ^ 16)||| c*2 ^ 8=(a*2 ^ 24+b*2 ^ 16)+c*2 ^ 8:=by
  have:=Ab8 (a:=a*2 ^ 8+b) (b:=c*2 ^ 8) (k:=16) (by omega);rw[show(a*2 ^ 8+b)*2 ^ 16=a*2 ^ 24+b*2 ^ 16 from by omega] at this;exact this
 rw[e2,Yi (by omega) (by omega)];have e3:(a*2 ^ 24+b*2 ^ 16+c*2 ^ 8)||| d=(a*2 ^ 24+b*2 ^ 16+c*2 ^ 8)+d:=by
  have:=Ab8 (a:=a*2 ^ 16+b*2 ^ 8+c) (b:=d) (k:=8) (by omega);rw[show(a*2 ^ 16+b*2 ^ 8+c)*2 ^ 8=a*2 ^ 24+b*2 ^ 16+c*2 ^ 8 from by omega] at this;exact this
 rw[e3];have e4:a*2 ^ 24+b*2 ^ 16+c*2 ^ 8+d=((a*256+b)*256+c)*256+d:=by omega
 rw[e4]
def No (p:Ac):Bool:=decide (D1 p=0)&&Pg (Cc p) 0 255
def Agh (l:List Ac):Int:=l.foldl (λa p=>256*a+Cc p) 0
def Rw (s:Ac):Int×Int:=bif decide ((De s).length=4)&&(De s).all No then(Agh (De s),0) else(0,1)
theorem X9 {α β R:Type}(ok:α→Bool)(f:Nat→β→α→β)(q:R):∀(l:List α) (i:Nat) (a:β),l.all ok=false→RF (λi acc x=>bif ok x then Out.go (f i acc x) else Out.ret q) i a l=Out.ret q
 | [],i,a,h=>by simp at h
 | x::l,i,a,h=>by
  rw[RF]
  cases hx:ok x with
  | false=>rfl
  | true=>
   rw[List.all_cons,hx,Ap7] at h;exact X9 ok f q l (i+1) _ h
theorem XZ (hs:s.length≤2000000):OH FB s=some (Rw s):=by
 unfold OH Rw;rw[Aez hs,A3];have hm:∀p∈De s,p.length≤2000000:=λp hp=>Nat.le_trans (KG hp) hs;generalize De s=l at hm
 by_cases h4:l.length=4
 ·rw[AC (by rw[Apr (by omega)];rfl),Apr h4,Ap7];have hr:=(Kg (l:=l) (mk:=λi acc=>((i:Int),acc)) (body:=λσ=>Gz l σ.1 σ.2) (fin:=λacc:List Int=>acc)
   (λi acc p=>bif No p then(.go (acc.set i (Cc p)):Out (Int×Int) (List Int)) else .ret (0,1)) (λ_ acc=>acc.length=4) (λi h acc hP=>by
    refine⟨?_,λb hb=>?_⟩
    ·unfold Gz;simp only;rw[AO (Apr (by omega)),AI (by omega) (by omega),BF h,BN (show Dl 1 l[i].length=true from Apr (by have:=hm _ (List.getElem_mem h);omega))];simp only[XY,Option.isSome_some,C4,C6,DN];unfold No
     cases decide (D1 l[i]=0) with
     | false=>rfl
     | true=>
      cases hi:Pg (Cc l[i]) 0 255 with
      | false=>rfl
      | true=>
       simp only[Ap0,Bool.or_self,Bi,Bool.and_self,Ap1];rw[AI (by omega) (by omega),AI (by omega) (by omega),A8 (by omega) (by omega),show Int.toNat (i:Int)=i from by omega];rfl
    ·cases ho:No l[i] with
     | false=>rw[ho] at hb;cases hb
     | true=>rw[ho] at hb;simp only[Ap1,Out.go.injEq] at hb;subst hb;simpa using hP) (λacc hP=>by unfold Gz;rw[AC (Apq (by omega))]) (F:=FB) (by show l.length<5000000;omega) (a:=List.replicate 4 (0:Int)) rfl).1
  rw[show Cg (λσ=>Gz l σ.1 σ.2) FB (0,List.replicate 4 (0:Int))=_ from hr,A3]
  cases ha:l.all No with
  | false=>
   have e:=X9 No (λ(i:Nat) (acc:List Int) p=>acc.set i (Cc p)) ((0:Int),(1:Int)) l 0 (List.replicate 4 0) ha;rw[e];rfl
  | true=>
   match l,h4,ha with
   | [p0,p1,p2,p3],_,ha=>
    simp only[List.all_cons,List.all_nil,ApT,Aps] at ha;obtain⟨h0,h1,h2,h3⟩:=ha;simp only[RF,h0,h1,h2,h3,Ap1];have bd:∀p,No p=true→∃m:Nat,m<256∧Cc p=(m:Int):=λp hp=>by
     unfold No Pg at hp;simp only[Aps,Apt] at hp;exact⟨(Cc p).toNat,by omega,by omega⟩
    obtain⟨m0,b0,e0⟩:=bd p0 h0;obtain⟨m1,b1,e1⟩:=bd p1 h1;obtain⟨m2,b2,e2⟩:=bd p2 h2;obtain⟨m3,b3,e3⟩:=bd p3 h3;rw[e0,e1,e2,e3];show I4 [(m0:Int),(m1:Int),(m2:Int),(m3:Int)]=some (Agh [p0,p1,p2,p3],0);unfold I4 Agh;rw[AI (by decide) (by decide),AI (by decide) (by simp),AI (by decide) (by decide),AI (by decide) (by simp),AI (by decide) (by decide),AI (by decide) (by simp),AI (by decide) (by decide),AI (by decide) (by simp)];rw[show Af [(m0:Int),(m1:Int),(m2:Int),(m3:Int)] 0=(m0:Int) from rfl,show Af [(m0:Int),(m1:Int),(m2:Int),(m3:Int)] 1=(m1:Int) from rfl,show Af [(m0:Int),(m1:Int),(m2:Int),(m3:Int)] 2=(m2:Int) from rfl,show Af [(m0:Int),(m1:Int),(m2:Int),(m3:Int)] 3=(m3:Int) from rfl,or4 b0 b1 b2 b3];simp only[List.foldl,e0,e1,e2,e3]
    congr 2
    omega
 ·rw[AO (by rw[Apq (by omega)];rfl),Apq h4];rfl
theorem Ah7 (x:Ac):Aaj x=some (Lib.indexByte x 58):=by
 unfold Aaj
 by_cases h:([58]:Ac)=x
 ·subst h;rfl
 ·rw[AC (Apq h),AI (by decide) (by decide)];rfl
theorem AiW (hs:s.length≤1000000000):AiX s=some (Acf s 58,Yy s 58,Akg s 58):=by
 have hb:=Sb s 58;unfold AiX Ag3 Acf Yy Akg;rw[Ah7,A3]
 by_cases h:0≤Lib.indexByte s 58
 ·rw[AO (Apr h),CU (by omega) (by omega),A8 (by omega) (by omega),CU (by omega) (by omega),ApW h,ApW h,Apr h];rfl
 ·rw[AC (Apq h),ApP h,ApP h,Apq h];rfl
theorem Ake (s:Ac):(Acf s 58).length≤s.length∧(Yy s 58).length≤s.length:=by
 unfold Acf Yy;constructor
 ·split
  ·rw[Aqq];omega
  ·exact Ap8 _
 ·split
  ·rw[ApU];omega
  ·simp
def MT (s:Ac)(is:Bool):Int×Int×Bool:=((Rw (Acf s 58)).1,Cc (Yy s 58),is&&(Akg s 58&&(decide ((Rw (Acf s 58)).2=0)&&(decide (D1 (Yy s 58)=0)&&(decide (1≤Cc (Yy s 58))&&decide (Cc (Yy s 58)≤65535))))))
variable{v:List Ab}
theorem Rm (h:0<v.length)(hs:(Af v 0).fStr.length≤2000000):It FB v=some (MT (Af v 0).fStr (decide ((Af v 0).fKind=4))):=by
 unfold It L8;have hc:=Ake (Af v 0).fStr;rw[AI (by omega) (by omega),A3];simp only;rw[AiW (by omega),A3];simp only;rw[XZ (by omega),A3,BN (show Dl 1 _=true from Apr (by omega))];rfl
def Dk (g:Nat→Int):Nat→Nat→Int
 | _,0=>0
 | i,k+1=>bif decide (g i=0) then Dk g (i+1) k else g i
variable{N:Nat}
theorem AbH {g:Nat→Int}{body:Int→Option (Stp Int (Out Int U))}(hb:∀i:Nat,i<N→body (i:Int)=Bj (!decide (g i=0)) (some (.out (.ret (g i)))) (some (.next ((i:Int)+1))))(he:body (N:Int)=some (.out (.go u))) :
  ∀(k n i:Nat),i+k=N→k<n→Cg body n (i:Int)=some (bif decide (Dk g i k=0) then .go u else .ret (Dk g i k)):=by
 intro k
 induction k with
 | zero=>
  intro n i h hn;obtain⟨n,rfl⟩:∃m,n=m+1:=⟨n-1,by omega⟩
  obtain rfl:i=N:=by omega
  rw[Cg,he];rfl
 | succ k ih=>
  intro n i h hn;obtain⟨n,rfl⟩:∃m,n=m+1:=⟨n-1,by omega⟩
  rw[Cg,hb i (by omega),Dk]
  cases hg:decide (g i=0) with
  | true=>exact ih n (i+1) (by omega) (by omega)
  | false=>simp only[ApG,Cf,Apv,hg]
theorem G0 {R:Type}{N:Nat}{g:Nat→Int}{body:Int→Option (Stp Int (Out Int Unit))}{F:Nat}{K:Option Int}(hF:N<F)(hb:∀i:Nat,i<N→body (i:Int)=Bj (!decide (g i=0)) (some (.out (.ret (g i)))) (some (.next ((i:Int)+1))))(he:body (N:Int)=some (.out (.go ()))) :
  Ba (Cg body F 0) (Cm λ_=>K)=bif decide (Dk g 0 N=0) then K else some (Dk g 0 N):=by
 have:=AbH (u:=()) hb he N F 0 (by omega) hF;rw[show Cg body F 0=_ from this,A3]
 cases decide (Dk g 0 N=0)<;>rfl
theorem Sr {g:Nat→Int}:∀{k i:Nat},Dk g i k=0→∀j,i≤j→j<i+k→g j=0
 | 0,i,_,j,h1,h2=>by omega
 | k+1,i,h,j,h1,h2=>by
  rw[Dk] at h
  cases hg:decide (g i=0) with
  | false=>
   rw[hg] at h;exact absurd h (Aql hg)
  | true=>
   rw[hg] at h;rcases Nat.eq_or_lt_of_le h1 with rfl | h3
   ·exact ApH hg
   ·exact Sr (k:=k) (i:=i+1) h j h3 (by omega)
theorem Ahv {p:Nat→Bool}{c:R}(hF:N<F)(hb:∀i:Nat,i<N→body (i:Int)=Bj (p i) (some (.out (.ret c))) (some (.next ((i:Int)+1))))(he:body (N:Int)=some (.out (.go u))) :
  Cg body F 0=some (bif (List.range N).any p then .ret c else .go u):=by
 rw[HI (l:=List.range N) (p:=p) (ret:=λ_=>c) (u:=u) (by simpa using hF) (λi h=>by
  rw[List.getElem_range];exact hb i (by simpa using h)) (by simpa using he)]
 cases h:(List.range N).findIdx? p with
 | none=>
  have:(List.range N).any p=false:=by
   rw[List.any_eq_false];intro x hx;simpa using List.findIdx?_eq_none_iff.1 h x hx
  rw[this];rfl
 | some j=>
  obtain⟨hj,h1,_⟩:=List.findIdx?_eq_some_iff_getElem.1 h;rw[List.any_eq_true.2 ⟨_,List.getElem_mem hj,h1⟩];rfl
def OA (a b:Int):Int:=bif decide (a=0) then b else a
theorem KJ (a b:Int):(bif decide (a=0) then some b else some a:Option Int)=some (OA a b):=by unfold OA;cases decide (a=0)<;>rfl
theorem Hj {a b:Int}(h:OA a b=0):a=0∧b=0:=by
 unfold OA at h
 cases hd:decide (a=0) with
 | true=>rw[hd] at h;exact⟨ApH hd,h⟩
 | false=>rw[hd] at h;exact absurd h (Aql hd)
theorem Ad9 {a:Int}{x:Option Int}{b:Int}(h:x=some b):Bj (!decide (a=0)) (some a) x=some (OA a b):=by
 rw[h];unfold OA;cases decide (a=0)<;>rfl
theorem TM {p:Bool}{c:Int}(hc:c≠0)(x:Option (Stp α (Out Int U))):Bj p (some (.out (.ret c))) x=Bj (!decide ((bif p then c else 0)=0)) (some (.out (.ret (bif p then c else 0)))) x:=by
 cases p with
 | true=>rw[show(bif true then c else 0)=c from rfl,Apq hc];rfl
 | false=>rfl
def HV (op:Ac):Option (List Nat)×Bool:=
 bif decide (op=[103,101,116]) then(some [103],true) else bif decide (op=[100,101,108,101,116,101]) then(some [103],true) else bif decide (op=[112,117,116]) then(some [103,0],true) else bif decide (op=[115,101,110,100]) then(some [104,0],true) else bif decide (op=[116,105,109,101,114]) then(some [104,105,0],true) else bif decide (op=[115,105,103,110,97,108]) then(some [103,106],true) else bif decide (op=[115,101,99,114,101,116]) then(some [104],true) else bif decide (op=[102,101,116,99,104]) then(some [107,0],true) else bif decide (op=[110,111,119]) then(some [],false) else bif decide (op=[108,111,103]) then(some [0],false) else(none,false)
theorem Tg (op:Ac):Oh op=some (HV op):=by
 unfold Oh HV;simp only[GR]
theorem P9 (P:α→Prop){p:Bool}{a b:α}(ha:P a)(hb:P b):P (bif p then a else b):=by cases p<;>assumption
theorem Zd (op:Ac)(P:Option (List Nat)×Bool→Prop)(h1:P (some [103],true))(h2:P (some [103,0],true))(h3:P (some [104,0],true))(h4:P (some [104,105,0],true))(h5:P (some [103,106],true))(h6:P (some [104],true))(h7:P (some [107,0],true))(h8:P (some [],false))(h9:P (some [0],false))(h0:P (none,false)):P (HV op):=by
 unfold HV;exact P9 P h1 (P9 P h1 (P9 P h2 (P9 P h3 (P9 P h4 (P9 P h5 (P9 P h6 (P9 P h7 (P9 P h8 (P9 P h9 h0)))))))))
theorem Abk (op:Ac):∀s,(HV op).1=some s→∀k∈s,k=0∨k=103∨k=104∨k=105∨k=106∨k=107:=by
 refine Zd op (λt=>∀s,t.1=some s→∀k∈s,k=0∨k=103∨k=104∨k=105∨k=106∨k=107) ?_ ?_ ?_ ?_ ?_ ?_ ?_ ?_ ?_ ?_<;>intro s hs<;>cases hs<;>simp
structure Xm (a:A0):Prop where
 t:a.fTenant.length≤2000000
 o:a.fOps.length≤2000000
 p:a.fPolicy.length≤2000000
 st:∀x∈a.fPolicy,Qv x
 n:a.fNet.length≤2000000
def AeN (a:A0)(i:Nat):Int:=bif Option.isNone (HV (Af a.fOps (i:Int))).1 then 4 else 0
def Ts (a:A0)(i:Nat):Int:=bif decide (0<(i:Int))&&(Cr (Af a.fOps (i:Int)) (Af a.fOps ((i:Int)-1))||decide (Af a.fOps (i:Int)=Af a.fOps ((i:Int)-1))) then 11 else 0
def Lr (n:Int):Bool:=decide (0≤n)&&decide (n≤1073741824)
def Tz (a:A0):Int:=
 bif !D0 a.fTenant||!D0 a.fFunction then 4 else
 OA (Dk (AeN a) 0 a.fOps.length) (OA (Dk (Ts a) 0 a.fOps.length) (bif decide (32<(a.fPolicy.length:Int))||decide (32<(a.fNet.length:Int)) then 3 else
 OA (Dk (λi=>RS (Af a.fPolicy (i:Int))) 0 a.fPolicy.length) (OA (Dk (λi=>Kf (Af a.fNet (i:Int))) 0 a.fNet.length) (bif !Lr a.fNow then 2 else 0))))
variable{a:A0}
theorem Qq (h:Xm a):MS FB a=some (Tz a):=by
 have h0:=h.o;have h1:=h.p;have h2:=h.n;have e5:Ji a=some (bif !Lr a.fNow then 2 else 0):=by
  unfold Ji IC;rw[A3];exact GR _ _ _
 have e4:Jj FB a=some (OA (Dk (λi=>Kf (Af a.fNet (i:Int))) 0 a.fNet.length) (bif !Lr a.fNow then 2 else 0)):=by
  unfold Jj;rw[G0 (R:=Unit) (N:=a.fNet.length) (g:=λi=>Kf (Af a.fNet (i:Int))) (K:=Ji a) (by show a.fNet.length<5000000;omega) (λi hi=>by
   unfold KU;rw[AO (Apr (by omega)),AI (by omega) (by omega),UM,A3,A8 (by omega) (by omega)]) (by unfold KU;rw[AC (Apq (by omega))]),e5]
  exact KJ _ _
 have e3:Id FB a=some (bif decide (32<(a.fPolicy.length:Int))||decide (32<(a.fNet.length:Int)) then 3 else OA (Dk (λi=>RS (Af a.fPolicy (i:Int))) 0 a.fPolicy.length) (OA (Dk (λi=>Kf (Af a.fNet (i:Int))) 0 a.fNet.length) (bif !Lr a.fNow then 2 else 0))):=by
  unfold Id;rw[G0 (R:=Unit) (N:=a.fPolicy.length) (g:=λi=>RS (Af a.fPolicy (i:Int))) (K:=Jj FB a) (by show a.fPolicy.length<5000000;omega) (λi hi=>by
   unfold KV;have hm:Qv (Af a.fPolicy (i:Int)):=by rw[BF hi];exact h.st _ (List.getElem_mem hi)
   rw[AO (Apr (by omega)),AI (by omega) (by omega),UE hm,A3,A8 (by omega) (by omega)]) (by unfold KV;rw[AC (Apq (by omega))]),e4,KJ,GR]
 have e2:Jk FB a=some (OA (Dk (Ts a) 0 a.fOps.length) (bif decide (32<(a.fPolicy.length:Int))||decide (32<(a.fNet.length:Int)) then 3 else OA (Dk (λi=>RS (Af a.fPolicy (i:Int))) 0 a.fPolicy.length) (OA (Dk (λi=>Kf (Af a.fNet (i:Int))) 0 a.fNet.length) (bif !Lr a.fNow then 2 else 0)))):=by
  unfold Jk;rw[G0 (R:=Unit) (N:=a.fOps.length) (g:=Ts a) (K:=Id FB a) (by show a.fOps.length<5000000;omega) (λi hi=>by
   unfold KW;have hk:imp (decide (0<(i:Int))) (Cn (i:Int) (a.fOps.length:Int))=true:=by rw[Me (by omega) (by omega)];exact C4 _
   have hk2:imp (decide (0<(i:Int))) (BT .i64 ((i:Int)-1))=true:=by rw[I6 (by omega) (by omega)];exact C4 _
   have hk3:imp (decide (0<(i:Int))) (Cn ((i:Int)-1) (a.fOps.length:Int))=true:=by
    by_cases h3:0<(i:Int)
    ·rw[Me (by omega) (by omega)];exact C4 _
    ·rw[Apq h3];rfl
   rw[AO (Apr (by omega)),hk,hk2,hk3,C6,C6,C6,A8 (by omega) (by omega),TM (by decide)];rfl) (by unfold KW;rw[AC (Apq (by omega))]),e3,KJ]
 unfold MS Tz;rw[G0 (R:=Unit) (N:=a.fOps.length) (g:=AeN a) (K:=Jk FB a) (by show a.fOps.length<5000000;omega) (λi hi=>by
  unfold KX;rw[AO (Apr (by omega)),AI (by omega) (by omega),Tg,A3,A8 (by omega) (by omega),TM (by decide)];rfl) (by unfold KX;rw[AC (Apq (by omega))]),e2,KJ,GR]
def Wc (l:List Ac)(x:Ac):Bool:=l.any λy=>decide (x=y)
theorem Abq (hl:l.length≤2000000)(x:Ac):T6 FB l x=some (Wc l x):=by
 unfold T6 Uo J1;rw[Qe (l:=l) (p:=λy=>decide (x=y)) (F:=FB) (body:=If l x) (by show l.length<5000000;omega) (λi h=>by
  unfold If;rw[AO (Apr (by omega)),AI (by omega) (by omega),BF h,A8 (by omega) (by omega)]) (by unfold If;rw[AC (Apq (by omega))]),A3,ER]
 rfl
abbrev MB:Nat:=1048576
structure S9 (q:A6):Prop where
 l:q.fArgs.length≤2000000
 v:∀v∈q.fArgs,G8 MB v
variable{q:A6}
theorem S9.at (h:S9 q)(hi:i<q.fArgs.length):G8 MB (Af q.fArgs (i:Int)):=by rw[BF hi];exact h.v _ (List.getElem_mem hi)
theorem T2 (h:G8 MB v):N7 FB v=some (DC v):=Wt h (by decide) (by decide)
theorem Afr (h:S9 q):L7 FB q.fArgs=some (q.fArgs.any λv=>!decide (DC v=0)):=by
 have hl:=h.l;unfold L7 AhA Ob;rw[Qe (l:=q.fArgs) (p:=λv=>!decide (DC v=0)) (F:=FB) (body:=Md FB q.fArgs) (by show q.fArgs.length<5000000;omega) (λi hi=>by
  unfold Md So;rw[AO (Apr (by omega)),AI (by omega) (by omega),BF hi,T2 (h.v _ (List.getElem_mem hi)),A3,A3,A8 (by omega) (by omega)]) (by unfold Md;rw[AC (Apq (by omega))]),A3,ER]
theorem Hv (h:DC v=0):0<v.length:=by
 cases v with
 | nil=>exact absurd h (by decide)
 | cons c r=>simp
def G4 (k:Nat)(v:List Ab):Bool:=
 bif decide (k=103) then decide ((Af v 0).fKind=4)&&Mf (Af v 0).fStr else bif decide (k=104) then decide ((Af v 0).fKind=4)&&D0 (Af v 0).fStr else bif decide (k=105) then decide ((Af v 0).fKind=3)&&Lr (Af v 0).fInt else
 bif decide (k=106) then decide (1<(v.length:Int))&&(decide ((Af v 0).fKind=5)&&decide ((Af v 1).fKind=4)) else(MT (Af v 0).fStr (decide ((Af v 0).fKind=4))).2.2
theorem Rf (h:0<v.length):L8 v=some ((Af v 0).fStr,decide ((Af v 0).fKind=4)):=by
 unfold L8;rw[AI (by omega) (by omega)]
theorem G8.str (h:G8 MB v)(h0:0<v.length):(Af v 0).fStr.length≤1048576:=by
 have:=(h.hc _ (List.getElem_mem h0)).1
 rwa [← BF h0] at this
theorem AjW (hv:G8 MB v)(h0:0<v.length)(hk:k=103∨k=104∨k=105∨k=106∨k=107):Aaz FB k v=some (G4 k v):=by
 have hs:=hv.str h0;have e1:AjT v=some (decide ((Af v 0).fKind=4)&&Mf (Af v 0).fStr):=by unfold AjT;rw[Rf h0];rfl
 have e2:Adv v=some (decide ((Af v 0).fKind=4)&&D0 (Af v 0).fStr):=by unfold Adv;rw[Rf h0];rfl
 have e3:Ys v=some (decide ((Af v 0).fKind=3)&&Lr (Af v 0).fInt):=by
  unfold Ys IC;rw[AI (by omega) (by omega),Option.isSome_some,C4,C6];rfl
 have e4:MP v=some (decide (1<(v.length:Int))&&(decide ((Af v 0).fKind=5)&&decide ((Af v 1).fKind=4))):=by
  unfold MP
  by_cases h1:1<(v.length:Int)
  ·rw[Me (by omega) (by omega),Me (by omega) (by omega)];simp only[C4,C6]
  ·rw[Apq h1];rfl
 have e5:MO FB v=some (MT (Af v 0).fStr (decide ((Af v 0).fKind=4))).2.2:=by
  unfold MO;rw[Rm h0 (by omega)];rfl
 unfold Aaz G4;rw[e1,e2,e3,e4,e5];rcases hk with rfl | rfl | rfl | rfl | rfl<;>rfl
def IR (s:List Nat)(l:List (List Ab)):Bool:=!(List.range s.length).any λi=>!decide (Af s (i:Int)=0)&&!G4 (Af s (i:Int)) (Af l (i:Int))
theorem Afs {s:List Nat}(h:S9 q)(hl:s.length=q.fArgs.length)(hs:∀k∈s,k=0∨k=103∨k=104∨k=105∨k=106∨k=107)(hv:∀v∈q.fArgs,DC v=0):Qm FB s q.fArgs=some (IR s q.fArgs):=by
 have hl2:=h.l;unfold Qm Mk IR;rw[Ahv (N:=s.length) (p:=λi:Nat=>!decide (Af s (i:Int)=0)&&!G4 (Af s (i:Int)) (Af q.fArgs (i:Int))) (c:=false) (u:=()) (body:=K5 FB s q.fArgs) (by show s.length<5000000;omega) (λi hi=>by
  unfold K5;have hi2:i<q.fArgs.length:=by omega
  have h0:0<(Af q.fArgs (i:Int)).length:=Hv (hv _ (by rw[BF hi2];exact List.getElem_mem hi2));rw[AO (Apr (by omega)),AI (by omega) (by omega),Me (by omega) (by omega),C4,C6];rcases (hs (Af s (i:Int)) (by rw[BF hi];exact List.getElem_mem hi)) with hz | hz
  ·have h8:(!decide (Af s (i:Int)=0))=false:=by rw[hz];rfl
   have h9:∀b,imp (!decide (Af s (i:Int)=0)) b=true:=λb=>by rw[h8];exact UZ b
   rw[h9,C6,A8 (by omega) (by omega),h8,ApO,ApO]
  ·rw[AjW (h.at hi2) h0 hz,Option.isSome_some,C4,C6,A8 (by omega) (by omega),DN]) (by unfold K5;rw[AC (Apq (by omega))]),A3]
 cases(List.range s.length).any λi=>!decide (Af s (i:Int)=0)&&!G4 (Af s (i:Int)) (Af q.fArgs (i:Int))<;>rfl
def Ajf (t op n:Ac):Ac:=(((t++([47]:Ac))++op)++([47]:Ac))++n
variable{n op:Ac}
theorem Rg {t:Ac}(h1:t.length≤2000000)(h2:op.length≤2000000)(h3:n.length≤2000000):Ml t op n=some (Ajf t op n):=by
 unfold Ml;have e:(([47]:Ac).length:Int)=1:=rfl;rw[A8 (by rw[e];omega) (by rw[e];omega),A8 (by simp;omega) (by simp;omega),A8 (by simp;omega) (by simp;omega),A8 (by simp;omega) (by simp;omega)];rfl
def AaJ (q:A6)(s:List Nat):Bool:=!decide ((q.fArgs.length:Int)=(s.length:Int))||((q.fArgs.any λv=>!decide (DC v=0))||!IR s q.fArgs)
def Y8 (q:A6):Bool:=decide (q.fOp=([102,101,116,99,104]:Ac))
def Do (q:A6):Ac:=(Af (Af q.fArgs 0) 0).fStr
def Aj0 (a:A0)(q:A6):Bool:=(Ahl a.fNet (MT (Do q) (decide ((Af (Af q.fArgs 0) 0).fKind=4))).1 (MT (Do q) (decide ((Af (Af q.fArgs 0) 0).fKind=4))).2.1).fAllowed
def Ajh (a:A0)(q:A6):Bool:=(AeI a.fPolicy q.fOp (Ajf a.fTenant q.fOp (Do q))).fAllowed
def Nt (a:A0)(q:A6):Int:=
 OA (Tz a) (match (HV q.fOp).1 with
  | none=>4
  | some s=>bif !Wc a.fOps q.fOp then 12 else bif AaJ q s then 7 else
   bif (HV q.fOp).2&&!Ajh a q then 12 else bif Y8 q&&!Aj0 a q then 12 else 0)
theorem Uk {s:List Nat}(h:(HV op).1=some s)(hn:(HV op).2=true∨op=([102,101,116,99,104]:Ac)):0<s.length:=by
 have key:(HV op).2=true→∀s,(HV op).1=some s→0<s.length:=by
  refine Zd op (λt=>t.2=true→∀s,t.1=some s→0<s.length) ?_ ?_ ?_ ?_ ?_ ?_ ?_ ?_ ?_ ?_<;>intro h s hs<;>cases hs<;>first | decide | cases h
 rcases hn with hn | rfl
 ·exact key hn s h
 ·exact key (by decide) s h
theorem Ak7 {s:List Nat}(h:(HV op).1=some s):op.length≤6:=by
 by_cases hl:op.length≤6
 ·exact hl
 ·exfalso;have hne:∀w:Ac,w.length≤6→decide (op=w)=false:=λw hw=>Apq (λe=>by subst e;omega);unfold HV at h;rw[hne _ (by decide),hne _ (by decide),hne _ (by decide),hne _ (by decide),hne _ (by decide),hne _ (by decide),hne _ (by decide),hne _ (by decide),hne _ (by decide),hne _ (by decide)] at h
  cases h
theorem OB {s:List Nat}(h:(HV op).1=some s):op=[103,101,116]∨op=[100,101,108,101,116,101]∨op=[112,117,116]∨op=[115,101,110,100]∨op=[116,105,109,101,114]∨op=[115,105,103,110,97,108]∨op=[115,101,99,114,101,116]∨op=[102,101,116,99,104]∨op=[110,111,119]∨op=[108,111,103]:=by
 by_cases h1:op=[103,101,116]
 ·simp[h1]
 by_cases h2:op=[100,101,108,101,116,101]
 ·simp[h2]
 by_cases h3:op=[112,117,116]
 ·simp[h3]
 by_cases h4:op=[115,101,110,100]
 ·simp[h4]
 by_cases h5:op=[116,105,109,101,114]
 ·simp[h5]
 by_cases h6:op=[115,105,103,110,97,108]
 ·simp[h6]
 by_cases h7:op=[115,101,99,114,101,116]
 ·simp[h7]
 by_cases h8:op=[102,101,116,99,104]
 ·simp[h8]
 by_cases h9:op=[110,111,119]
 ·simp[h9]
 by_cases hb:op=[108,111,103]
 ·simp[hb]
 exfalso;unfold HV at h;rw[Apq h1,Apq h2,Apq h3,Apq h4,Apq h5,Apq h6,Apq h7,Apq h8,Apq h9,Apq hb] at h
 cases h
theorem Aa0 (ha:Xm a)(hq:S9 q):JG FB a q=some (Nt a q):=by
 have hl:=hq.l;have hn:=ha.t;unfold JG Nt;rw[Qq ha,A3];refine Ad9 ?_;rw[Tg,A3]
 cases ht:(HV q.fOp).1 with
 | none=>rfl
 | some s=>
  rw[show Option.isNone (some s)=false from rfl,Bi,Abq ha.o,A3];simp only
  cases hh:Wc a.fOps q.fOp with
  | false=>rfl
  | true=>
   rw[Ap0,Bi,Option.isSome_some,C6];unfold AaJ;simp only[JS,ApE,Option.isSome_some,C6,DN,Afr hq,C4,Apv,Ap0]
   by_cases h1:(q.fArgs.length:Int)=(s.length:Int)
   ·simp only[h1,decide_true,Ap0,ApG,ApJ]
    cases h2:(q.fArgs.any λv=>!decide (DC v=0)) with
    | true=>rfl
    | false=>
     have hv:∀v∈q.fArgs,DC v=0:=by
      intro v hv;rw[List.any_eq_false] at h2;simpa using h2 v hv
     rw[Afs hq (by omega) (Abk _ s ht) hv];simp only[Option.isSome_some,C4,C6,DN,Ap0,ApJ]
     cases h3:IR s q.fArgs with
     | false=>rfl
     | true=>
      rw[Ap0,Bi,Apv];have h0:(HV q.fOp).2=true∨q.fOp=([102,101,116,99,104]:Ac)→0<q.fArgs.length∧0<(Af q.fArgs 0).length:=λhx=>by
       have hs:=Uk ht hx;have hp:0<q.fArgs.length:=by omega
       exact⟨hp,Hv (hv _ (by rw[show(0:Int)=((0:Nat):Int) from rfl,BF hp];exact List.getElem_mem hp))⟩
      have hF:decide (q.fOp=([102,101,116,99,104]:Ac))=Y8 q:=rfl;have hfe:∀hx:q.fOp=([102,101,116,99,104]:Ac),(Ba (It FB (Af q.fArgs 0)) λhb=>Ba (JC FB a.fNet hb.1 hb.2.1) λhd=>Bj (!hd.fAllowed) (some 12) (some 0):Option Int)=some (bif !Aj0 a q then 12 else 0):=λhx=>by
       obtain⟨hp,hp2⟩:=h0 (.inr hx);rw[Rm hp2 (by have:=(hq.at hp).str hp2;simpa using Nat.le_trans this (by decide)),A3,ZO ha.n,A3,GR];rfl
      have hF2:(Bj (Y8 q) (Ba (It FB (Af q.fArgs 0)) λhb=>Ba (JC FB a.fNet hb.1 hb.2.1) λhd=>Bj (!hd.fAllowed) (some 12) (some 0)) (some 0):Option Int)=some (bif Y8 q&&!Aj0 a q then 12 else 0):=by
       cases hf:Y8 q with
       | false=>rfl
       | true=>rw[Cf,hfe (ApH hf)];rfl
      rw[hF]
      cases hm:(HV q.fOp).2 with
      | false=>
       rw[Bi];simp only[ApO,Apv]
       cases hf:Y8 q with
       | false=>rfl
       | true=>
        have hx:=ApH hf;obtain⟨hp,hp2⟩:=h0 (.inr hx);rw[Cf,AI (by omega) (by omega),hfe hx];rfl
      | true=>
       obtain⟨hp,hp2⟩:=h0 (.inl hm);have hsl:(Af (Af q.fArgs 0) 0).fStr.length≤1048576:=(hq.at hp).str hp2;rw[Cf,AI (by omega) (by omega),Rf hp2,A3,Rg hn (Nat.le_trans (Ak7 ht) (by decide)) (Nat.le_trans hsl (by decide)),A3,ZB ha.p ha.st,A3,hF2];simp only[Ap7,GR];rfl
   ·simp only[h1,decide_false];rfl
theorem GJ {l:List Ab}(h:l.length≤2000000):GS l=some l:=by
 unfold GS;rw[BN (show Dl 40 _=true from Apr (by simp;omega))];rfl
theorem S3 (h:l.length≤2000000):JT l=some l:=by
 unfold JT;rw[BN (show Dl 16 _=true from Apr (by simp;omega))];rfl
theorem Af4 {l:List A1}(h:l.length≤2000000):S4 l=some l:=by
 unfold S4;rw[BN (show Dl 40 _=true from Apr (by simp;omega))];rfl
theorem Af5 {l:List Ad}(h:l.length≤2000000):S5 l=some l:=by
 unfold S5;rw[BN (show Dl 56 _=true from Apr (by simp;omega))];rfl
structure ItA (l:List AB):Prop where
 len:l.length≤2000000
 v:∀x∈l,G8 MB x.fValue
def Yf (l:List AB)(i:Nat):Int:=
 bif !Mf (Af l (i:Int)).fKey then 4 else OA (DC (Af l (i:Int)).fValue) (bif decide ((Af l (i:Int)).fVersion<1) then 2 else
  bif decide (0<(i:Int))&&(Cr (Af l (i:Int)).fKey (Af l ((i:Int)-1)).fKey||decide ((Af l (i:Int)).fKey=(Af l ((i:Int)-1)).fKey)) then 11 else 0)
def VX (l:List AB):Int:=bif decide (256<(l.length:Int)) then 3 else Dk (Yf l) 0 l.length
theorem WW {l:List AB}(h:ItA l):Vo FB l=some (VX l):=by
 have h0:=h.len;unfold Vo VX Mm;rw[G0 (R:=Unit) (N:=l.length) (g:=Yf l) (K:=some 0) (by show l.length<5000000;omega) (λi hi=>by
  unfold Mn Yf;have hk2:imp (decide (0<(i:Int))) (BT .i64 ((i:Int)-1))=true:=by rw[I6 (by omega) (by omega)];exact C4 _
  have hk3:imp (decide (0<(i:Int))) (Cn ((i:Int)-1) (l.length:Int))=true:=by
   by_cases h3:0<(i:Int)
   ·rw[Me (by omega) (by omega)];exact C4 _
   ·rw[Apq h3];rfl
  have hv:G8 MB (Af l (i:Int)).fValue:=by rw[BF hi];exact h.v _ (List.getElem_mem hi)
  rw[AO (Apr (by omega)),AI (by omega) (by omega),T2 hv,A3,hk2,hk3,C6,C6,A8 (by omega) (by omega)]
  cases Mf (Af l (i:Int)).fKey with
  | false=>rfl
  | true=>
   simp only[Ap0,Bi,Apv];unfold OA
   cases hz:decide (DC (Af l (i:Int)).fValue=0) with
   | false=>simp only[ApG,Cf,Apv,hz]
   | true=>
    simp only[Ap0,Bi,Ap1]
    cases decide ((Af l (i:Int)).fVersion<1) with
    | true=>rfl
    | false=>
     simp only[Bi,Apv]
     cases(decide (0<(i:Int))&&(Cr (Af l (i:Int)).fKey (Af l ((i:Int)-1)).fKey||decide ((Af l (i:Int)).fKey=(Af l ((i:Int)-1)).fKey)))<;>rfl) (by unfold Mn;rw[AC (Apq (by omega))])]
 cases decide (256<(l.length:Int)) with
 | true=>rfl
 | false=>
  rw[Bi,Apv]
  cases hz:decide (Dk (Yf l) 0 l.length=0) with
  | true=>rw[ApH hz];rfl
  | false=>rfl
def VY (l:List AB):List (Ac×List Ab):=l.foldl (λm x=>mset m x.fKey x.fValue) []
def Qb (a:A0)(l:List AB):Int:=OA (Tz a) (VX l)
def Ec (a:A0)(l:List AB):Av:=⟨true,a,VY l,(),0,[],[],[]⟩
theorem Lh {α β R:Type}(f:β→α→β):∀(l:List α) (i:Nat) (a:β),RF (R:=R) (λ_ acc x=>.go (f acc x)) i a l = .go (l.foldl f a)
 | [],i,a=>rfl
 | x::l,i,a=>by
  show RF (R:=R) (λ_ acc x=>.go (f acc x)) (i+1) (f a x) l=_;rw[Lh f l];rfl
theorem AgT {l:List Ad}(hl:l.length≤2000000)(h:∀x∈l,Qv x){body:Int×List Ad→Option (Stp (Int×List Ad) (Out R (List Ad)))}
  (hb:∀(i:Nat) (acc:List Ad),body ((i:Int),acc)=Bj (decide ((i:Int)<(l.length:Int))) (AM (Cn (i:Int) (acc.length:Int))<|Ba (JT ((Af acc (i:Int)).fActions)) λhd=>Ba (JT ((Af acc (i:Int)).fResources)) λhe=>AM (Cn (i:Int) ((List.set acc (Int.toNat (i:Int)) (Ad.mk ((Af acc (i:Int)).fAllow) hd ((Af acc (i:Int)).fResources))).length:Int))<|AM (BT .i64 ((i:Int)+1))<|some (.next ((i:Int)+1,List.set (List.set acc (Int.toNat (i:Int)) (Ad.mk ((Af acc (i:Int)).fAllow) hd ((Af acc (i:Int)).fResources))) (Int.toNat (i:Int)) (Ad.mk ((Af (List.set acc (Int.toNat (i:Int)) (Ad.mk ((Af acc (i:Int)).fAllow) hd ((Af acc (i:Int)).fResources))) (i:Int)).fAllow) ((Af (List.set acc (Int.toNat (i:Int)) (Ad.mk ((Af acc (i:Int)).fAllow) hd ((Af acc (i:Int)).fResources))) (i:Int)).fActions) he)))) (some (.out (.go acc)))) :
  Cg body FB (0,l)=some (.go l):=by
 have hr:=(Kg (l:=l) (mk:=λi acc=>((i:Int),acc)) (body:=body) (fin:=λacc:List Ad=>acc) (λ_ acc _=>(.go acc:Out R (List Ad))) (λ_ acc=>acc=l) (λi hi acc hP=>by
  subst hP;refine⟨?_,λb hb=>by cases hb;rfl⟩;have hx:=h _ (List.getElem_mem hi);have e1:List.set acc (Int.toNat (i:Int)) (Ad.mk ((Af acc (i:Int)).fAllow) ((Af acc (i:Int)).fActions) ((Af acc (i:Int)).fResources))=acc:=by
   rw[show Int.toNat (i:Int)=i from by omega,BF hi];exact List.set_getElem_self hi
  rw[hb,AO (Apr (by omega)),AI (by omega) (by omega),S3 (by rw[BF hi];exact hx.a),A3,S3 (by rw[BF hi];exact hx.r),A3,e1,AI (by omega) (by omega),A8 (by omega) (by omega),e1];rfl) (λacc hP=>by rw[hb,AC (Apq (by omega))]) (F:=FB) (by show l.length<5000000;omega) (a:=l) rfl).1
 rw[show Cg body FB (0,l)=_ from hr,show(λ(_:Nat) (acc:List Ad) (_:Ad)=>(.go acc:Out R (List Ad)))=λ_ acc x=>.go ((λacc _=>acc) acc x) from rfl,Lh];show some (Out.go _)=_
 congr 2
 generalize l=acc;have:∀(m:List Ad) (a:List Ad),m.foldl (λacc _=>acc) a=a:=by
  intro m
  induction m with
  | nil=>intro a;rfl
  | cons x m ih=>intro a;exact ih a
 exact this _ _
theorem AhC {l:List AB}(h:ItA l){body:Int×List (Ac×List Ab)→Option (Stp (Int×List (Ac×List Ab)) (Out R (List (Ac×List Ab))))}
  (hb:∀(i:Nat) (m:List (Ac×List Ab)),body ((i:Int),m)=Bj (decide ((i:Int)<(l.length:Int))) (AM (Cn (i:Int) (l.length:Int))<|Ba (GS ((Af l (i:Int)).fValue)) λhd=>AM (BT .i64 ((i:Int)+1))<|some (.next ((i:Int)+1,mset m ((Af l (i:Int)).fKey) hd))) (some (.out (.go m)))) :
  Cg body FB (0,[])=some (.go (VY l)):=by
 have hl:=h.len;have hr:=(Kg (l:=l) (mk:=λi acc=>((i:Int),acc)) (body:=body) (fin:=λacc:List (Ac×List Ab)=>acc) (λ_ acc x=>(.go (mset acc x.fKey x.fValue):Out R (List (Ac×List Ab)))) (λ_ acc=>True) (λi hi acc hP=>by
  refine⟨?_,λ_ _=>trivial⟩;have hv:=h.v _ (List.getElem_mem hi);have hvl:l[i].fValue.length≤1048576:=hv.hv;rw[hb,AO (Apr (by omega)),AI (by omega) (by omega),BF hi,GJ (by omega),A3,A8 (by omega) (by omega)];rfl) (λacc hP=>by rw[hb,AC (Apq (by omega))]) (F:=FB) (by show l.length<5000000;omega) (a:=[]) trivial).1
 rw[show Cg body FB (0,[])=_ from hr,Lh (λm (x:AB)=>mset m x.fKey x.fValue)];rfl
theorem AhR {l:List AB}(ha:Xm a)(hl:ItA l):Oj FB a l=bif decide (Qb a l=0) then some (Ec a l,()) else none:=by
 unfold Oj Qb OA;rw[Qq ha,A3,WW hl]
 cases hz:decide (Tz a=0) with
 | false=>rw[ApG,Cf,Apv,hz];rfl
 | true=>
  rw[Ap0,Bi,A3,Ap1]
  cases hy:decide (VX l=0) with
  | false=>rfl
  | true=>
   rw[Ap0,Bi,S3 ha.o,A3,Af4 ha.n,A3,Af5 ha.p,A3,AgT (body:=λσ=>Rk a.fPolicy σ.1 σ.2) ha.p ha.st (λi acc=>rfl),A3];show Oi FB a l a.fOps a.fNet a.fPolicy=_;unfold Oi;rw[AhC (body:=λσ=>Rj l σ.1 σ.2) hl (λi m=>rfl),A3];rfl
theorem Aaw {l:List AB}(ha:Xm a)(hl:ItA l)(hn:Qb a l≠0):Vn FB a l=some ((),Qb a l):=by
 unfold Qb OA at hn;unfold Vn Qb OA;rw[Qq ha,A3,WW hl]
 cases hz:decide (Tz a=0) with
 | false=>rfl
 | true=>
  rw[hz,Ap1] at hn;rw[Ap0,Bi,A3,Ap1,AO (by rw[Apq hn];rfl)]
def KM:List Ab:=[⟨1,0,[],0⟩]
theorem Q5:N4=some KM:=rfl
def JO (key:Ac)(x:Ak):Bool:=decide (x.fKey=key)&&(decide (x.fKind=1)||decide (x.fKind=2))
def Tb (l:List Ak)(key:Ac):Option Ak:=l.reverse.find? (JO key)
def Aa2 (o:Av)(key:Ac):List Ab:=match Tb o.fEffects key with
 | some x=>bif decide (x.fKind=1) then x.fValue else KM
 | none=>bif Du o.fItems key then Gc o.fItems key [] else KM
def Aa3 (o:Av)(key:Ac):Av:=match Tb o.fEffects key with
 | some _=>o
 | none=>{ o with fReads:=o.fReads++[key] }
variable{o:Av}{key:Ac}
theorem AhX (hl:o.fEffects.length≤2000000)(hv:∀x∈o.fEffects,x.fValue.length≤2000000):∀(k n:Nat),k≤o.fEffects.length→k<n→
  Cg (λσ=>ID o key σ) n ((k:Int)-1)=some (match ((o.fEffects.take k).reverse.find? (JO key)) with | some x=>.ret ((bif decide (x.fKind=1) then x.fValue else KM),o) | none=>.go ()):=by
 intro k
 induction k with
 | zero=>
  intro n hk hn;obtain⟨n,rfl⟩:∃m,n=m+1:=⟨n-1,by omega⟩
  rw[Ln (body:=λσ=>ID o key σ) (o:=.go ()) (by show ID o key _=_;unfold ID;rw[AC (Apq (by omega))])];rfl
 | succ k ih=>
  intro n hk hn;obtain⟨n,rfl⟩:∃m,n=m+1:=⟨n-1,by omega⟩
  have hi:k<o.fEffects.length:=by omega
  rw[show((k+1:Nat):Int)-1=(k:Int) from by omega];have ht:(o.fEffects.take (k+1)).reverse=o.fEffects[k]::(o.fEffects.take k).reverse:=by
   rw[List.take_succ_eq_append_getElem hi,List.reverse_append];rfl
  have hx:=hv _ (List.getElem_mem hi);have hj:OS (k:Int)=some (.next ((k:Int)-1)):=by unfold OS;rw[A8 (by omega) (by omega)]
  have hbody:ID o key (k:Int)=bif JO key o.fEffects[k] then some (.out (.ret ((bif decide (o.fEffects[k].fKind=1) then o.fEffects[k].fValue else KM),o))) else some (.next ((k:Int)-1)):=by
   unfold ID JO;rw[AO (Apr (by omega)),AI (by omega) (by omega),BF hi,hj]
   cases decide (o.fEffects[k].fKey=key) with
   | false=>rfl
   | true=>
    rw[Ap0,Bi,GJ hx,A3,Q5,A3,Ap7]
    cases decide (o.fEffects[k].fKind=1) with
    | true=>rfl
    | false=>cases decide (o.fEffects[k].fKind=2)<;>rfl
  rw[ht,List.find?_cons]
  cases hp:JO key o.fEffects[k] with
  | true=>
   rw[hp,Ap1] at hbody;exact Ln (body:=λσ=>ID o key σ) hbody
  | false=>
   rw[hp,Apv] at hbody;rw[RU (body:=λσ=>ID o key σ) hbody];exact ih n (by omega) (by omega)
theorem AjU (hl:o.fEffects.length≤2000000)(hv:∀x∈o.fEffects,x.fValue.length≤2000000)(hr:o.fReads.length≤2000000)(hm:(Gc o.fItems key ([]:List Ab)).length≤2000000):Afv FB o key=some (Aa2 o key,Aa3 o key):=by
 have h:=AhX (key:=key) hl hv o.fEffects.length FB (Ap8 _) (by show o.fEffects.length<5000000;omega);rw[Aqi] at h;unfold Afv Aa2 Aa3 Tb;rw[A8 (by omega) (by omega),h,A3]
 cases o.fEffects.reverse.find? (JO key) with
 | some x=>rfl
 | none=>
  show OR o key=_;unfold OR;rw[BN (show Dl 16 _=true from Apr (by simp;omega)),GJ hm,A3,Q5,A3]
  cases Du o.fItems key<;>rfl
theorem Aay (hl:o.fEffects.length≤1000000)(hv:∀x∈o.fEffects,x.fValue.length≤2000000):IE FB o=some o.fEffects:=by
 unfold IE;have hr:=(Kg (l:=o.fEffects) (mk:=λi acc=>(acc,(i:Int))) (body:=λσ=>ES o σ.1 σ.2) (fin:=λacc:List Ak=>acc) (λ_ acc x=>(.go ((λ(acc:List Ak) x=>acc++[x]) acc x):Out (List Ak) (List Ak))) (λi acc=>acc.length=i) (λi hi acc hP=>by
  refine⟨?_,λb hb=>by cases hb;simp[hP]⟩;show ES o acc (i:Int)=_;unfold ES;rw[AO (Apr (by omega)),AI (by omega) (by omega),BF hi,GJ (hv _ (List.getElem_mem hi)),A3,BN (show Dl 56 _=true from Apr (by simp;omega)),A8 (by omega) (by omega)];rfl) (λacc hP=>by show ES o acc _=_;unfold ES;rw[AC (Apq (by omega))]) (F:=FB) (by show o.fEffects.length<5000000;omega) (a:=[]) rfl).1
 rw[show Cg (λσ=>ES o σ.1 σ.2) FB (([]:List Ak),0)=_ from hr,Lh,A3];show some (o.fEffects.foldl (λacc x=>acc++[x]) [])=_;have:∀(m a:List Ak),m.foldl (λacc x=>acc++[x]) a=a++m:=by
  intro m
  induction m with
  | nil=>intro a;simp
  | cons x m ih=>intro a;rw[List.foldl_cons,ih];simp
 rw[this];rfl
def Ajo (y:Ab):Bool:=(BT .i64) y.fKind&&(BT .i64) y.fInt&&Jb y.fStr&&(BT .i64) y.fN
def Ajn (y:Ad):Bool:=(λ_=>true) y.fAllow&&(λys:(List Ac)=>ys.all Jb&&decide (ys.length≤1048576)) y.fActions&&(λys:(List Ac)=>ys.all Jb&&decide (ys.length≤1048576)) y.fResources
def Amw (y:A1):Bool:=(λ_=>true) y.fAllow&&(BT .i64) y.fAddr&&(BT .i64) y.fBits&&(BT .i64) y.fLow&&(BT .i64) y.fHigh
def Ahb (y:A0):Bool:=Jb y.fTenant&&Jb y.fFunction&&(λys:(List Ac)=>ys.all Jb&&decide (ys.length≤1048576)) y.fOps&&(λys:(List Ad)=>ys.all Ajn&&decide (ys.length≤1048576)) y.fPolicy&&(λys:(List A1)=>ys.all Amw&&decide (ys.length≤1048576)) y.fNet&&(BT .i64) y.fNow
def Ajm (y:AB):Bool:=Jb y.fKey&&(λys:(List Ab)=>ys.all Ajo&&decide (ys.length≤1048576)) y.fValue&&(BT .i64) y.fVersion
def Alp (y:A6):Bool:=Jb y.fOp&&(λys:(List (List Ab))=>ys.all (λys:(List Ab)=>ys.all Ajo&&decide (ys.length≤1048576))&&decide (ys.length≤1048576)) y.fArgs
theorem JA (h:Jb s=true):s.length≤1048576:=ApH h
theorem G8.ofB (h:(v.all Ajo&&decide (v.length≤1048576))=true):G8 MB v:=by
 simp only[Aps,Apt,ApV] at h;refine⟨by decide,h.2,λc hc=>?_⟩;have:=h.1 c hc;unfold Ajo at this;simp only[Aps] at this;exact⟨JA this.1.2,this.1.1.2,(MI this.2).2⟩
theorem Ul (h:(l.all Jb&&decide (l.length≤1048576))=true):l.length≤2000000∧∀x∈l,x.length≤1000000000:=by
 simp only[Aps,Apt,ApV] at h;exact⟨by omega,λx hx=>by have:=JA (h.1 x hx);omega⟩
theorem Qv.ofB {s:Ad}(h:Ajn s=true):Qv s:=by
 unfold Ajn at h;rw[Aps,Aps] at h;have h1:=Ul h.1.2;have h2:=Ul h.2;exact⟨h1.1,h2.1,h1.2,h2.2⟩
theorem Xm.ofB {a:A0}(h:Ahb a=true):Xm a∧BT .i64 a.fNow=true:=by
 unfold Ahb at h;rw[Aps,Aps,Aps,Aps,Aps] at h;obtain⟨⟨⟨⟨⟨h1,h2⟩,h3⟩,h4⟩,h5⟩,h6⟩:=h;have h4':a.fPolicy.all Ajn=true∧a.fPolicy.length≤1048576:=by simpa[Aps] using h4
 have h5':a.fNet.all Amw=true∧a.fNet.length≤1048576:=by simpa[Aps] using h5
 exact⟨⟨by have:=JA h1;omega,(Ul h3).1,by omega,λx hx=>Qv.ofB (List.all_eq_true.1 h4'.1 x hx),by omega⟩,h6⟩
theorem ItA.ofB {l:List AB}(h:(l.all Ajm&&decide (l.length≤1048576))=true):ItA l:=by
 rw[Aps] at h;refine⟨by have:=ApH h.2;omega,λx hx=>?_⟩;have:=List.all_eq_true.1 h.1 x hx;unfold Ajm at this;rw[Aps,Aps] at this;exact G8.ofB this.1.2
theorem S9.ofB {q:A6}(h:Alp q=true):S9 q:=by
 unfold Alp at h;rw[Aps] at h;have h2:=h.2;rw[Aps] at h2;exact⟨by have:=ApH h2.2;omega,λv hv=>G8.ofB (List.all_eq_true.1 h2.1 v hv)⟩
theorem Xm.fnB (h:Ahb a=true):a.fFunction.length≤2000000:=by
 unfold Ahb at h;rw[Aps,Aps,Aps,Aps,Aps] at h;have:=JA h.1.1.1.1.2;omega
theorem NS {T:Type}:∀{xs:List (Ac×T)} {k:Ac} {v:T},DB xs k=some v→∃k',(k',v)∈xs
 | [],k,v,h=>by cases h
 | p::r,k,v,h=>by
  rw[DB] at h
  cases hd:decide (p.1=k) with
  | true=>rw[hd] at h;simp only[Ap1,Option.some.injEq] at h;subst h;exact⟨p.1,by simp⟩
  | false=>
   rw[hd] at h;obtain⟨k',hk⟩:=NS (xs:=r) h;exact⟨k',List.mem_cons_of_mem _ hk⟩
variable{T:Type}{xs:List (Ac×T)}
theorem Ahq {k:Ac}{v:T}{p:Ac×T}(h:p∈mset xs k v):p∈xs∨p.2=v:=by
 unfold mset at h
 cases hh:Du xs k with
 | false=>
  rw[hh] at h;rcases List.mem_cons.1 ((OK k v xs).mem_iff.1 h) with rfl | h
  ·exact .inr rfl
  ·exact .inl h
 | true=>
  rw[hh] at h;obtain⟨q,hq,e⟩:=List.mem_map.1 (show p∈xs.map _ from h)
  cases hd:decide (q.1=k) with
  | true=>rw[hd] at e;subst e;exact .inr rfl
  | false=>rw[hd] at e;subst e;exact .inl hq
theorem ZS {k:Ac}{z:T}(h:Du xs k=true):∃k',(k',Gc xs k z)∈xs:=by
 unfold Du at h;unfold Gc
 cases hg:DB xs k with
 | none=>rw[hg] at h;cases h
 | some v=>exact NS hg
structure VOK (v:Bp) (vp:List AG):Prop where
 ix:∀p∈v.fSecrets,0≤p.2∧p.2<(vp.length:Int)
 tx:∀e∈vp,e.fText.length≤1048576∧e.fBefore.length≤1048576
variable{vp:List AG}
theorem VOK.at {v:Bp}(h:VOK v vp){i:Int}(h0:0≤i)(h1:i<(vp.length:Int)):(Af vp i).fText.length≤1048576∧(Af vp i).fBefore.length≤1048576:=by
 have hi:i.toNat<vp.length:=by omega
 have e:i=(i.toNat:Int):=by omega
 rw[e,BF hi];exact h.tx _ (List.getElem_mem hi)
theorem VOK.val {v:Bp}(h:VOK v vp)(hh:Du v.fSecrets n=true):0≤Gc v.fSecrets n (-1)∧Gc v.fSecrets n (-1)<(vp.length:Int):=by
 obtain⟨k',hk⟩:=ZS (z:=(-1:Int)) hh;exact h.ix _ hk
theorem Oy (v:Bp)(vp:List AG)(n:Ac):PM v vp n=some (bif Du v.fSecrets n then(Gc v.fSecrets n (-1),0) else(-1,5)):=by
 unfold PM
 cases Du v.fSecrets n<;>rfl
theorem RB {v:Bp}(h:VOK v vp)(n f:Ac):∃r,PL v vp n f=some r∧r.1.length≤1048576:=by
 unfold PL;rw[Oy,A3]
 cases hh:Du v.fSecrets n with
 | false=>exact⟨_,rfl,by simp⟩
 | true=>
  obtain⟨h0,h1⟩:=h.val hh;simp only[Ap1,decide_true,Ap0,Bi];rw[AI h0 h1]
  cases Gc (Af vp (Gc v.fSecrets n (-1))).fBound f false with
  | false=>exact⟨_,rfl,by simp⟩
  | true=>exact⟨_,rfl,(h.at h0 h1).1⟩
def Um (s:Ac)(n:Int)(t:Ac):Int:=bif Ic s t then max n (t.length:Int) else n
def wT (s t:Ac):Int:=bif Ic s t then(t.length:Int) else 0
def wR (s:Ac)(vp:List AG)(i:Int):Int:=max (wT s (Af vp i).fText) (wT s (Af vp i).fBefore)
theorem Wm (s t:Ac):0≤wT s t∧wT s t≤(s.length:Int):=by
 unfold wT
 cases h:Ic s t with
 | false=>exact⟨ApA _,by simp⟩
 | true=>
  unfold Ic at h;simp only[Aps,Apt] at h;rw[Ap1];omega
theorem Wv (s:Ac){n:Int}(hn:0≤n)(t:Ac):Um s n t=max n (wT s t):=by
 unfold Um wT
 cases Ic s t with
 | false=>rw[Apv,Apv];omega
 | true=>rfl
theorem Alk {v:Bp}(h:VOK v vp)(s x:Ac){i n:Int}(h0:0≤i)(h1:i<(vp.length:Int))(hn:0≤n):Ih FB vp s x i n=some (.next (max n (wR s vp i))):=by
 unfold Ih;rw[AI h0 h1];have hr:=(Kg (l:=[(Af vp i).fText,(Af vp i).fBefore]) (mk:=λk acc=>(acc,(k:Int))) (body:=λσ=>EM vp s i σ.1 σ.2) (fin:=λacc:Int=>(acc,(2:Int),false)) (λ_ acc t=>(.go (Um s acc t):Out _ Int)) (λ_ acc=>True) (λk hk acc _=>by
  refine⟨?_,λ_ _=>trivial⟩;have hk2:k<2:=hk;show EM vp s i acc (k:Int)=_;unfold EM;rw[AO (Apr (by omega)),AI (by omega) (by omega),BF hk,P5,Option.isSome_some,C6,A8 (by omega) (by omega),DN];rfl) (λacc _=>by show EM vp s i acc _=_;unfold EM;rw[AC (Apq (by omega))];rfl) (F:=FB) (by show 2<5000000;omega) (a:=n) trivial).1
 rw[show Cg (λσ=>EM vp s i σ.1 σ.2) FB (n,0)=_ from hr,A3,Lh (Um s)];show Ig (Um s (Um s n (Af vp i).fText) (Af vp i).fBefore) 2 false=_;have e1:=Wv s hn (Af vp i).fText;have b1:=Wm s (Af vp i).fText;have e2:=Wv s (n:=Um s n (Af vp i).fText) (by rw[e1];omega) (Af vp i).fBefore;rw[e2,e1];unfold Ig wR
 congr 2
 omega
def Ta (s:Ac)(vp:List AG)(l:List (Ac×Int))(n:Int):Int:=l.foldl (λn p=>max n (wR s vp p.2)) n
theorem AbI (s:Ac)(vp:List AG){l l':List (Ac×Int)}(h:l.Perm l'):∀n,Ta s vp l n=Ta s vp l' n:=by
 induction h with
 | nil=>intro n;rfl
 | cons p _ ih=>intro n;exact ih _
 | swap a b l=>
  intro n;show Ta s vp l (max (max n (wR s vp b.2)) (wR s vp a.2))=Ta s vp l (max (max n (wR s vp a.2)) (wR s vp b.2))
  congr 1
  omega
 | trans _ _ ih1 ih2=>intro n;rw[ih1,ih2]
theorem Aab (s:Ac)(vp:List AG):∀(l:List (Ac×Int)) (n:Int),0≤n→n≤(s.length:Int)→0≤Ta s vp l n∧Ta s vp l n≤(s.length:Int)
 | [],n,h0,h1=>⟨h0,h1⟩
 | p::l,n,h0,h1=>by
  have b1:=Wm s (Af vp p.2).fText;have b2:=Wm s (Af vp p.2).fBefore;exact Aab s vp l (max n (wR s vp p.2)) (by unfold wR;omega) (by unfold wR;omega)
theorem AcI {v:Bp}{vp:List AG}(h:VOK v vp)(s:Ac):∀(l:List (Ac×Int)) (n:Int),(∀p∈l,p∈v.fSecrets)→0≤n→lfe (λpe τ=>Ih FB vp s pe.1 pe.2 τ) l n=some (.go (Ta s vp l n))
 | [],n,_,_=>rfl
 | p::l,n,hl,hn=>by
  have hp:=h.ix p (hl p (by simp));rw[lfe,Alk h s p.1 hp.1 hp.2 hn];have b1:=Wm s (Af vp p.2).fText;exact AcI h s l _ (λq hq=>hl q (List.mem_cons_of_mem _ hq)) (by omega)
structure RVK (k:Nat) (w:AP):Prop where
 len:w.fSecrets.length≤k
 bd:∀s∈w.fSecrets,s.fBound.length≤32
theorem Adr {i:Int}(h0:0≤i):imp (decide (i<(N:Int))) (Cn i (N:Int))=true:=by
 by_cases h:i<(N:Int)
 ·rw[Me h0 h];exact C4 _
 ·rw[Apq h];rfl
structure SeA (x:CX):Prop where
 n:x.fName.length≤2000000
 t:x.fText.length≤1048576
 f:x.fFunction.length≤2000000
def AjX (rdF:Ac→Ac→Option (Ac×Int×Int))(rxF:Ac→Option Ac)(F:Nat)(o:Av)(q:A6):Option (Bb×Av):=
 Bj (!o.fMade) (Ba (CE ([]:List Ab) 10) λr5=>some (r5,(Av.mk o.fMade o.fA o.fItems () o.fCalls o.fEffects o.fReads o.fLog))) (Bj (decide (32≤o.fCalls)) (Ba (CE ([]:List Ab) 3) λhj=>some (hj,(Av.mk o.fMade o.fA o.fItems () o.fCalls o.fEffects o.fReads o.fLog))) (AM (BT .i64 (o.fCalls+1))<|Ba (JG F o.fA q) λhf=>Bj (!decide (hf=0)) (Ba (CE ([]:List Ab) hf) λhk=>some (hk,(Av.mk o.fMade o.fA o.fItems () (o.fCalls+1) o.fEffects o.fReads o.fLog))) (Ba (MQ q) λhd=>Bj (hd.2) (AM (Dl 56 (o.fEffects.length+([hd.1]:List Ak).length))<|Ba (N4) λhl=>Ba (CE hl 0) λhm=>some (hm,(Av.mk o.fMade o.fA o.fItems () (o.fCalls+1) (o.fEffects++([hd.1]:List Ak)) o.fReads o.fLog))) (Bj (decide (q.fOp=([103,101,116]:Ac))) (AM (Cn 0 (q.fArgs.length:Int))<|Ba (L8 (Af q.fArgs 0)) λhn=>Ba (Afv F (Av.mk o.fMade o.fA o.fItems () (o.fCalls+1) o.fEffects o.fReads o.fLog) hn.1) λhb=>Ba (CE hb.1 0) λhp=>some (hp,(Av.mk hb.2.fMade hb.2.fA hb.2.fItems () hb.2.fCalls hb.2.fEffects hb.2.fReads hb.2.fLog))) (Bj (decide (q.fOp=([115,101,99,114,101,116]:Ac))) (AM (Cn 0 (q.fArgs.length:Int))<|Ba (L8 (Af q.fArgs 0)) λhq=>Ba (rdF hq.1 o.fA.fFunction) λhe=>Bj (!decide (he.2.2=0)) (Ba (CE ([]:List Ab) he.2.2) λhr=>some (hr,(Av.mk o.fMade o.fA o.fItems () (o.fCalls+1) o.fEffects o.fReads o.fLog))) (Ba (Aek F he.1) λhg=>Ba (CE hg.1 hg.2) λhs=>some (hs,(Av.mk o.fMade o.fA o.fItems () (o.fCalls+1) o.fEffects o.fReads o.fLog)))) (Bj (decide (q.fOp=([102,101,116,99,104]:Ac))) (AM (Cn 1 (q.fArgs.length:Int))<|Ba (GS (Af q.fArgs 1)) λht=>Ba (CE ht 0) λhu=>some (hu,(Av.mk o.fMade o.fA o.fItems () (o.fCalls+1) o.fEffects o.fReads o.fLog))) (Bj (decide (q.fOp=([110,111,119]:Ac))) (Ba (Aen F o.fA.fNow) λhh=>Ba (CE hh.1 hh.2) λhw=>some (hw,(Av.mk o.fMade o.fA o.fItems () (o.fCalls+1) o.fEffects o.fReads o.fLog))) (AM (Cn 0 (q.fArgs.length:Int))<|Ba (Ow F (Af q.fArgs 0)) λhx=>Ba (rxF hx.1) λhi=>AM (Dl 16 (o.fLog.length+([hi]:List Ac).length))<|Ba (N4) λhy=>Ba (CE hy 0) λhz=>some (hz,(Av.mk o.fMade o.fA o.fItems () (o.fCalls+1) o.fEffects o.fReads (o.fLog++([hi]:List Ac))))))))))))
theorem AlH (F:Nat)(o:Av)(v:Bp)(vp:List AG)(q:A6):Sn F o v vp q=AjX (PL v vp) (LJ F v vp) F o q:=rfl
theorem AlJ (F:Nat)(o:Av)(q:A6):AhV F o q=AjX RC Lg F o q:=rfl
def VJ (v:List Ab):Bb:=bif decide (DC v=0) then⟨0,v⟩ else⟨DC v,[]⟩
def Ht (q:A6):Option Ak:=
 bif decide (q.fOp=[112,117,116]) then some ⟨1,Do q,Af q.fArgs 1,0⟩ else bif decide (q.fOp=[100,101,108,101,116,101]) then some ⟨2,Do q,[],0⟩ else bif decide (q.fOp=[115,101,110,100]) then some ⟨3,Do q,Af q.fArgs 1,0⟩ else
 bif decide (q.fOp=[116,105,109,101,114]) then some ⟨4,Do q,Af q.fArgs 2,(Af (Af q.fArgs 1) 0).fInt⟩ else bif decide (q.fOp=[115,105,103,110,97,108]) then some ⟨5,Do q,Af q.fArgs 1,0⟩ else none
def doS (rd:Ac→Ac→Ac×Int×Int)(rx:Ac→Ac)(o:Av)(q:A6):Bb×Av:=
 bif decide (32≤o.fCalls) then(⟨3,[]⟩,o) else
 bif !decide (Nt o.fA q=0) then(⟨Nt o.fA q,[]⟩,{ o with fCalls:=o.fCalls+1 }) else
 match Ht q with
 | some x=>(⟨0,KM⟩,{ o with fCalls:=o.fCalls+1,fEffects:=o.fEffects++[x] })
 | none=>bif decide (q.fOp=[103,101,116]) then(⟨0,Aa2 o (Do q)⟩,Aa3 { o with fCalls:=o.fCalls+1 } (Do q)) else
  bif decide (q.fOp=[115,101,99,114,101,116]) then((bif decide ((rd (Do q) o.fA.fFunction).2.2=0) then VJ [⟨4,0,(rd (Do q) o.fA.fFunction).1,0⟩] else⟨(rd (Do q) o.fA.fFunction).2.2,[]⟩),{ o with fCalls:=o.fCalls+1 }) else
  bif decide (q.fOp=[102,101,116,99,104]) then(⟨0,Af q.fArgs 1⟩,{ o with fCalls:=o.fCalls+1 }) else
  bif decide (q.fOp=[110,111,119]) then(VJ [⟨3,o.fA.fNow,[],0⟩],{ o with fCalls:=o.fCalls+1 }) else
  (⟨0,KM⟩,{ o with fCalls:=o.fCalls+1,fLog:=o.fLog++[rx (Wd (Af q.fArgs 0)).1] })
structure HoA (o:Av):Prop where
 made:o.fMade=true
 a:Xm o.fA
 now:BT .i64 o.fA.fNow=true
 c:0≤o.fCalls∧o.fCalls≤1000
 e:o.fEffects.length≤1000
 ev:∀x∈o.fEffects,x.fValue.length≤1048576
 r:o.fReads.length≤1000
 l:o.fLog.length≤1000
 it:∀k,(Gc o.fItems k ([]:List Ab)).length≤1048576
theorem G8.one1 {c:Ab}(h1:c.fStr.length≤MB)(h2:BT .i64 c.fInt=true)(h3:c.fN=0):G8 MB [c]:=⟨by decide,by show 1≤1048576;decide,λd hd=>by
 obtain rfl:d=c:=by simpa using hd
 exact⟨h1,h2,by rw[h3];decide⟩⟩
theorem MM (v:List Ab):CE v 0=some ⟨0,v⟩:=rfl
theorem Lt {e:Int}(h:e≠0):CE v e=some ⟨e,[]⟩:=by unfold CE;rw[Apq h];rfl
theorem K7 (h:Nt a q=0):∃s,(HV q.fOp).1=some s∧q.fArgs.length=s.length∧(∀v∈q.fArgs,DC v=0)∧IR s q.fArgs=true∧Wc a.fOps q.fOp=true∧((HV q.fOp).2=true→Ajh a q=true):=by
 obtain⟨_,h⟩:=Hj h
 cases ht:(HV q.fOp).1 with
 | none=>rw[ht] at h;exact absurd (show(4:Int)=0 from h) (by decide)
 | some s=>
  rw[ht] at h;simp only at h
  cases hh:Wc a.fOps q.fOp with
  | false=>rw[hh] at h;exact absurd (show(12:Int)=0 from h) (by decide)
  | true=>
   rw[hh] at h;simp only[Ap0,Apv] at h
   cases hb:AaJ q s with
   | true=>rw[hb] at h;exact absurd (show(7:Int)=0 from h) (by decide)
   | false=>
    rw[hb,Apv] at h;unfold AaJ at hb;simp only[ApB,ApX,Apt] at hb;obtain⟨h1,h2,h3⟩:=hb;refine⟨s,rfl,by omega,λv hv=>?_,h3,rfl,λhn=>?_⟩
    ·rw[List.any_eq_false] at h2;simpa using h2 v hv
    ·rw[hn] at h
     cases hp:Ajh a q with
     | true=>rfl
     | false=>rw[hp] at h;exact absurd (show(12:Int)=0 from h) (by decide)
theorem Vq {x:Ak}(h:Ht q=some x):(HV q.fOp).2=true:=by
 unfold Ht at h
 by_cases h1:q.fOp=[112,117,116]
 ·rw[h1];decide
 by_cases h2:q.fOp=[100,101,108,101,116,101]
 ·rw[h2];decide
 by_cases h3:q.fOp=[115,101,110,100]
 ·rw[h3];decide
 by_cases h4:q.fOp=[116,105,109,101,114]
 ·rw[h4];decide
 by_cases h5:q.fOp=[115,105,103,110,97,108]
 ·rw[h5];decide
 rw[Apq h1,Apq h2,Apq h3,Apq h4,Apq h5] at h
 cases h
theorem MV (hq:S9 q)(hi:i<q.fArgs.length):(Af q.fArgs (i:Int)).length≤1048576:=(hq.at hi).hv
theorem AbY (hq:S9 q)(h:Nt a q=0):MQ q=some (match Ht q with | some x=>(x,true) | none=>(⟨0,[],[],0⟩,false)):=by
 obtain⟨s,h1,h2,h3,h4,_⟩:=K7 h;have hp:∀i:Nat,i<q.fArgs.length→0<(Af q.fArgs (i:Int)).length:=λi hi=>Hv (h3 _ (by rw[BF hi];exact List.getElem_mem hi));have hstr:0<q.fArgs.length→L8 (Af q.fArgs 0)=some (Do q,decide ((Af (Af q.fArgs 0) 0).fKind=4)):=λh0=>Rf (by simpa using hp 0 h0);unfold MQ Ht
 by_cases e1:q.fOp=[112,117,116]
 ·have hs:s=[103,0]:=by rw[e1] at h1;cases h1;rfl
  subst hs;have hl:q.fArgs.length=2:=h2;rw[Apr e1,Cf,AI (by omega) (by omega),AI (by omega) (by omega),hstr (by omega),A3,GJ (by have:=MV hq (i:=1) (by omega);simpa using Nat.le_trans this (by decide)),A3];rfl
 rw[Apq e1,Bi,Apv]
 by_cases e2:q.fOp=[100,101,108,101,116,101]
 ·have hs:s=[103]:=by rw[e2] at h1;cases h1;rfl
  subst hs;have hl:q.fArgs.length=1:=h2;rw[Apr e2,Cf,AI (by omega) (by omega),hstr (by omega),A3,GJ (by simp),A3];rfl
 rw[Apq e2,Bi,Apv]
 by_cases e3:q.fOp=[115,101,110,100]
 ·have hs:s=[104,0]:=by rw[e3] at h1;cases h1;rfl
  subst hs;have hl:q.fArgs.length=2:=h2;rw[Apr e3,Cf,AI (by omega) (by omega),AI (by omega) (by omega),hstr (by omega),A3,GJ (by have:=MV hq (i:=1) (by omega);simpa using Nat.le_trans this (by decide)),A3];rfl
 rw[Apq e3,Bi,Apv]
 by_cases e4:q.fOp=[116,105,109,101,114]
 ·have hs:s=[104,105,0]:=by rw[e4] at h1;cases h1;rfl
  subst hs;have hl:q.fArgs.length=3:=h2;have h0:=hp 1 (by omega);rw[Apr e4,Cf,AI (by omega) (by omega),AI (by omega) (by omega),AI (by omega) (by simpa using h0),AI (by omega) (by omega),hstr (by omega),A3,GJ (by have:=MV hq (i:=2) (by omega);simpa using Nat.le_trans this (by decide)),A3];rfl
 rw[Apq e4,Bi,Apv]
 by_cases e5:q.fOp=[115,105,103,110,97,108]
 ·have hs:s=[103,106]:=by rw[e5] at h1;cases h1;rfl
  subst hs;have hl:q.fArgs.length=2:=h2;rw[Apr e5,Cf,AI (by omega) (by omega),AI (by omega) (by omega),hstr (by omega),A3,GJ (by have:=MV hq (i:=1) (by omega);simpa using Nat.le_trans this (by decide)),A3];rfl
 rw[Apq e5];rfl
theorem Ad6 (h:DC v=0):(Wd v).1≠[]∧(Wd v).1.length≤4000:=by
 unfold DC at h;unfold Wd
 cases hw:whole v with
 | none=>rw[hw] at h;exact absurd (show(1:Int)=0 from h) (by decide)
 | some f=>
  rw[hw] at h;obtain⟨_,h2,h3⟩:=KB hw;have h':Nq f=0:=h;simp only[h',decide_true,Ap1];refine⟨List.length_pos_iff.1 (Ac9 h2 h3),?_⟩;unfold Nq at h'
  cases hb:(f.flat.any MF) with
  | true=>rw[hb] at h';exact absurd (show(2:Int)=0 from h') (by decide)
  | false=>
   rw[hb,Apv] at h'
   cases hc:(f.flat.any KQ||(decide (200<f.flat.length)||(decide (8<f.dep)||decide (4000<(f.txt true).length)))) with
   | true=>rw[hc] at h';exact absurd (show(3:Int)=0 from h') (by decide)
   | false=>
    simp only[ApB,Apx] at hc;omega
variable{rd:Ac→Ac→Ac×Int×Int}{rdF:Ac→Ac→Option (Ac×Int×Int)}
theorem Adw {rxF:Ac→Option Ac}{rx:Ac→Ac}(h:HoA o)(hq:S9 q)
  (hr:∀n f,rdF n f=some (rd n f)∧(rd n f).1.length≤1048576) (hx:∀s,s≠[]→s.length≤4000→rxF s=some (rx s)):AjX rdF rxF FB o q=some (doS rd rx o q):=by
 obtain⟨md,a,it,u,c,ef,rs,lg⟩:=o;obtain rfl:md=true:=h.made;have hc:0≤c∧c≤1000:=h.c;have he:ef.length≤1000:=h.e;have hl:lg.length≤1000:=h.l;have hrl:rs.length≤1000:=h.r;have hA:Xm a:=h.a;have hN:BT .i64 a.fNow=true:=h.now;unfold AjX doS;dsimp only;rw[Ap0,Bi]
 cases hd:decide (32≤c) with
 | true=>rfl
 | false=>
  rw[Bi,A8 (by omega) (by omega),Aa0 hA hq,A3]
  by_cases ha:Nt a q=0
  ·rw[Apr ha,Ap0,Bi,Apv,Apv,AbY hq ha,A3];obtain⟨s,h1,h2,h3,h4,_⟩:=K7 ha;have hp:∀i:Nat,i<q.fArgs.length→0<(Af q.fArgs (i:Int)).length:=λi hi=>Hv (h3 _ (by rw[BF hi];exact List.getElem_mem hi));have hstr:0<q.fArgs.length→L8 (Af q.fArgs 0)=some (Do q,decide ((Af (Af q.fArgs 0) 0).fKind=4)):=λh0=>Rf (by simpa using hp 0 h0)
   cases hef:Ht q with
   | some x=>
    simp only;rw[Cf,BN (show Dl 56 _=true from Apr (by simp;omega)),Q5,A3,MM,A3]
   | none=>
    simp only;rw[Bi]
    by_cases e1:q.fOp=[103,101,116]
    ·have hs:s=[103]:=by rw[e1] at h1;cases h1;rfl
     subst hs;have hl1:q.fArgs.length=1:=h2;rw[Apr e1,Cf,Ap1,AI (by omega) (by omega),hstr (by omega),A3];simp only;rw[AjU (o:=⟨true,a,it,(),c+1,ef,rs,lg⟩) (by show ef.length≤_;omega) (λx hx=>Nat.le_trans (h.ev x hx) (by decide)) (by show rs.length≤_;omega) (Nat.le_trans (h.it _) (by decide)),A3,MM,A3];rfl
    rw[Apq e1,Bi,Apv]
    by_cases e2:q.fOp=[115,101,99,114,101,116]
    ·have hs:s=[104]:=by rw[e2] at h1;cases h1;rfl
     subst hs;have hl1:q.fArgs.length=1:=h2;rw[Apr e2,Cf,Ap1,AI (by omega) (by omega),hstr (by omega),A3];simp only;obtain⟨hr1,hr2⟩:=hr (Do q) a.fFunction;rw[hr1,A3]
     by_cases e3:(rd (Do q) a.fFunction).2.2=0
     ·rw[Apr e3,Ap0,Bi,Ap1];unfold Aek;have hk:G8 MB [(⟨4,0,(rd (Do q) a.fFunction).1,0⟩:Ab)]:=G8.one1 hr2 (show BT .i64 0=true from by decide) rfl;have hv:∀{β:Type} (K:Bb→Option β),(Ba (Ba (KE FB [(⟨4,0,(rd (Do q) a.fFunction).1,0⟩:Ab)]) λr2=>some (r2.1,r2.2)) λhb=>Ba (CE hb.1 hb.2) K)=K (VJ [⟨4,0,(rd (Do q) a.fFunction).1,0⟩]):=λK=>by
       unfold KE VJ;rw[T2 hk,A3]
       by_cases hz:DC [(⟨4,0,(rd (Do q) a.fFunction).1,0⟩:Ab)]=0
       ·rw[Apr hz];rfl
       ·rw[Apq hz,ApG,Cf,A3,A3];simp only;rw[Lt hz,A3];rfl
      rw[hv]
     ·rw[Apq e3,ApG,Cf,Apv,Lt e3,A3]
    rw[Apq e2,Bi,Apv]
    by_cases e3:q.fOp=[102,101,116,99,104]
    ·have hs:s=[107,0]:=by rw[e3] at h1;cases h1;rfl
     subst hs;have hl1:q.fArgs.length=2:=h2;rw[Apr e3,Cf,Ap1,AI (by omega) (by omega),GJ (by have:=MV hq (i:=1) (by omega);simpa using Nat.le_trans this (by decide)),A3,MM,A3]
    rw[Apq e3,Bi,Apv]
    by_cases e4:q.fOp=[110,111,119]
    ·rw[Apr e4,Cf,Ap1];unfold Aen;have hk:G8 MB [(⟨3,a.fNow,[],0⟩:Ab)]:=G8.one1 (by simp) hN rfl;have hv:∀{β:Type} (K:Bb→Option β),(Ba (Ba (KE FB [(⟨3,a.fNow,[],0⟩:Ab)]) λr2=>some (r2.1,r2.2)) λhb=>Ba (CE hb.1 hb.2) K)=K (VJ [⟨3,a.fNow,[],0⟩]):=λK=>by
      unfold KE VJ;rw[T2 hk,A3]
      by_cases hz:DC [(⟨3,a.fNow,[],0⟩:Ab)]=0
      ·rw[Apr hz];rfl
      ·rw[Apq hz,ApG,Cf,A3,A3];simp only;rw[Lt hz,A3];rfl
     rw[hv]
    rw[Apq e4,Bi,Apv];have e5:q.fOp=[108,111,103]:=by
     unfold Ht at hef;rcases OB h1 with e | e | e | e | e | e | e | e | e | e
     ·exact absurd e e1
     ·rw[e] at hef;cases hef
     ·rw[e] at hef;cases hef
     ·rw[e] at hef;cases hef
     ·rw[e] at hef;cases hef
     ·rw[e] at hef;cases hef
     ·exact absurd e e2
     ·exact absurd e e3
     ·exact absurd e e4
     ·exact e
    have hs:s=[0]:=by rw[e5] at h1;cases h1;rfl
    subst hs;have hl1:q.fArgs.length=1:=h2;have hz:DC (Af q.fArgs 0)=0:=h3 _ (by rw[show(0:Int)=((0:Nat):Int) from rfl,BF (by omega)];exact List.getElem_mem _);obtain⟨hn1,hn2⟩:=Ad6 hz;rw[AI (by omega) (by omega),Abg (M:=MB) (v:=Af q.fArgs 0) (hq.at (i:=0) (by omega)) (by decide) (by decide),A3];show(Ba (rxF (Wd (Af q.fArgs 0)).1) _)=_;rw[hx _ hn1 hn2,A3,BN (show Dl 16 _=true from Apr (by simp;omega)),Q5,A3,MM,A3]
  ·rw[Apq ha,ApG,Cf,Apv,Ap1,Lt ha,A3]
def opK (k:Int):Ac:=bif decide (k=1) then[112,117,116] else bif decide (k=2) then[100,101,108,101,116,101] else bif decide (k=3) then[115,101,110,100] else bif decide (k=4) then[116,105,109,101,114] else[115,105,103,110,97,108]
structure EOK (a:A0) (x:Ak):Prop where
 v:G8 MB x.fValue
 k:x.fKey.length≤1048576
 p:x.fKind=1→DC x.fValue=0
 o:Wc a.fOps (opK x.fKind)=true
 d:(AeI a.fPolicy (opK x.fKind) (Ajf a.fTenant (opK x.fKind) x.fKey)).fAllowed=true
theorem G8.nil:G8 MB ([]:List Ab):=⟨by decide,by simp,λc hc=>by cases hc⟩
theorem G8.null:G8 MB KM:=G8.one1 (by decide) (by decide) rfl
theorem OV:DC KM=0:=by decide
theorem AjV {x:Ak}(hq:S9 q)(ha:Nt a q=0)(h:Ht q=some x):EOK a x:=by
 obtain⟨s,h1,h2,h3,_,h5,h6⟩:=K7 ha;have h6':=h6 (Vq h);have hn:0<s.length:=Uk h1 (.inl (Vq h));have hk:(Do q).length≤1048576:=(hq.at (i:=0) (by omega)).str (by
  have:=Hv (h3 _ (by rw[BF (i:=0) (by omega)];exact List.getElem_mem (by omega)):DC (Af q.fArgs ((0:Nat):Int))=0);exact this)
 have he:∀i:Nat,i<q.fArgs.length→DC (Af q.fArgs (i:Int))=0:=λi hi=>h3 _ (by rw[BF hi];exact List.getElem_mem hi);unfold Ajh at h6';unfold Ht at h
 by_cases e1:q.fOp=[112,117,116]
 ·rw[Apr e1,Ap1] at h;have hs:s=[103,0]:=by rw[e1] at h1;cases h1;rfl
  subst hs;have hl:q.fArgs.length=2:=h2
  cases h
  exact⟨hq.at (i:=1) (by omega),hk,λ_=>he 1 (by omega),by rw[e1] at h5;exact h5,by rw[e1] at h6';exact h6'⟩
 rw[Apq e1,Apv] at h
 by_cases e2:q.fOp=[100,101,108,101,116,101]
 ·rw[Apr e2,Ap1] at h
  cases h
  exact⟨G8.nil,hk,λh=>absurd (show(2:Int)=1 from h) (by decide),by rw[e2] at h5;exact h5,by rw[e2] at h6';exact h6'⟩
 rw[Apq e2,Apv] at h
 by_cases e3:q.fOp=[115,101,110,100]
 ·rw[Apr e3,Ap1] at h;have hs:s=[104,0]:=by rw[e3] at h1;cases h1;rfl
  subst hs;have hl:q.fArgs.length=2:=h2
  cases h
  exact⟨hq.at (i:=1) (by omega),hk,λh=>absurd (show(3:Int)=1 from h) (by decide),by rw[e3] at h5;exact h5,by rw[e3] at h6';exact h6'⟩
 rw[Apq e3,Apv] at h
 by_cases e4:q.fOp=[116,105,109,101,114]
 ·rw[Apr e4,Ap1] at h;have hs:s=[104,105,0]:=by rw[e4] at h1;cases h1;rfl
  subst hs;have hl:q.fArgs.length=3:=h2
  cases h
  exact⟨hq.at (i:=2) (by omega),hk,λh=>absurd (show(4:Int)=1 from h) (by decide),by rw[e4] at h5;exact h5,by rw[e4] at h6';exact h6'⟩
 rw[Apq e4,Apv] at h
 by_cases e5:q.fOp=[115,105,103,110,97,108]
 ·rw[Apr e5,Ap1] at h;have hs:s=[103,106]:=by rw[e5] at h1;cases h1;rfl
  subst hs;have hl:q.fArgs.length=2:=h2
  cases h
  exact⟨hq.at (i:=1) (by omega),hk,λh=>absurd (show(5:Int)=1 from h) (by decide),by rw[e5] at h5;exact h5,by rw[e5] at h6';exact h6'⟩
 rw[Apq e5] at h
 cases h
structure CI (a:A0) (i:Nat) (g:Int) (o:Av):Prop where
 made:o.fMade=true
 ha:Xm a
 now:BT .i64 a.fNow=true
 acc:o.fA=a
 calls:o.fCalls=min (i:Int) 32
 effs:(o.fEffects.length:Int)≤g
 good:0≤g∧g≤i
 ef:∀x∈o.fEffects,EOK a x
 it:∀k,G8 MB (Gc o.fItems k ([]:List Ab))∧(Du o.fItems k=true→DC (Gc o.fItems k ([]:List Ab))=0)
 rds:o.fReads.length≤i
 lgs:o.fLog.length≤i
variable{g:Int}
theorem CI.ho (h:CI a i g o)(hi:i≤60):HoA o:=by
 have h1:=h.effs;have h2:=h.good;have h3:=h.rds;have h4:=h.lgs;have h5:=h.calls;exact⟨h.made,by rw[h.acc];exact h.ha,by rw[h.acc];exact h.now,by omega,by omega,λx hx=>(h.ef x hx).v.hv,by omega,by omega,λk=>(h.it k).1.hv⟩
theorem AjY (h:CI a i g o)(k:Ac):G8 MB (Aa2 o k)∧DC (Aa2 o k)=0:=by
 unfold Aa2 Tb
 cases hf:o.fEffects.reverse.find? (JO k) with
 | some x=>
  have hx:x∈o.fEffects:=by have:=List.mem_of_find?_eq_some hf;simpa using this
  have he:=h.ef x hx;simp only
  cases hd:decide (x.fKind=1) with
  | true=>exact⟨he.v,he.p (ApH hd)⟩
  | false=>exact⟨G8.null,OV⟩
 | none=>
  simp only
  cases hm:Du o.fItems k with
  | true=>exact⟨(h.it k).1,(h.it k).2 hm⟩
  | false=>exact⟨G8.null,OV⟩
theorem CI.upd {g':Int}{o':Av}(h:CI a i g o)(hg:g≤g'∧g'≤g+1)(h1:o'.fMade=true)(h2:o'.fA=o.fA)(h3:o'.fItems=o.fItems)(h4:o'.fCalls=min ((i+1:Nat):Int) 32)(h5:(o'.fEffects.length:Int)≤g')(h6:∀x∈o'.fEffects,EOK a x)(h7:o'.fReads.length≤i+1)(h8:o'.fLog.length≤i+1):CI a (i+1) g' o':=by
 have hg0:=h.good;exact⟨h1,h.ha,h.now,by rw[h2,h.acc],h4,h5,by omega,h6,λk=>by rw[h3];exact h.it k,h7,h8⟩
def Ai2 (a:A0)(i:Nat)(g:Int)(o:Av)(q:A6)(r:Bb×Av):Prop:=
 (r.1.fErr=0→G8 MB r.1.fValue∧DC r.1.fValue=0∧CI a (i+1) (g+1) r.2)∧(r.1.fErr≠0→r.1.fValue=[]∧r.2.fEffects=o.fEffects∧r.2.fReads=o.fReads∧CI a (i+1) g r.2)∧(32≤i→r.1.fErr=3)∧(i<32→Nt a q≠0→r.1.fErr=Nt a q)
theorem KF {o':Av}(hi:i<32)(ha:Nt a q=0)(h1:G8 MB v)(h2:DC v=0)(h3:CI a (i+1) (g+1) o'):Ai2 a i g o q (⟨0,v⟩,o'):=
 ⟨λ_=>⟨h1,h2,h3⟩,λh=>absurd rfl h,λh=>absurd h (by omega),λ_ h=>absurd ha h⟩
theorem CI.step (h:CI a i g o)(hq:S9 q)(hr:∀n f,(rd n f).1.length≤1048576)(rx:Ac→Ac):Ai2 a i g o q (doS rd rx o q):=by
 have hc:=h.calls;have he:=h.effs;have hg:=h.good;have hrl:=h.rds;have hll:=h.lgs;obtain rfl:=h.acc;unfold doS
 by_cases hb:32≤i
 ·rw[Apr (show(32:Int)≤o.fCalls by omega),Ap1];exact⟨λhz=>absurd (show(3:Int)=0 from hz) (by decide),λ_=>⟨rfl,rfl,rfl,h.upd ⟨ApA _,by omega⟩ h.made rfl rfl (by show o.fCalls=_;omega) he h.ef (by show o.fReads.length≤_;omega) (by show o.fLog.length≤_;omega)⟩,λ_=>rfl,λhx=>absurd hx (by omega)⟩
 ·rw[Apq (show ¬ (32:Int)≤o.fCalls by omega),Apv];have hc1:o.fCalls+1=min ((i+1:Nat):Int) 32:=by omega
  have same:CI o.fA (i+1) g { o with fCalls:=o.fCalls+1 }:=h.upd ⟨ApA _,by omega⟩ h.made rfl rfl hc1 he h.ef (by show o.fReads.length≤_;omega) (by show o.fLog.length≤_;omega);have more:CI o.fA (i+1) (g+1) { o with fCalls:=o.fCalls+1 }:=h.upd ⟨by omega,ApA _⟩ h.made rfl rfl hc1 (by show(o.fEffects.length:Int)≤_;omega) h.ef (by show o.fReads.length≤_;omega) (by show o.fLog.length≤_;omega);have res:∀v:List Ab,G8 MB v→Nt o.fA q=0→Ai2 o.fA i g o q (VJ v,{ o with fCalls:=o.fCalls+1 }):=λv hv ha=>by
   unfold VJ
   by_cases hz:DC v=0
   ·rw[Apr hz,Ap1];exact KF (by omega) ha hv hz more
   ·rw[Apq hz,Apv];exact⟨λh0=>absurd h0 hz,λ_=>⟨rfl,rfl,rfl,same⟩,λhx=>absurd hx (by omega),λ_ hx=>absurd ha hx⟩
  by_cases ha:Nt o.fA q=0
  ·rw[Apr ha,Ap0,Apv]
   cases hef:Ht q with
   | some x=>
    have hx:=AjV hq ha hef;refine KF (by omega) ha G8.null OV (h.upd ⟨by omega,ApA _⟩ h.made rfl rfl hc1 ?_ ?_ (by show o.fReads.length≤_;omega) (by show o.fLog.length≤_;omega))
    ·show((o.fEffects++[x]).length:Int)≤g+1;simp only[Apz,ApC];omega
    ·intro y hy;rcases List.mem_append.1 (show y∈o.fEffects++[x] from hy) with hy | hy
     ·exact h.ef y hy
     ·rw[List.mem_singleton.1 hy];exact hx
   | none=>
    simp only
    cases decide (q.fOp=[103,101,116]) with
    | true=>
     obtain⟨g1,g2⟩:=AjY h (Do q);refine KF (by omega) ha g1 g2 ?_;unfold Aa3
     cases Tb ({ o with fCalls:=o.fCalls+1 }:Av).fEffects (Do q) with
     | some _=>exact more
     | none=>
      refine h.upd ⟨by omega,ApA _⟩ h.made rfl rfl hc1 (by show(o.fEffects.length:Int)≤_;omega) h.ef ?_ (by show o.fLog.length≤_;omega);show(o.fReads++[Do q]).length≤i+1;simp only[Apz,ApC];omega
    | false=>
     cases decide (q.fOp=[115,101,99,114,101,116]) with
     | true=>
      by_cases hz:(rd (Do q) o.fA.fFunction).2.2=0
      ·rw[Apr hz];exact res _ (G8.one1 (hr _ _) (show BT .i64 0=true from by decide) rfl) ha
      ·rw[Apq hz];exact⟨λh0=>absurd h0 hz,λ_=>⟨rfl,rfl,rfl,same⟩,λhx=>absurd hx (by omega),λ_ hx=>absurd ha hx⟩
     | false=>
      cases hf:decide (q.fOp=[102,101,116,99,104]) with
      | true=>
       obtain⟨s,h1,h2,h3,_⟩:=K7 ha;have hs:s=[107,0]:=by rw[ApH hf] at h1;cases h1;rfl
       subst hs;have hl1:q.fArgs.length=2:=h2;exact KF (by omega) ha (hq.at (i:=1) (by omega)) (h3 _ (by rw[show(1:Int)=((1:Nat):Int) from rfl,BF (by omega)];exact List.getElem_mem _)) more
      | false=>
       cases decide (q.fOp=[110,111,119]) with
       | true=>exact res _ (G8.one1 (by simp) h.now rfl) ha
       | false=>
        refine KF (by omega) ha G8.null OV (h.upd ⟨by omega,ApA _⟩ h.made rfl rfl hc1 (by show(o.fEffects.length:Int)≤_;omega) h.ef (by show o.fReads.length≤_;omega) ?_);show(o.fLog++[rx (Wd (Af q.fArgs 0)).1]).length≤i+1;simp only[Apz,ApC];omega
  ·rw[Apq ha,ApG,Ap1];exact⟨λh0=>absurd h0 ha,λ_=>⟨rfl,rfl,rfl,same⟩,λhx=>absurd hx (by omega),λ_ _=>rfl⟩
theorem AhD {l:List AB}:∀p∈VY l,∃x∈l,p.2=x.fValue:=by
 have key:∀(l:List AB) (m:List (Ac×List Ab)) (P:List Ab→Prop),(∀p∈m,P p.2)→(∀x∈l,P x.fValue)→∀p∈l.foldl (λm x=>mset m x.fKey x.fValue) m,P p.2:=by
  intro l
  induction l with
  | nil=>intro m P hm _ p hp;exact hm p hp
  | cons y l ih=>
   intro m P hm hl p hp;refine ih (mset m y.fKey y.fValue) P (λp hp=>?_) (λx hx=>hl x (List.mem_cons_of_mem _ hx)) p hp;rcases Ahq hp with hp | hp
   ·exact hm p hp
   ·rw[hp];exact hl y (by simp)
 exact key l [] (λv=>∃x∈l,v=x.fValue) (by simp) (λx hx=>⟨x,hx,rfl⟩)
theorem Aj4 {k:Ac}{z:T}(h:Du xs k=false):Gc xs k z=z:=by
 unfold Du at h;unfold Gc
 cases hg:DB xs k with
 | none=>rfl
 | some v=>rw[hg] at h;cases h
theorem CI.new {l:List AB}(ha:Xm a)(hn:BT .i64 a.fNow=true)(hl:ItA l)(h:Qb a l=0):CI a 0 0 (Ec a l):=by
 obtain⟨_,h⟩:=Hj h;have hz:∀x∈l,DC x.fValue=0:=by
  unfold VX at h
  cases hb:decide (256<(l.length:Int)) with
  | true=>rw[hb] at h;exact absurd (show(3:Int)=0 from h) (by decide)
  | false=>
   rw[hb,Apv] at h;intro x hx;obtain⟨i,hi,rfl⟩:=List.getElem_of_mem hx;have:=Sr h i (ApY _) (by omega);unfold Yf at this
   cases hk:Mf (Af l (i:Int)).fKey with
   | false=>rw[hk] at this;exact absurd (show(4:Int)=0 from this) (by decide)
   | true=>
    rw[hk,Ap0,Apv] at this;have:=(Hj this).1
    rwa [BF hi] at this
 refine⟨rfl,ha,hn,rfl,(by show(0:Int)=min ((0:Nat):Int) 32;decide),by simp[Ec],by simp,by simp[Ec],λk=>?_,by simp[Ec],by simp[Ec]⟩;show G8 MB (Gc (VY l) k [])∧(Du (VY l) k=true→DC (Gc (VY l) k [])=0)
 cases hm:Du (VY l) k with
 | false=>rw[Aj4 hm];exact⟨G8.nil,λh=>by cases h⟩
 | true=>
  obtain⟨k',hk⟩:=ZS (z:=([]:List Ab)) hm;obtain⟨x,hx,e⟩:=AhD _ hk;have e':Gc (VY l) k []=x.fValue:=e;rw[e'];exact⟨hl.v x hx,λ_=>hz x hx⟩
set_option maxRecDepth 100000 in
theorem I5:HK 5000000=some true:=by decide +kernel
theorem AfA:(List.range N).any (λ_=>false)=false:=by
 rw[List.any_eq_false];intro x _;simp
theorem UU (c:R)(hF:N<F)(hb:∀i:Nat,i<N→body (i:Int)=some (.next ((i:Int)+1)))(he:body (N:Int)=some (.out (.go u))):Cg body F 0=some (.go u):=by
 rw[Ahv (p:=λ_=>false) (c:=c) hF (λi hi=>by rw[hb i hi];rfl) he,AfA];rfl
theorem Tt {l:List Ak}(hl:l.length≤2000000)(hv:∀x∈l,x.fValue.length≤2000000):Jd FB l l=some true:=by
 unfold Jd HJ;rw[AC (by simp),UU (F:=FB) (N:=l.length) (body:=GG FB l l) (u:=()) false (by show l.length<5000000;omega) (λi hi=>by
  unfold GG;have hx:=hv _ (List.getElem_mem hi);rw[AO (Apr (by omega)),AI (by omega) (by omega),AI (by omega) (by omega),BF hi,Uy (v:=l[i].fValue) (by show _<5000000;omega) (by omega)];rw[Apr (rfl:l[i].fKind=l[i].fKind),Apr (rfl:l[i].fKey=l[i].fKey),Apr (rfl:l[i].fDelay=l[i].fDelay),Option.isSome_some,C4,C4,C4,C6,DN,A8 (by omega) (by omega)];rfl) (by unfold GG;rw[AC (Apq (by omega))]),A3];rfl
theorem Td (hl:l.length≤2000000):L4 FB l l=some true:=by
 unfold L4 Mh;rw[AC (by simp),UU (F:=FB) (N:=l.length) (body:=K3 l l) (u:=()) false (by show l.length<5000000;omega) (λi hi=>by
  unfold K3;rw[AO (Apr (by omega)),AI (by omega) (by omega),AI (by omega) (by omega),BF hi];rw[Apr (rfl:l[i]=l[i]),A8 (by omega) (by omega)];rfl) (by unfold K3;rw[AC (Apq (by omega))]),A3];rfl
theorem Aft (h:o.fReads.length≤2000000):MN o=some (D9 o.fReads):=by
 unfold MN;rw[BN (show Dl 16 _=true from Apr (by omega))]
structure Aks (x:Co):Prop where
 a:Xm x.fA
 now:BT .i64 x.fA.fNow=true
 it:ItA x.fItems
 se:∀s∈x.fSecrets,SeA s
 q:∀q∈x.fL,S9 q
def Amv (y:CX):Bool:=Jb y.fName&&Jb y.fText&&Jb y.fFunction
def Ajl (y:Co):Bool:=Ahb y.fA&&(λys:(List AB)=>ys.all Ajm&&decide (ys.length≤1048576)) y.fItems&&(λys:(List CX)=>ys.all Amv&&decide (ys.length≤1048576)) y.fSecrets&&(λ_=>true) y.fNone&&(λys:(List A6)=>ys.all Alp&&decide (ys.length≤1048576)) y.fL
theorem Aks.ofB {x:Co}(h:Ajl x=true):Aks x:=by
 unfold Ajl at h;rw[Aps,Aps,Aps,Aps] at h;obtain⟨⟨⟨⟨h1,h2⟩,h3⟩,_⟩,h5⟩:=h;have h3':=h3;rw[Aps] at h3';have h5':=h5;rw[Aps] at h5';refine⟨(Xm.ofB h1).1,(Xm.ofB h1).2,ItA.ofB h2,λs hs=>?_,λq hq=>S9.ofB (List.all_eq_true.1 h5'.1 q hq)⟩;have:=List.all_eq_true.1 h3'.1 s hs;unfold Amv at this;rw[Aps,Aps] at this;exact⟨by have:=JA this.1.1;omega,JA this.1.2,by have:=JA this.2;omega⟩
theorem PC {f:Nat→UInt8→Bool}{g:UInt8→Bool}(h:∀k u,f k u=g u):∀(l:List UInt8) (k:Nat),BB f k l=l.all g
 | [],k=>rfl
 | u::l,k=>by rw[BB,h,PC h l,List.all_cons]
theorem Acl (h:i<s.length):C0 s (i:Int)=(s[i].toNat:Int):=V1 (Apw h)
theorem Ol (l:List α)(p:α→Bool):(l.findIdx? p).isNone=l.all λx=>!p x:=by
 cases h:l.findIdx? p with
 | none=>
  rw[Option.isNone_none];refine(List.all_eq_true.2 λx hx=>?_).symm;have:=List.findIdx?_eq_none_iff.1 h x hx;simpa using this
 | some j=>
  obtain⟨hj,h1,_⟩:=List.findIdx?_eq_some_iff_getElem.1 h;rw[Option.isNone_some];refine(List.all_eq_false.2 ⟨l[j],List.getElem_mem hj,?_⟩).symm;simp[h1]
theorem Rd (s:Ac):K4 FB s=some (Kd s):=by
 unfold K4
 cases hc:(decide ((s.length:Int)<1)||decide ((64:Int)<s.length)) with
 | true=>rw[Cf,AcT hc]
 | false=>
  have hc2:=hc;simp only[ApB,Apx] at hc2;rw[Bi,AnD hc];have hl:(s.take (s.length-1)).length=s.length-1:=by rw[Aqq];omega
  have h1:C0 s ((s.length:Int)-1)=C0 s ((s.length-1:Nat):Int):=by rw[show((s.length-1:Nat):Int)=(s.length:Int)-1 from by omega]
  rw[HI (l:=s.take (s.length-1)) (p:=λu=>!ED (u.toNat:Int)) (ret:=λ_=>false) (u:=()) (body:=H5 s) (by show _<5000000;omega) (λi h=>by
   unfold H5;rw[A8 (by omega) (by omega),AO (Apr (by omega)),AI (by omega) (by omega),Se,A3,A8 (by omega) (by omega),Acl (by omega),List.getElem_take]) (by
   unfold H5;rw[A8 (by omega) (by omega),AC (Apq (by omega))]),A3]
  unfold Ki;rw[A8 (by omega) (by omega),AI (by omega) (by omega),Se,Option.isSome_some,C6,DN,PC (g:=λu=>ED (u.toNat:Int)) AhI];have e:=Ol (s.take (s.length-1)) λu=>!ED (u.toNat:Int);simp only[Bool.not_not] at e;rw[← e]
  cases(s.take (s.length-1)).findIdx? λu=>!ED (u.toNat:Int)<;>rfl
theorem AgW {p:Ac}(h:Kd p=true):1≤p.length∧p.length≤64:=by
 cases hc:(decide ((p.length:Int)<1)||decide ((64:Int)<p.length)) with
 | true=>rw[AcT hc] at h;cases h
 | false=>
  simp only[ApB,Apx] at hc;omega
theorem Ym (q s:Ac):OQ FB q s=some (MG q s):=by
 unfold OQ;rw[Rd,A3]
 cases hp:Kd q with
 | false=>rw[Aj8 hp];rfl
 | true=>
  have hl:=AgW hp;rw[Ap0,Bi];unfold AbT Ve;rw[A8 (by omega) (by omega),AI (by omega) (by omega),Ams hl.1,A3]
  cases ho:EA q [42] with
  | false=>rw[Bi,Afe hp ho]
  | true=>
   rw[Cf,A8 (by omega) (by omega),CU (by omega) (by omega),Akm,Aff hp ho];rw[BN,A3]
   cases hd:decide ((((List.take (Int.toNat ((q.length:Int)-1)) q).length:Nat):Int)≤(s.length:Int)) with
   | false=>rfl
   | true=>rw[Afn (by omega) (ApH hd)];rfl
theorem Yd {l:List α}[Inhabited α]{c:Bool}{body:Int→Option (Stp Int (Out Bool Unit))}(hl:l.length≤2000000)(hb:∀(i:Nat) (h:i<l.length),body (i:Int)=Bj (p l[i]) (some (.out (.ret c))) (some (.next ((i:Int)+1))))(he:body (l.length:Int)=some (.out (.go ()))) :
  Ba (Cg body FB 0) (Cm λ_=>some (!c))=some (bif l.any p then c else !c):=by
 rw[HI (l:=l) (p:=p) (ret:=λ_=>c) (u:=()) (by show l.length<5000000;omega) hb he,A3,← ER];unfold Wb
 cases l.findIdx? p with
 | none=>rfl
 | some j=>show some c=_;rw[Apr (Int.natCast_nonneg j)];rfl
theorem NN (hl:l.length≤2000000):DE FB l=some (!l.any λx=>!Kd x):=by
 have:=Yd (l:=l) (p:=λx=>!Kd x) (c:=false) (body:=Gm FB l) hl (λi h=>by
  unfold Gm;rw[AO (Apr (by omega)),AI (by omega) (by omega),BF h,Rd,A3,A8 (by omega) (by omega)]) (by unfold Gm;rw[AC (Apq (by omega))])
 unfold DE Hh;refine this.trans ?_
 cases l.any λx=>!Kd x<;>rfl
theorem W7 (hl:l.length≤2000000)(s:Ac):IY FB l s=some (l.any λx=>MG x s):=by
 have:=Yd (l:=l) (p:=λx=>MG x s) (c:=true) (body:=Ku FB l s) hl (λi h=>by
  unfold Ku;rw[AO (Apr (by omega)),AI (by omega) (by omega),BF h,Ym,A3,A8 (by omega) (by omega)]) (by unfold Ku;rw[AC (Apq (by omega))])
 unfold IY LO;refine this.trans ?_
 cases l.any λx=>MG x s<;>rfl
theorem SV {s:Ad}(h:Qv s):G6 FB s=some (RS s):=by
 unfold G6 RS Afl;rw[NN h.a,NN h.r];simp only[Option.isSome_some,C4,C6,DN,Bool.not_not,Bool.or_assoc,GR]
theorem VS {x:Ad}(h:Qv x)(action resource:Ac):Hi FB x action resource=some (decide (RS x=0)&&((x.fActions.any λy=>MG y action)&&(x.fResources.any λy=>MG y resource))):=by
 unfold Hi;rw[SV h,W7 h.a,W7 h.r];simp only[Option.isSome_some,C4,C6,DN];rfl
theorem SU {l:List Ad}(hl:l.length≤2000000)(h:∀x∈l,Qv x)(allow:Bool)(action resource:Ac):NO FB l allow action resource=some (Wb l (We allow action resource)):=by
 unfold NO J8;exact Qe (l:=l) (p:=We allow action resource) (F:=FB) (body:=Il FB l allow action resource) (by show l.length<5000000;omega) (λi hi=>by
  unfold Il We;rw[AO (Apr (by omega)),AI (by omega) (by omega),BF hi,VS (h _ (List.getElem_mem hi)),Option.isSome_some,C4,C6,DN,A8 (by omega) (by omega)]) (by unfold Il;rw[AC (Apq (by omega))])
theorem XP {l:List Ad}(hl:l.length≤2000000)(h:∀x∈l,Qv x)(action resource:Ac):LP FB l action resource=some (AeI l action resource):=by
 unfold LP AeI;rw[SU hl h,SU hl h];simp only[A3,ER,GR]
def Nm (k:Nat):Nat:=2 ^ (32-k)
theorem Abl:∀k:Nat,k<33→Ex FB (k:Int)=some ((Nm k:Nat):Int)∧Pw (k:Int)=(Nm k:Int)-1∧0<Nm k∧Nm k*2 ^ k=4294967296:=by decide +kernel
theorem Aap {a:Nat}(ha:a<9223372036854775808)(hk:k≤62):Aaq .i64 (a:Int) ((2 ^ k-1:Nat):Int)=((a % 2 ^ k:Nat):Int):=by
 have h0:2 ^ k≤2 ^ 62:=Nat.pow_le_pow_right (by decide) hk;have hm:a % 2 ^ k<2 ^ k:=Nat.mod_lt _ (Nat.two_pow_pos k);unfold Aaq;rw[show(IntKind.bits .i64)=64 from rfl,BitVec.ofInt_natCast,BitVec.ofInt_natCast,BitVec.toNat_and,BitVec.toNat_ofNat,BitVec.toNat_ofNat,Nat.mod_eq_of_lt (by omega),Nat.mod_eq_of_lt (by omega),Nat.and_two_pow_sub_one_eq_mod];exact Xq (by omega)
theorem AdD {q:A1}(h:Pg q.fBits 0 32=true):∃k:Nat,k<33∧q.fBits=(k:Int):=by
 unfold Pg at h;simp only[Aps,Apt] at h;exact⟨q.fBits.toNat,by omega,by omega⟩
theorem AdG {n:Int}(h:Pg n 0 4294967295=true):∃a:Nat,a≤4294967295∧n=(a:Int):=by
 unfold Pg at h;simp only[Aps,Apt] at h;exact⟨n.toNat,by omega,by omega⟩
theorem Akn (q:A1):((!(decide (0≤q.fAddr)&&decide (q.fAddr≤4294967295)))||(decide (q.fBits<0)||(decide (32<q.fBits)||((!(decide (1≤q.fLow)&&decide (q.fLow≤65535)))||((!(decide (1≤q.fHigh)&&decide (q.fHigh≤65535)))||decide (q.fHigh<q.fLow))))))=Tw q:=by
 unfold Tw Pg;rw[ApM];simp only[ApD,Ap6,ApN,Apt,Apx];omega
theorem M8 (q:A1):EJ FB q=some (Kf q):=by
 unfold EJ Dt Ey Kf;simp only[Option.isSome_some,C4,C6,DN];rw[Akn]
 cases hb:Tw q with
 | true=>rfl
 | false=>
  have hb2:=hb;unfold Tw at hb2;simp only[ApB,ApX] at hb2;obtain⟨k,hk,e⟩:=AdD hb2.2.1;obtain⟨a,ha,e2⟩:=AdG hb2.1;obtain⟨h1,h2,h3,h4⟩:=Abl k hk;rw[Bi,Apv,e,e2,h1,A3,h2];have hz:((Nm k:Nat):Int)≠0:=by omega
  have ea:Aaq .i64 (a:Int) ((Nm k:Int)-1)=((a % Nm k:Nat):Int):=by
   have:=Aap (a:=a) (k:=32-k) (by omega) (by omega);rw[show((Nm k:Nat):Int)-1=((2 ^ (32-k)-1:Nat):Int) from by show((2 ^ (32-k):Nat):Int)-1=_;have:=Nat.two_pow_pos (32-k);omega];exact this
  rw[ea,BN (by rw[Apq hz];rfl),GR,Int.tmod_eq_emod_of_nonneg (by omega)];rfl
theorem AbD {q:A1}(h:Kf q=0):∃ (k a m:Nat),k<33∧q.fBits=(k:Int)∧q.fAddr=(a:Int)∧a=Nm k*m∧a+Nm k≤4294967296∧1≤q.fLow∧q.fLow≤q.fHigh∧q.fHigh≤65535:=by
 have h0:=M8 q;unfold Kf at h
 cases hb:Tw q with
 | true=>rw[hb] at h;cases h
 | false=>
  have hb2:=hb;unfold Tw at hb2;simp only[ApB,ApX] at hb2;obtain⟨k,hk,e⟩:=AdD hb2.2.1;obtain⟨a,ha,e2⟩:=AdG hb2.1;obtain⟨h1,h2,h3,h4⟩:=Abl k hk;have hp:=hb2.2.2;unfold Pg at hp;simp only[Aps,Apt] at hp;rw[hb,Apv,e,e2,h2] at h;have ea:Aaq .i64 (a:Int) ((Nm k:Int)-1)=((a % Nm k:Nat):Int):=by
   have:=Aap (a:=a) (k:=32-k) (by omega) (by omega);rw[show((Nm k:Nat):Int)-1=((2 ^ (32-k)-1:Nat):Int) from by show((2 ^ (32-k):Nat):Int)-1=_;have:=Nat.two_pow_pos (32-k);omega];exact this
  rw[ea] at h;have hm:a % Nm k=0:=by
   by_cases hm:((a % Nm k:Nat):Int)=0
   ·omega
   ·rw[Apq hm] at h;cases h
  obtain⟨m,hm⟩:=Nat.dvd_of_mod_eq_zero hm;refine⟨k,a,m,hk,e,e2,hm,?_,by omega,by omega,by omega⟩;have hlt:m<2 ^ k:=by
   have h5:Nm k*m<Nm k*2 ^ k:=by rw[← hm,h4];omega
   exact Nat.lt_of_mul_lt_mul_left h5
  have h6:Nm k*(m+1)≤Nm k*2 ^ k:=Nat.mul_le_mul_left _ hlt;rw[h4,Nat.mul_add,Nat.mul_one,← hm] at h6;exact h6
theorem U5 (q:A1)(addr port:Int):J7 FB q addr port=some (XW addr port q):=by
 unfold J7 XW;rw[M8];have e0:decide (ov (some (Kf q))=0)=decide (Kf q=0):=rfl;rw[e0];unfold Dt Ey;simp only[Option.isSome_some,C4,C6,DN]
 by_cases hz:Kf q=0
 ·rw[Apr hz,Ap0,ApJ,Ap7];obtain⟨k,a,m,hk,e,e2,e3,h5,h6,h7,h8⟩:=AbD hz;obtain⟨h1,h2,h3,h4⟩:=Abl k hk;rw[e,e2,h1,h2]
  cases hc:((!(decide (0≤addr)&&decide (addr≤4294967295)))||(!(decide (1≤port)&&decide (port≤65535)))) with
  | true=>
   rw[Cf]
   congr 1
   unfold Pg
   symm
   rw[ApN,ApN,ApN];simp only[ApD,Ap6,ApN,Apx] at hc;simp only[Apx];omega
  | false=>
   simp only[ApB,ApX,Aps,Apt] at hc;obtain⟨b,rfl⟩:∃b:Nat,addr=(b:Int):=⟨addr.toNat,by omega⟩
   have hzz:((Nm k:Nat):Int)≠0:=by omega
   rw[Bi,Option.isSome_some,C6,DN,BN (by rw[Apq hzz];rfl)];rw[Int.tdiv_eq_ediv_of_nonneg (by omega),Int.tdiv_eq_ediv_of_nonneg (by omega)];rw[show((b:Int)/((Nm k:Nat):Int))=((b/Nm k:Nat):Int) from rfl,show((a:Int)/((Nm k:Nat):Int))=((a/Nm k:Nat):Int) from rfl];have d1:b/Nm k≤b:=Nat.div_le_self _ _;have d2:a/Nm k≤a:=Nat.div_le_self _ _;have z1:(0:Int)≤((b/Nm k:Nat):Int):=Int.natCast_nonneg _;have z2:(0:Int)≤((a/Nm k:Nat):Int):=Int.natCast_nonneg _;rw[A8 (by omega) (by omega),A8 (by omega) (by omega)]
   congr 1
   unfold Pg;have e4:a/Nm k=m:=by rw[e3];exact Nat.mul_div_cancel_left m h3
   have key:decide (((b/Nm k:Nat):Int)=((a/Nm k:Nat):Int))=(decide ((a:Int)≤(b:Int))&&decide ((b:Int)≤(a:Int)+(((Nm k:Nat):Int)-1))):=by
    rw[ApM,Aps,Apt,Apt,Apt,e4];have hd:=Nat.div_add_mod b (Nm k);have hm:=Nat.mod_lt b h3;constructor
    ·intro h;have h':b/Nm k=m:=by omega
     rw[h',← e3] at hd;omega
    ·intro h;have h9:Nm k*m≤b:=by omega
     have hb:b<Nm k*(m+1):=by rw[Nat.mul_add,Nat.mul_one,← e3];omega
     have:b/Nm k=m:=by
      refine Nat.le_antisymm (Nat.le_of_lt_succ ((Nat.div_lt_iff_lt_mul h3).2 (by rw[Nat.mul_comm];exact hb))) ((Nat.le_div_iff_mul_le h3).2 (by rw[Nat.mul_comm];exact h9))
     omega
   rw[key]
 ·rw[Apq hz];rfl
theorem VQ {l:List A1}(hl:l.length≤2000000)(addr port:Int):IW FB l addr port=some (Ahl l addr port):=by
 unfold IW Ahl;rw[HI (l:=l) (p:=XW addr port) (ret:=λj:Nat=>(⟨(Af l (j:Int)).fAllow,(j:Int)⟩:Ch)) (u:=()) (body:=GF FB l addr port) (by show l.length<5000000;omega) (λi hi=>by
  unfold GF;rw[AO (Apr (by omega)),AI (by omega) (by omega),U5,A3,A8 (by omega) (by omega),BF hi]) (by unfold GF;rw[AC (Apq (by omega))]),A3]
 cases l.findIdx? (XW addr port)<;>rfl
def ixE (s:Ac)(c:UInt8):Nat:=if 0≤Lib.indexByte s c then(Lib.indexByte s c).toNat else s.length
theorem Ah6 (u:UInt8)(r:Ac)(c:UInt8):ixE (u::r) c=if u=c then 0 else ixE r c+1:=by
 have hg:=(Sb r c).1;unfold ixE;rw[Lib.indexByte]
 by_cases hu:u=c
 ·subst hu;simp
 ·have h1:(u ==c)=false:=by simp[hu]
  rw[h1,ApP hu];simp only[ApL,Aqe]
  by_cases h2:Lib.indexByte r c = -1
  ·rw[h2];simp
  ·have h3:(Lib.indexByte r c == -1)=false:=by simp[h2]
   rw[h3];simp only[ApL,Aqe];rw[ApW (by omega),ApW (by omega)];omega
theorem Zc (u k:UInt8):decide ((u.toNat:Int)=(k.toNat:Int))=decide (u=k):=
 decide_eq_decide.2 ⟨λh=>UInt8.toNat_inj.1 (by omega),λh=>by rw[h]⟩
theorem AlQ (u:UInt8):decide ((u.toNat:Int)=58)=decide (u=58):=Zc u 58
theorem Aiq (u:UInt8):decide ((u.toNat:Int)=46)=decide (u=46):=Zc u 46
theorem Aik {u:UInt8}{r:Ac}(h:s.drop i=u::r):i<s.length∧C0 s (i:Int)=(u.toNat:Int)∧s.drop (i+1)=r:=by
 have hl:i<s.length:=by
  by_cases hl:i<s.length
  ·exact hl
  ·rw[List.drop_of_length_le (by omega)] at h;cases h
 rw[List.drop_eq_getElem_cons hl] at h;injection h with h1 h2
 exact⟨hl,by rw[Acl hl,h1],h2⟩
theorem AkJ (h:s.drop i=[])(hi:i≤s.length):i=s.length:=by
 have:=congrArg List.length h;rw[ApU,Aqh] at this;omega
theorem SS {s:Ac}(hs:s.length≤2000000):∀(r:Ac) (i n:Nat),s.drop i=r→i≤s.length→r.length<n→Cg (λσ=>Gj s σ) n (i:Int)=some (.go ((i+ixE r 58:Nat):Int))
 | [],i,n+1,h,hi,hn=>by
  have hl:=AkJ h hi;rw[Cg];unfold Gj;rw[Apq (by omega : ¬ (i:Int)<(s.length:Int)),UZ,C6,ApO,Bi];rfl
 | u::r,i,n+1,h,hi,hn=>by
  obtain⟨hl,hb,hr⟩:=Aik h;rw[Cg];unfold Gj;rw[Me (by omega) (by omega),C4,C6,Apr (by omega:(i:Int)<(s.length:Int)),Ap7,hb,AlQ,Ah6]
  by_cases hu:u=58
  ·rw[Apr hu,ApW hu];rfl
  ·rw[Apq hu,ApP hu,ApG,Cf,A8 (by omega) (by omega)];have:=SS hs r (i+1) n hr (by omega) (by simpa using hn);refine this.trans ?_;rw[show i+1+ixE r 58=i+(ixE r 58+1) from by omega]
 | r,i,0,h,hi,hn=>by omega
def Aah (p:Ac):List Ac→List Ac
 | q::qs=>(p++q)::qs
 | []=>[]
theorem Ww (r:Ac):De r≠[]:=λh=>by have:=M3 r;rw[h] at this;simp at this
theorem WP (r:Ac):Aah [] (De r)=De r:=by
 cases h:De r with
 | nil=>exact absurd h (Ww r)
 | cons q qs=>rfl
theorem NM {s:Ac}(hs:s.length≤2000000):∀(r:Ac) (i st n:Nat) (out:List Ac),s.drop i=r→st≤i→i≤s.length→out.length≤st→r.length<n→
  Ba (Cg (λσ=>E0 s 46 σ.1 σ.2.1 σ.2.2) n (out,(st:Int),(i:Int))) (Cm λν=>Ks s ν.1 ν.2)=some (out++Aah ((s.drop st).take (i-st)) (De r))
 | [],i,st,n+1,out,h,h1,hi,ho,hn=>by
  have hl:=AkJ h hi;rw[Ln (body:=λσ=>E0 s 46 σ.1 σ.2.1 σ.2.2) (o:=.go (out,(st:Int))) (show E0 s 46 out (st:Int) (i:Int)=_ from by unfold E0;rw[AC (Apq (by omega))]),A3];show Ks s out (st:Int)=_;unfold Ks;rw[CU (by omega) (by omega),BN (show Dl 16 _=true from Apr (by simp only[ApC];omega)),show Int.toNat (st:Int)=st from by omega];rw[List.take_of_length_le (by rw[ApU];omega)];simp[De,Aah]
 | u::r,i,st,n+1,out,h,h1,hi,ho,hn=>by
  obtain⟨hl,hb,hr⟩:=Aik h
  by_cases hu:u=46
  ·have hbody:E0 s 46 out (st:Int) (i:Int)=some (.next (out++[(s.drop st).take (i-st)],((i+1:Nat):Int),((i+1:Nat):Int))):=by
    unfold E0 Kt;rw[AO (Apr (by omega)),AI (by omega) (by omega),hb,Aiq,Apr hu,Cf,CU (by omega) (by omega),CU (by omega) (by omega),BN (show Dl 16 _=true from Apr (by simp only[ApC];omega)),A8 (by omega) (by omega),A8 (by omega) (by omega)];rw[show Int.toNat (i:Int)-Int.toNat (st:Int)=i-st from by omega,show Int.toNat (st:Int)=st from by omega];rfl
   rw[RU (body:=λσ=>E0 s 46 σ.1 σ.2.1 σ.2.2) hbody];refine(NM hs r (i+1) (i+1) n _ hr (Ap8 _) (by omega) (by simp;omega) (by simpa using hn)).trans ?_;have e:De (u::r)=[]::De r:=by rw[De,hu];rfl
   rw[e,Nat.sub_self,List.take_zero,WP];simp[Aah]
  ·have hbody:E0 s 46 out (st:Int) (i:Int)=some (.next (out,(st:Int),((i+1:Nat):Int))):=by
    unfold E0 Kt;rw[AO (Apr (by omega)),AI (by omega) (by omega),hb,Aiq,Apq hu,Bi,A8 (by omega) (by omega)];rfl
   rw[RU (body:=λσ=>E0 s 46 σ.1 σ.2.1 σ.2.2) hbody];refine(NM hs r (i+1) st n out hr (by omega) (by omega) ho (by simpa using hn)).trans ?_;have e:(s.drop st).take (i+1-st)=(s.drop st).take (i-st)++[u]:=by
    rw[show i+1-st=(i-st)+1 from by omega,List.take_add_one];have:(s.drop st)[i-st]? =some u:=by
     rw[List.getElem?_drop,show st+(i-st)=i from by omega];have:=congrArg (λl:Ac=>l[0]?) h;simpa using this
    rw[this];rfl
   rw[e,De,Apq hu,Apv]
   cases h2:De r with
   | nil=>exact absurd h2 (Ww r)
   | cons q qs=>simp[Aah]
 | r,i,st,0,out,h,h1,hi,ho,hn=>by omega
theorem AeG (hs:s.length≤2000000):U7 FB s 46=some (De s):=by
 unfold U7;refine(NM hs s 0 0 FB [] rfl (Ap8 _) (ApY _) (Ap8 _) (by show s.length<5000000;omega)).trans ?_;rw[Nat.sub_self,List.take_zero,WP,Aqm]
theorem Zo {α β R:Type}(ok:α→Bool)(f:β→α→β)(q:R):∀(l:List α) (i:Nat) (a:β),l.all ok=true→RF (λ_ acc x=>bif ok x then Out.go (f acc x) else Out.ret q) i a l=Out.go (l.foldl f a)
 | [],i,a,h=>rfl
 | x::l,i,a,h=>by
  rw[List.all_cons,Aps] at h;rw[RF,h.1];exact Zo ok f q l (i+1) _ h.2
theorem AgS:∀i:Nat,i<4→(256:Int) ^ i≤16777216∧0<(256:Int) ^ i:=by decide
theorem Am8 (p:Ac):((!decide (D1 p=0))||(decide (Cc p<0)||decide (255<Cc p))) = !No p:=by
 unfold No Pg;rw[ApM];simp only[ApD,Ap6,ApN,Apt,Apx];omega
theorem U6 (hs:s.length≤2000000):Lj FB s=some (Rw s):=by
 unfold Lj Rw;rw[AeG hs,A3];have hm:∀p∈De s,p.length≤2000000:=λp hp=>Nat.le_trans (KG hp) hs;generalize De s=l at hm
 by_cases h4:l.length=4
 ·rw[AC (by rw[Apr (by omega)];rfl),Apr h4,Ap7];have hr:=(Kg (l:=l) (mk:=λi acc=>(acc,(i:Int))) (body:=λσ=>E7 l σ.1 σ.2) (fin:=λacc:Int=>acc)
   (λ_ acc p=>bif No p then(.go (256*acc+Cc p):Out (Int×Int) Int) else .ret (0,1)) (λi acc=>0≤acc∧acc<256 ^ i) (λi h acc hP=>by
    have hp:=AgS i (by omega);rw[Int.pow_succ];generalize(256:Int) ^ i=w at hP hp ⊢;refine⟨?_,λb hb=>?_⟩
    ·unfold E7;simp only;rw[AO (Apr (by omega)),AI (by omega) (by omega),BF h,BN (show Dl 1 l[i].length=true from Apr (by have:=hm _ (List.getElem_mem h);omega)),Am8]
     cases ho:No l[i] with
     | false=>rfl
     | true=>
      have hv:=ho;unfold No Pg at hv;simp only[Aps,Apt] at hv;rw[Ap0,Bi,A8 (by omega) (by omega),A8 (by omega) (by omega),A8 (by omega) (by omega)];rfl
    ·cases ho:No l[i] with
     | false=>rw[ho] at hb;cases hb
     | true=>
      rw[ho] at hb;simp only[Ap1,Out.go.injEq] at hb;unfold No Pg at ho;simp only[Aps,Apt] at ho;subst hb;omega) (λacc hP=>by unfold E7;rw[AC (Apq (by omega))]) (F:=FB) (by show l.length<5000000;omega) (a:=(0:Int)) (by decide)).1
  rw[show Cg (λσ=>E7 l σ.1 σ.2) FB (0,0)=_ from hr,A3]
  cases ha:l.all No with
  | false=>rw[X9 No (λ(_:Nat) (acc:Int) p=>256*acc+Cc p) ((0:Int),(1:Int)) l 0 0 ha];rfl
  | true=>rw[Zo No (λ(acc:Int) p=>256*acc+Cc p) ((0:Int),(1:Int)) l 0 0 ha];rfl
 ·rw[AO (by rw[Apq (by omega)];rfl),Apq h4];rfl
def Aii (s:Ac):Int×Int×Bool:=bif (MT s true).2.2 then((MT s true).1,(MT s true).2.1,true) else(0,0,false)
theorem NL (hs:s.length≤2000000):Ik FB s=some (Aii s):=by
 have hb:=Sb s 58;unfold Ik;rw[show(0:Int)=((0:Nat):Int) from rfl,SS hs s 0 FB rfl (ApY _) (by show s.length<5000000;omega),A3,ApQ];show Hf FB s _=_;unfold Hf Aii MT Acf Yy Akg ixE
 by_cases h:0≤Lib.indexByte s 58
 ·rw[ApW h,ApW h,ApW h,Apr h,Ap7,Ap7];rw[AC (Apq (by omega)),CU (by omega) (by omega),U6 (by rw[Aqq];omega),A3,A8 (by omega) (by omega),CU (by omega) (by omega)];rw[show Int.toNat ((((Lib.indexByte s 58).toNat:Nat):Int))=(Lib.indexByte s 58).toNat from by omega,show Int.toNat ((((Lib.indexByte s 58).toNat:Nat):Int)+1)=(Lib.indexByte s 58+1).toNat from by omega];rw[BN (show Dl 1 _=true from Apr (by rw[ApU];omega))];generalize s.drop (Lib.indexByte s 58+1).toNat=p;have e:((!decide ((Rw (s.take (Lib.indexByte s 58).toNat)).2=0))||((!decide (D1 p=0))||(decide (Cc p<1)||decide (65535<Cc p)))) = !(decide ((Rw (s.take (Lib.indexByte s 58).toNat)).2=0)&&(decide (D1 p=0)&&(decide (1≤Cc p)&&decide (Cc p≤65535)))):=by
   rw[ApM];simp only[ApD,Ap6,ApN,Apt,Apx];omega
  rw[e]
  cases decide ((Rw (s.take (Lib.indexByte s 58).toNat)).2=0)&&(decide (D1 p=0)&&(decide (1≤Cc p)&&decide (Cc p≤65535)))<;>rfl
 ·rw[ApP h,Apq h,AO (Apr (by omega))];rfl
theorem WU (hl:l.length≤2000000)(s:Ac):Aas FB l s=some (Wc l s):=by
 have:=Yd (l:=l) (p:=λy=>decide (y=s)) (c:=true) (body:=Mj l s) hl (λi h=>by
  unfold Mj;rw[AO (Apr (by omega)),AI (by omega) (by omega),BF h,A8 (by omega) (by omega)]) (by unfold Mj;rw[AC (Apq (by omega))])
 unfold Aas Oe Wc;refine this.trans ?_;have e:(λy=>decide (s=y))=λy:Ac=>decide (y=s):=by funext y;exact decide_eq_decide.2 eq_comm
 rw[e]
 cases l.any λy=>decide (y=s)<;>rfl
theorem HN (p:Bool)(x:α)(b:Bool)(y:Option α×Bool):(bif p then((some x:Option α),b) else y).1.isSome=(p||y.1.isSome):=by cases p<;>rfl
theorem Nb (op:Ac):Hz FB op=some (HV op).1.isSome:=by
 unfold Hz;rw[WU (by decide),A3]
 congr 1
 unfold HV Wc;rw[HN,HN,HN,HN,HN,HN,HN,HN,HN,HN];simp only[List.any_cons,List.any_nil,Aqc];generalize decide (op=[103,101,116])=a1;generalize decide (op=[112,117,116])=a2;generalize decide (op=[100,101,108,101,116,101])=a3
 cases a1<;>cases a2<;>cases a3<;>first | rfl | simp
theorem AcN (h:G8 MB v):I1 FB v=some (DC v):=W5 h (by decide) (by decide)
theorem RN (hv:G8 MB v):NI FB v=some (bif decide (DC v=0)&&decide ((Af v 0).fKind=4) then((Af v 0).fStr,true) else([],false)):=by
 unfold NI;rw[AcN hv,Option.isSome_some,C6];have e0:decide (ov (some (DC v))=0)=decide (DC v=0):=rfl;rw[e0]
 by_cases h:DC v=0
 ·have hp:=Hv h;rw[Apr h,Me (by omega) (by omega),C4,C6,Ap0,ApJ,Ap7,C6]
  cases decide ((Af v 0).fKind=4)<;>rfl
 ·rw[Apq h];rfl
theorem Z2 (hs:s.length≤2000000)(op:Ac):J6 FB op s=some (bif decide (op=[103,101,116])||(decide (op=[112,117,116])||(decide (op=[100,101,108,101,116,101])||decide (op=[115,105,103,110,97,108]))) then Mf s else bif decide (op=[102,101,116,99,104]) then(MT s true).2.2 else D0 s):=by
 unfold J6;rw[BN (show Dl 1 s.length=true from Apr (by omega)),BN (show Dl 1 s.length=true from Apr (by omega)),NL hs,A3];have e:(Aii s).2.2=(MT s true).2.2:=by unfold Aii;cases(MT s true).2.2<;>rfl
 rw[e,GR,GR]
theorem Al3 (h:DC v=0):decide (0<(Af v 0).fN)=decide (1<(v.length:Int)):=by
 unfold DC at h
 cases hw:whole v with
 | none=>rw[hw] at h;cases h
 | some f=>
  obtain⟨h1,h2,h3⟩:=KB hw;subst h1
  cases f with
  | nil=>cases h3
  | cell k c r=>cases k with
   | some _=>cases h3
   | none=>cases r with
    | nil=>
     simp only[Fo.wf,Aps,Ap6,Apx] at h2;have h4 : ¬ 0<c.fN:=h2.1.2;show decide (0<c.fN)=decide (1<((1:Nat):Int));rw[Apq h4];rfl
    | cell _ _ _=>cases h3
    | node _ _ _ _=>cases h3
  | node k c kids r=>cases k with
   | some _=>cases h3
   | none=>cases r with
    | nil=>
     simp only[Fo.wf,Aps,Apt] at h2;obtain⟨⟨⟨⟨⟨w1,w2⟩,w3⟩,w5⟩,w6⟩,w4⟩:=h2;have hc:=D6 kids;show decide (0<c.fN)=decide (1<(((Fo.node none c kids .nil).flat.length:Nat):Int));rw[Apr w3,Apr];simp only[Fo.flat,C1,Aqm,ApZ,Ap2];omega
    | cell _ _ _=>cases h3
    | node _ _ _ _=>cases h3
theorem Aih (s:Ac)(b:Bool):(MT s b).2.2=(b&&(MT s true).2.2):=by unfold MT;cases b<;>rfl
theorem Acc (hq:S9 q)(hp:0<q.fArgs.length)(he:DC (Af q.fArgs 0)=0)(hn:(decide (q.fOp=([110,111,119]:Ac))||decide (q.fOp=([108,111,103]:Ac)))=false)
  (hk:(decide ((Af (Af q.fArgs 0) 0).fKind=4)&&(bif decide (q.fOp=[103,101,116])||(decide (q.fOp=[112,117,116])||(decide (q.fOp=[100,101,108,101,116,101])||decide (q.fOp=[115,105,103,110,97,108]))) then Mf (Do q) else bif decide (q.fOp=[102,101,116,99,104]) then(MT (Do q) true).2.2 else D0 (Do q)))=G4 k (Af q.fArgs 0))
  {b:Bool} (hb:G4 k (Af q.fArgs 0)=true→(Bj (decide (q.fOp=([116,105,109,101,114]:Ac))) (AM (Cn 1 (q.fArgs.length:Int))<|AM (Cn 0 ((Af q.fArgs 1).length:Int))<|some ((decide (((Af (Af q.fArgs 1) 0).fKind)=3))&&((decide (0≤((Af (Af q.fArgs 1) 0).fInt)))&&(decide (((Af (Af q.fArgs 1) 0).fInt)≤1073741824))))) (AM (imp (!(!decide (q.fOp=([115,105,103,110,97,108]:Ac)))) (Cn 1 (q.fArgs.length:Int)))<|AM (imp (!(!decide (q.fOp=([115,105,103,110,97,108]:Ac)))) ((H0 (Af q.fArgs 1)).isSome))<|some ((!decide (q.fOp=([115,105,103,110,97,108]:Ac)))||(ov (H0 (Af q.fArgs 1))))):Option Bool)=some b) :
  E5 FB q=some (G4 k (Af q.fArgs 0)&&b):=by
 have hA:G8 MB (Af q.fArgs 0):=by have:=hq.at (i:=0) hp;exact this
 have hl:=Hv he;have hs:=hA.str hl;unfold E5;rw[hn,Bi,AI (by omega) (by omega),RN hA,A3,Apr he,Ap7]
 cases hk4:decide ((Af (Af q.fArgs 0) 0).fKind=4) with
 | false=>
  rw[hk4,ApO] at hk;rw[← hk];rfl
 | true=>
  rw[hk4,Ap7] at hk;rw[Ap1];simp only;rw[Z2 (s:=(Af (Af q.fArgs 0) 0).fStr) (by omega),Option.isSome_some,C4,C6,DN];rw[show(Af (Af q.fArgs 0) 0).fStr=Do q from rfl,hk]
  cases hd:G4 k (Af q.fArgs 0) with
  | false=>rfl
  | true=>
   rw[show((!true)||(!true))=false from rfl,Bi,hb hd,Ap7]
theorem AaD (v:List Ab):G4 103 v=(decide ((Af v 0).fKind=4)&&Mf (Af v 0).fStr):=rfl
theorem Ad7 (v:List Ab):G4 104 v=(decide ((Af v 0).fKind=4)&&D0 (Af v 0).fStr):=rfl
theorem AkI (v:List Ab):G4 107 v=(decide ((Af v 0).fKind=4)&&(MT (Af v 0).fStr true).2.2):=Aih _ _
theorem Alj (k:Nat)(hk:decide (k=0)=false)(l:List (List Ab)):IR [k] l=G4 k (Af l 0):=by
 show(!((!decide (k=0)&&!G4 k (Af l 0))||false))=_;rw[hk];cases G4 k (Af l 0)<;>rfl
theorem Alh (k:Nat)(hk:decide (k=0)=false)(l:List (List Ab)):IR [k,0] l=G4 k (Af l 0):=by
 show(!((!decide (k=0)&&!G4 k (Af l 0))||((!decide (0=0)&&!G4 0 (Af l 1))||false)))=_;rw[hk];cases G4 k (Af l 0)<;>rfl
theorem Aje (k j:Nat)(hk:decide (k=0)=false)(hj:decide (j=0)=false)(l:List (List Ab)):IR [k,j] l=(G4 k (Af l 0)&&G4 j (Af l 1)):=by
 show(!((!decide (k=0)&&!G4 k (Af l 0))||((!decide (j=0)&&!G4 j (Af l 1))||false)))=_;rw[hk,hj];cases G4 k (Af l 0)<;>cases G4 j (Af l 1)<;>rfl
theorem Alg (k j:Nat)(hk:decide (k=0)=false)(hj:decide (j=0)=false)(l:List (List Ab)):IR [k,j,0] l=(G4 k (Af l 0)&&G4 j (Af l 1)):=by
 show(!((!decide (k=0)&&!G4 k (Af l 0))||((!decide (j=0)&&!G4 j (Af l 1))||((!decide (0=0)&&!G4 0 (Af l 2))||false))))=_;rw[hk,hj];cases G4 k (Af l 0)<;>cases G4 j (Af l 1)<;>rfl
theorem Akb (hq:S9 q){s:List Nat}(ht:(HV q.fOp).1=some s)(hl:q.fArgs.length=s.length)(hv:∀v∈q.fArgs,DC v=0):E5 FB q=some (IR s q.fArgs):=by
 have he:∀i:Nat,i<q.fArgs.length→DC (Af q.fArgs (i:Int))=0:=λi hi=>hv _ (by rw[BF hi];exact List.getElem_mem hi);have go1:∀k:Nat,decide (k=0)=false→∀b:Bool,(s=[k]∨s=[k,0])→(decide (q.fOp=([110,111,119]:Ac))||decide (q.fOp=([108,111,103]:Ac)))=false→decide (q.fOp=([116,105,109,101,114]:Ac))=false→decide (q.fOp=([115,105,103,110,97,108]:Ac))=false→
   (decide ((Af (Af q.fArgs 0) 0).fKind=4)&&(bif decide (q.fOp=[103,101,116])||(decide (q.fOp=[112,117,116])||(decide (q.fOp=[100,101,108,101,116,101])||decide (q.fOp=[115,105,103,110,97,108]))) then Mf (Do q) else bif decide (q.fOp=[102,101,116,99,104]) then(MT (Do q) true).2.2 else D0 (Do q)))=G4 k (Af q.fArgs 0)→E5 FB q=some (IR s q.fArgs):=by
  intro k hk b hs h1 h2 h3 h4;have hp:0<q.fArgs.length:=by rcases hs with rfl | rfl<;>simp at hl<;>omega
  rw[Acc hq hp (he 0 hp) h1 h4 (b:=true) (λ_=>by rw[h2,h3];rfl),ApT];rcases hs with rfl | rfl
  ·rw[Alj k hk]
  ·rw[Alh k hk]
 rcases OB ht with e | e | e | e | e | e | e | e | e | e
 ·have hs:s=[103]:=by rw[e] at ht;cases ht;rfl
  exact go1 103 rfl true (.inl hs) (by rw[e];rfl) (by rw[e];rfl) (by rw[e];rfl) (by rw[e,AaD];rfl)
 ·have hs:s=[103]:=by rw[e] at ht;cases ht;rfl
  exact go1 103 rfl true (.inl hs) (by rw[e];rfl) (by rw[e];rfl) (by rw[e];rfl) (by rw[e,AaD];rfl)
 ·have hs:s=[103,0]:=by rw[e] at ht;cases ht;rfl
  exact go1 103 rfl true (.inr hs) (by rw[e];rfl) (by rw[e];rfl) (by rw[e];rfl) (by rw[e,AaD];rfl)
 ·have hs:s=[104,0]:=by rw[e] at ht;cases ht;rfl
  exact go1 104 rfl true (.inr hs) (by rw[e];rfl) (by rw[e];rfl) (by rw[e];rfl) (by rw[e,Ad7];rfl)
 ·have hs:s=[104,105,0]:=by rw[e] at ht;cases ht;rfl
  subst hs;have hl3:q.fArgs.length=3:=hl;rw[Alg 104 105 rfl rfl];have h1:=he 1 (by omega);have hp1:0<(Af q.fArgs 1).length:=Hv h1;refine Acc hq (by omega) (he 0 (by omega)) (by rw[e];rfl) (by rw[e,Ad7];rfl) (λ_=>?_);rw[AO (by rw[e];rfl),AI (by omega) (by omega),AI (by omega) (by omega)];rfl
 ·have hs:s=[103,106]:=by rw[e] at ht;cases ht;rfl
  subst hs;have hl3:q.fArgs.length=2:=hl;rw[Aje 103 106 rfl rfl];have h1:=he 1 (by omega);have hp1:0<(Af q.fArgs 1).length:=Hv h1;refine Acc hq (by omega) (he 0 (by omega)) (by rw[e];rfl) (by rw[e,AaD];rfl) (λ_=>?_);have hlist:H0 (Af q.fArgs 1)=some (G4 106 (Af q.fArgs 1)):=by
   unfold H0;have e2:=Al3 (v:=Af q.fArgs 1) h1;rw[AI (by omega) (by omega),e2];show _=some (decide (1<((Af q.fArgs 1).length:Int))&&(decide ((Af (Af q.fArgs 1) 0).fKind=5)&&decide ((Af (Af q.fArgs 1) 1).fKind=4)))
   by_cases h5:1<((Af q.fArgs 1).length:Int)
   ·rw[Apr h5,Me (by omega) (by omega),C4,C4,C6]
    cases decide ((Af (Af q.fArgs 1) 0).fKind=5)<;>rfl
   ·rw[Apq h5,UZ,C4,C6]
    cases decide ((Af (Af q.fArgs 1) 0).fKind=5)<;>rfl
  rw[AC (by rw[e];rfl),hlist,show decide (q.fOp=([115,105,103,110,97,108]:Ac))=true from Apr e,Me (by omega) (by omega),C4,Option.isSome_some,C4,C6,C6,DN];rfl
 ·have hs:s=[104]:=by rw[e] at ht;cases ht;rfl
  exact go1 104 rfl true (.inl hs) (by rw[e];rfl) (by rw[e];rfl) (by rw[e];rfl) (by rw[e,Ad7];rfl)
 ·have hs:s=[107,0]:=by rw[e] at ht;cases ht;rfl
  exact go1 107 rfl true (.inr hs) (by rw[e];rfl) (by rw[e];rfl) (by rw[e];rfl) (by rw[e,AkI];rfl)
 ·have hs:s=[]:=by rw[e] at ht;cases ht;rfl
  subst hs;unfold E5;rw[e];rfl
 ·have hs:s=[0]:=by rw[e] at ht;cases ht;rfl
  subst hs;unfold E5;rw[e];rfl
theorem Ab2 (hq:S9 q){s:List Nat}(ht:(HV q.fOp).1=some s):QJ FB q=some (!AaJ q s):=by
 have hl:=hq.l;have hm:XM q.fOp=some (s.length:Int):=by
  rcases OB ht with e | e | e | e | e | e | e | e | e | e<;>(rw[e] at ht ⊢;cases ht;rfl)
 unfold QJ AaJ;rw[hm,A3]
 cases hx:decide ((q.fArgs.length:Int)=(s.length:Int)) with
 | false=>rfl
 | true=>
  rw[Ap0,Bi,ApJ];have hf:=HI (l:=q.fArgs) (p:=λv=>!decide (DC v=0)) (ret:=λ_=>false) (u:=()) (F:=FB) (body:=HX FB q) (by show q.fArgs.length<5000000;omega) (λi h=>by
   unfold HX;rw[AO (Apr (by omega)),AI (by omega) (by omega),AcN (hq.at h),A3,A8 (by omega) (by omega),BF h]) (by unfold HX;rw[AC (Apq (by omega))])
  rw[show Cg (λσ=>HX FB q σ) FB 0=_ from hf,A3];have e1:=Ol q.fArgs λv=>!decide (DC v=0);have e2:(q.fArgs.any λv=>!decide (DC v=0)) = !(q.fArgs.findIdx? λv=>!decide (DC v=0)).isNone:=by
   rw[e1,List.not_all_eq_any_not];simp only[Bool.not_not]
  rw[e2]
  cases hfi:q.fArgs.findIdx? λv=>!decide (DC v=0) with
  | some j=>rfl
  | none=>
   have hv:∀v∈q.fArgs,DC v=0:=λv hv=>by
    have:=List.findIdx?_eq_none_iff.1 hfi v hv;simpa using this
   show E5 FB q=_;rw[Akb hq ht (by have:=ApH hx;omega) hv,Option.isNone_none,Ap0,ApJ,Bool.not_not]
theorem Ahx {g:Nat→Int}{body:Int→Option (Stp Int (Out Int U))}(hb:∀i:Nat,1≤i→i<N→body (i:Int)=Bj (!decide (g i=0)) (some (.out (.ret (g i)))) (some (.next ((i:Int)+1))))(he:body (N:Int)=some (.out (.go u))) :
  ∀(k n i:Nat),1≤i→i+k=N→k<n→Cg body n (i:Int)=some (bif decide (Dk g i k=0) then .go u else .ret (Dk g i k)):=by
 intro k
 induction k with
 | zero=>
  intro n i h1 h hn;obtain⟨n,rfl⟩:∃m,n=m+1:=⟨n-1,by omega⟩
  obtain rfl:i=N:=by omega
  rw[Cg,he];rfl
 | succ k ih=>
  intro n i h1 h hn;obtain⟨n,rfl⟩:∃m,n=m+1:=⟨n-1,by omega⟩
  rw[Cg,hb i h1 (by omega),Dk]
  cases hg:decide (g i=0) with
  | true=>exact ih n (i+1) (by omega) (by omega) (by omega)
  | false=>simp only[ApG,Cf,Apv,hg]
theorem RO (h:Xm a)(hfl:a.fFunction.length≤2000000):E6 FB a=some (Tz a):=by
 have h0:=h.o;have h1:=h.p;have h2:=h.n;have ht:=h.t;have e5:DM a=some (bif !Lr a.fNow then 2 else 0):=by
  unfold DM Lr;rw[GR];have:(decide (a.fNow<0)||decide (1073741824<a.fNow)) = !(decide (0≤a.fNow)&&decide (a.fNow≤1073741824)):=by
   rw[ApM];simp only[ApD,Ap6,ApN,Apt,Apx];omega
  rw[this]
 have e4:Ek FB a=some (OA (Dk (λi=>Kf (Af a.fNet (i:Int))) 0 a.fNet.length) (bif !Lr a.fNow then 2 else 0)):=by
  unfold Ek;rw[G0 (R:=Unit) (N:=a.fNet.length) (g:=λi=>Kf (Af a.fNet (i:Int))) (K:=DM a) (by show a.fNet.length<5000000;omega) (λi hi=>by
   unfold EO;rw[AO (Apr (by omega)),AI (by omega) (by omega),M8,A3,A8 (by omega) (by omega)]) (by unfold EO;rw[AC (Apq (by omega))]),e5]
  exact KJ _ _
 have e3:El FB a=some (bif decide (32<(a.fPolicy.length:Int))||decide (32<(a.fNet.length:Int)) then 3 else OA (Dk (λi=>RS (Af a.fPolicy (i:Int))) 0 a.fPolicy.length) (OA (Dk (λi=>Kf (Af a.fNet (i:Int))) 0 a.fNet.length) (bif !Lr a.fNow then 2 else 0))):=by
  unfold El;rw[G0 (R:=Unit) (N:=a.fPolicy.length) (g:=λi=>RS (Af a.fPolicy (i:Int))) (K:=Ek FB a) (by show a.fPolicy.length<5000000;omega) (λi hi=>by
   unfold EP;have hm:Qv (Af a.fPolicy (i:Int)):=by rw[BF hi];exact h.st _ (List.getElem_mem hi)
   rw[AO (Apr (by omega)),AI (by omega) (by omega),SV hm,A3,A8 (by omega) (by omega)]) (by unfold EP;rw[AC (Apq (by omega))]),e4,KJ,GR]
 have e2:Em FB a=some (OA (Dk (Ts a) 0 a.fOps.length) (bif decide (32<(a.fPolicy.length:Int))||decide (32<(a.fNet.length:Int)) then 3 else OA (Dk (λi=>RS (Af a.fPolicy (i:Int))) 0 a.fPolicy.length) (OA (Dk (λi=>Kf (Af a.fNet (i:Int))) 0 a.fNet.length) (bif !Lr a.fNow then 2 else 0)))):=by
  unfold Em;have hend:CZ a (a.fOps.length:Int)=some (.out (.go ())):=by unfold CZ;rw[AC (Apq (by omega))]
  rw[e3];rcases Nat.eq_zero_or_pos a.fOps.length with hz | hz
  ·have hb1:CZ a 1=some (.out (.go ())):=by unfold CZ;rw[AC (Apq (by omega))]
   rw[Ln (n:=4999999) (body:=λσ=>CZ a σ) hb1,A3,hz];rfl
  ·obtain⟨m,hm⟩:∃m,a.fOps.length=m+1:=⟨a.fOps.length-1,by omega⟩
   have hf:Dk (Ts a) 0 a.fOps.length=Dk (Ts a) 1 m:=by
    rw[hm,Dk];have:Ts a 0=0:=rfl;rw[this];rfl
   rw[hf,show Cg (λσ=>CZ a σ) FB 1=some (bif decide (Dk (Ts a) 1 m=0) then .go () else .ret (Dk (Ts a) 1 m)) from ?_,A3]
   ·cases hd:decide (Dk (Ts a) 1 m=0) with
    | true=>rw[ApH hd];rfl
    | false=>unfold OA;rw[hd];rfl
   ·refine Ahx (g:=Ts a) (N:=a.fOps.length) (λi h1 hi=>?_) hend m FB 1 (Ap8 _) (by omega) (by show m<5000000;omega);unfold CZ;rw[AO (Apr (by omega)),AI (by omega) (by omega),A8 (by omega) (by omega),AI (by omega) (by omega),A8 (by omega) (by omega),TM (by decide)];unfold Ts;rw[Apr (by omega:0<(i:Int)),Ap7]
 have hnm:∀i:Nat,i<a.fOps.length→En FB a (i:Int)=Bj (!decide (AeN a i=0)) (some (.out (.ret (AeN a i)))) (some (.next ((i:Int)+1))):=λi hi=>by
  unfold En AeN;rw[AO (Apr (by omega)),AI (by omega) (by omega),Nb,A3,A8 (by omega) (by omega),TM (by decide)]
  cases(HV (Af a.fOps (i:Int))).1<;>rfl
 unfold E6 Tz;rw[BN (show Dl 1 a.fTenant.length=true from Apr (by omega))];have hfn:imp (!!D0 a.fTenant) (Dl 1 a.fFunction.length)=true:=by
  rw[show Dl 1 a.fFunction.length=true from Apr (by omega)];exact C4 _
 rw[hfn,C6];rw[G0 (R:=Unit) (N:=a.fOps.length) (g:=AeN a) (K:=Em FB a) (by show a.fOps.length<5000000;omega) hnm (by unfold En;rw[AC (Apq (by omega))]),e2,KJ,GR]
theorem RA:∀a:Ac,Cr a a=false
 | []=>rfl
 | x::a=>by
  show Op.bytesLess (x::a) (x::a)=false;have h : ¬ x<x:=λh=>absurd h (by simp);have ih:Op.bytesLess a a=false:=RA a;simp[Op.bytesLess,h,ih]
theorem X0 (x y:UInt8)(a b:Ac):Cr (x::a) (y::b)=(decide (x<y)||(decide (x=y)&&Cr a b)):=by
 show Op.bytesLess (x::a) (y::b)=_;simp only[Op.bytesLess]
 by_cases h:x<y
 ·simp[h]
 ·by_cases e:x=y
  ·subst e;simp[h]
  ·have:y<x:=by
    rcases Nat.lt_trichotomy x.toNat y.toNat with h1 | h1 | h1
    ·exact absurd (UInt8.lt_iff_toNat_lt.2 h1) h
    ·exact absurd (UInt8.toNat_inj.1 h1) e
    ·exact UInt8.lt_iff_toNat_lt.2 h1
   simp[h,e,this]
theorem NA:∀{a b c:Ac},Cr a b=true→Cr b c=true→Cr a c=true
 | [],[],_,h,_=>by cases h
 | [],_::_,[],_,h=>by cases h
 | [],_::_,_::_,_,_=>rfl
 | _::_,[],_,h,_=>by cases h
 | _::_,_::_,[],_,h=>by cases h
 | x::a,y::b,z::c,h,h'=>by
  rw[X0] at h h' ⊢;simp only[ApD,Apt,Aps] at h h' ⊢;have t:∀{u v:UInt8},u<v↔u.toNat<v.toNat:=UInt8.lt_iff_toNat_lt;rcases h with h | ⟨rfl,h⟩
  ·rcases h' with h' | ⟨rfl,h'⟩
   ·exact .inl (t.2 (Nat.lt_trans (t.1 h) (t.1 h')))
   ·exact .inl h
  ·rcases h' with h' | ⟨rfl,h'⟩
   ·exact .inl h'
   ·exact .inr ⟨rfl,NA h h'⟩
theorem Q9:∀(a b:Ac),Cr a b=true∨a=b∨Cr b a=true
 | [],[]=>.inr (.inl rfl)
 | [],_::_=>.inl rfl
 | _::_,[]=>.inr (.inr rfl)
 | x::a,y::b=>by
  rw[X0,X0];simp only[ApD,Apt,Aps];rcases Nat.lt_trichotomy x.toNat y.toNat with h1 | h1 | h1
  ·exact .inl (.inl (UInt8.lt_iff_toNat_lt.2 h1))
  ·have e:=UInt8.toNat_inj.1 h1;subst e;rcases Q9 a b with h | rfl | h
   ·exact .inl (.inr ⟨rfl,h⟩)
   ·exact .inr (.inl rfl)
   ·exact .inr (.inr (.inr ⟨rfl,h⟩))
  ·exact .inr (.inr (.inl (UInt8.lt_iff_toNat_lt.2 h1)))
variable{b:Ac}
theorem Zg {a:Ac}(h:Cr a b=true):Cr b a=false:=by
 cases h':Cr b a with
 | false=>rfl
 | true=>have:=NA h h';rw[RA] at this;cases this
theorem Ag1 {a:Ac}(h:Cr a b=true):a≠b:=λe=>by subst e;rw[RA] at h;cases h
section
variable {T : Type}
def Ms (xs:List (Ac×T)):Prop:=xs.Pairwise λp q=>Cr p.1 q.1=true
theorem Ms.nil:Ms ([]:List (Ac×T)):=List.Pairwise.nil
theorem Ms.nodup {xs:List (Ac×T)}(h:Ms xs):(xs.map (·.1)).Nodup:=by
 rw[List.Nodup,List.pairwise_map];exact h.imp λhpq=>Ag1 hpq
theorem QT {xs:List (Ac×T)}{k:Ac}:DB xs k=none↔∀p∈xs,p.1≠k:=by
 induction xs with
 | nil=>simp[DB]
 | cons p r ih=>
  rw[DB]
  by_cases h:p.1=k
  ·rw[Apr h];simp[h]
  ·rw[Apq h];simp[h,ih]
theorem VV {xs:List (Ac×T)}{k:Ac}{v:T}(h:DB xs k=some v):(k,v)∈xs:=by
 induction xs with
 | nil=>cases h
 | cons p r ih=>
  rw[DB] at h
  by_cases e:p.1=k
  ·rw[Apr e] at h;cases h;subst e;exact List.mem_cons_self ..
  ·rw[Apq e] at h;exact List.mem_cons_of_mem _ (ih h)
theorem US {xs:List (Ac×T)}{k:Ac}{v:T}(hn:(xs.map (·.1)).Nodup)(h:(k,v)∈xs):DB xs k=some v:=by
 induction xs with
 | nil=>cases h
 | cons p r ih=>
  rw[Aqj,List.nodup_cons] at hn;rw[DB];rcases List.mem_cons.1 h with h | h
  ·subst h;rw[Apr rfl];rfl
  ·have hne : ¬ p.1=k:=λe=>hn.1 (by rw[e];exact List.mem_map.2 ⟨(k,v),h,rfl⟩);rw[Apq hne];exact ih hn.2 h
theorem Afc (xs:List (Ac×T))(k k':Ac)(v:T):DB (mput xs k v) k'=bif decide (k'=k) then(DB xs k).map (λ_=>v) else DB xs k':=by
 induction xs with
 | nil=>cases decide (k'=k)<;>rfl
 | cons p r ih=>
  show DB ((bif decide (p.1=k) then(k,v) else p)::mput r k v) k'=_
  by_cases h:p.1=k
  ·rw[Apr h];simp only[Ap1,DB]
   by_cases e:k'=k
   ·subst e;rw[Apr rfl,h,Apr rfl];rfl
   ·rw[Apq (Ne.symm e),Apq e,ih,Apq e,h,Apq (Ne.symm e)];rfl
  ·rw[Apq h];simp only[Apv,DB];rw[ih]
   by_cases e:k'=k
   ·subst e;rw[Apr rfl,Apq h];rfl
   ·rw[Apq e]
    cases decide (p.1=k')<;>rfl
theorem Afd (xs:List (Ac×T))(k k':Ac)(v:T)(h:DB xs k=none):DB (mins k v xs) k'=bif decide (k'=k) then some v else DB xs k':=by
 induction xs with
 | nil=>
  show(bif decide (k=k') then some v else none)=bif decide (k'=k) then some v else none
  by_cases e:k'=k
  ·rw[Apr e,Apr e.symm]
  ·rw[Apq e,Apq (Ne.symm e)]
 | cons p r ih=>
  rw[DB] at h
  by_cases hk:p.1=k
  ·rw[Apr hk] at h;cases h
  ·rw[Apq hk] at h;rw[mins]
   cases Cr k p.1 with
   | true=>
    simp only[Ap1,DB]
    by_cases e:k'=k
    ·subst e;rw[Apr rfl]
     try rfl
    ·rw[Apq e,Apq (Ne.symm e)]
     try rfl
   | false=>
    simp only[Apv,DB];rw[ih h]
    by_cases e:k'=k
    ·subst e;rw[Apr rfl,Apq hk];rfl
    ·rw[Apq e]
     cases decide (p.1=k')<;>rfl
theorem Afb (xs:List (Ac×T))(k k':Ac)(v:T):DB (mset xs k v) k'=bif decide (k'=k) then some v else DB xs k':=by
 unfold mset Du
 cases h:DB xs k with
 | none=>exact Afd xs k k' v h
 | some w=>
  simp only[Option.isSome_some,Ap1];rw[Afc,h]
  cases decide (k'=k)<;>rfl
theorem ZX {k:Ac}{v:T}{q:Ac×T}:∀{xs:List (Ac×T)},q∈mins k v xs→q=(k,v)∨q∈xs
 | [],h=>by simp[mins] at h;exact .inl h
 | p::r,h=>by
  rw[mins] at h
  cases hs:Cr k p.1 with
  | true=>rw[hs] at h;simpa using h
  | false=>
   rw[hs] at h;rcases List.mem_cons.1 h with h | h
   ·exact .inr (by rw[h];exact List.mem_cons_self ..)
   ·rcases ZX h with h | h
    ·exact .inl h
    ·exact .inr (List.mem_cons_of_mem _ h)
theorem Ms.mins {k:Ac}{v:T}:∀{xs:List (Ac×T)},Ms xs→DB xs k=none→Ms (mins k v xs)
 | [],_,_=>List.pairwise_singleton ..
 | p::r,h,hk=>by
  obtain⟨h1,h2⟩:=List.pairwise_cons.1 h;rw[DB] at hk
  by_cases e:p.1=k
  ·rw[Apr e] at hk;cases hk
  ·rw[Apq e] at hk;rw[Proofs.YtphnhpcjnmmhiaaGreatDoor.mins]
   cases hs:Cr k p.1 with
   | true=>exact List.pairwise_cons.2 ⟨λq hq=>by
     rcases List.mem_cons.1 hq with rfl | hq
     ·exact hs
     ·exact NA hs (h1 q hq),h⟩
   | false=>
    have hp:Cr p.1 k=true:=by
     rcases Q9 p.1 k with h | h | h
     ·exact h
     ·exact absurd h e
     ·rw[h] at hs;cases hs
    exact List.pairwise_cons.2 ⟨λq hq=>by
     rcases ZX hq with rfl | hq
     ·exact hp
     ·exact h1 q hq,Ms.mins h2 hk⟩
theorem Ms.mput {xs:List (Ac×T)}(h:Ms xs)(k:Ac)(v:T):Ms (mput xs k v):=by
 unfold Proofs.YtphnhpcjnmmhiaaGreatDoor.mput;unfold Ms;rw[List.pairwise_map];refine h.imp fun {p q} hpq=>?_;have e:∀p:Ac×T,(bif decide (p.1=k) then(k,v) else p).1=p.1:=λp=>by
  by_cases hp:p.1=k
  ·rw[Apr hp];exact hp.symm
  ·rw[Apq hp];rfl
 rw[e,e];exact hpq
theorem Ms.mset {xs:List (Ac×T)}(h:Ms xs)(k:Ac)(v:T):Ms (mset xs k v):=by
 unfold Proofs.YtphnhpcjnmmhiaaGreatDoor.mset Du
 cases hk:DB xs k with
 | none=>exact h.mins hk
 | some w=>exact h.mput k v
theorem ZT (k:Ac)(v:T)(xs:List (Ac×T)):(mins k v xs).length=xs.length+1:=(OK k v xs).length_eq
theorem SX (xs:List (Ac×T))(k:Ac)(v:T):(mset xs k v).length=bif Du xs k then xs.length else xs.length+1:=by
 unfold mset
 cases Du xs k with
 | true=>simp[mput]
 | false=>simp[ZT]
end
section
variable {T : Type}
def pos:List (Ac×T)→Ac→Nat
 | [],_=>0
 | p::r,k=>bif Cr p.1 k then pos r k+1 else 0
theorem UC {k:Ac}:∀(xs:List (Ac×T)) (x:Nat),x≤xs.length→(∀p∈xs.take x,Cr p.1 k=true)→(∀p,xs[x]? =some p→Cr p.1 k=false)→pos xs k=x
 | [],x,h,_,_=>by simp at h;subst h;rfl
 | p::r,0,_,_,h=>by rw[pos,h p rfl];rfl
 | p::r,x+1,hl,h1,h2=>by
  rw[pos,h1 p (by simp)];simp only[Ap1];rw[UC r x (by simpa using hl) (λq hq=>h1 q (by simp[hq])) (λq hq=>h2 q (by simpa using hq))]
theorem UB {k:Ac}:∀xs:List (Ac×T),pos xs k≤xs.length
 | []=>Ap8 _
 | p::r=>by
  rw[pos]
  cases Cr p.1 k with
  | true=>simpa using UB r
  | false=>exact ApY _
theorem O8 {k:Ac}:∀(xs:List (Ac×T)),Ms xs→
  (DB xs k=match xs[pos xs k]? with
   | some p=>bif decide (p.1=k) then some p.2 else none
   | none=>none)∧
  (∀v,mset xs k v=xs.take (pos xs k)++(k,v)::xs.drop (pos xs k+bif Du xs k then 1 else 0))∧
  (AbG xs k=xs.take (pos xs k)++xs.drop (pos xs k+bif Du xs k then 1 else 0))
 | [],_=>⟨rfl,λv=>rfl,rfl⟩
 | p::r,h=>by
  obtain⟨h1,h2⟩:=List.pairwise_cons.1 h;obtain⟨i1,i2,i3⟩:=O8 (k:=k) r h2;rw[pos]
  cases hs:Cr p.1 k with
  | true=>
   have hne : ¬ p.1=k:=Ag1 hs;have hg:DB (p::r) k=DB r k:=by rw[DB,Apq hne];rfl
   have hh:Du (p::r) k=Du r k:=by unfold Du;rw[hg]
   simp only[Ap1];refine⟨by rw[hg,i1];rfl,λv=>?_,?_⟩
   ·have e:mset (p::r) k v=p::mset r k v:=by
     unfold mset;rw[hh]
     cases Du r k with
     | true=>show(bif decide (p.1=k) then(k,v) else p)::mput r k v=p::mput r k v;rw[Apq hne];rfl
     | false=>
      show mins k v (p::r)=p::mins k v r;rw[mins,Zg hs];rfl
    rw[e,i2 v,hh,show pos r k+1+(bif Du r k then 1 else 0)=(pos r k+(bif Du r k then 1 else 0))+1 from by omega];rfl
   ·have e:AbG (p::r) k=p::AbG r k:=by unfold AbG;rw[List.filter_cons_of_pos (by simp[hne])]
    rw[e,i3,hh,show pos r k+1+(bif Du r k then 1 else 0)=(pos r k+(bif Du r k then 1 else 0))+1 from by omega];rfl
  | false=>
   simp only[Apv]
   by_cases hk:p.1=k
   ·have hg:DB (p::r) k=some p.2:=by rw[DB,Apr hk];rfl
    have hh:Du (p::r) k=true:=by unfold Du;rw[hg];rfl
    have hn:∀q∈r,¬ q.1=k:=λq hq e=>by have:=h1 q hq;rw[e,← hk,RA] at this;cases this
    have e1:∀v,mput r k v=r:=λv=>by
     unfold mput
     conv=>rhs;rw[← List.map_id r]
     refine List.map_congr_left λq hq=>?_;rw[Apq (hn q hq)];rfl
    have e2:AbG r k=r:=List.filter_eq_self.2 λq hq=>by simp[hn q hq]
    refine⟨by rw[hg];show _=bif decide (p.1=k) then some p.2 else none;rw[Apr hk];rfl,λv=>?_,?_⟩
    ·unfold mset;rw[hh];show(bif decide (p.1=k) then(k,v) else p)::mput r k v=_;rw[Apr hk,e1];rfl
    ·rw[hh];show AbG (p::r) k=r;unfold AbG;rw[List.filter_cons_of_neg (by simp[hk])];exact e2
   ·have hlt:Cr k p.1=true:=by
     rcases Q9 p.1 k with h | h | h
     ·rw[h] at hs;cases hs
     ·exact absurd h hk
     ·exact h
    have hn:∀q∈p::r,¬ q.1=k:=λq hq e=>by
     rcases List.mem_cons.1 hq with rfl | hq
     ·exact hk e
     ·have:=NA hlt (h1 q hq);rw[e,RA] at this;cases this
    have hg:DB (p::r) k=none:=QT.2 hn;have hh:Du (p::r) k=false:=by unfold Du;rw[hg];rfl
    refine⟨by rw[hg];show none=bif decide (p.1=k) then some p.2 else none;rw[Apq hk];rfl,λv=>?_,?_⟩
    ·unfold mset;rw[hh];show mins k v (p::r)=_;rw[mins,hlt];rfl
    ·rw[hh];exact List.filter_eq_self.2 λq hq=>by simp[hn q hq]
theorem Zl {xs:List (Ac×T)}{key:Int→Ac}{body:Int→Option (Stp Int (Out R Int))}(hN:xs.length≤2000000)(hk:∀(i:Nat) (h:i<xs.length),key (i:Int)=xs[i].1)
  (hb:∀i,body i=(AM (imp (decide (i<(xs.length:Int))) (Cn i (xs.length:Int)))<|Bj (decide (i<(xs.length:Int))&&Cr (key i) n) (AM (BT .i64 (i+1))<|some (.next (i+1))) (some (.out (.go i))))):Cg body FB 0=some (.go (pos xs n:Int)):=by
 obtain⟨o,h1,h2⟩:=H3 (body:=body) (λx=>0≤x∧x≤(xs.length:Int)∧∀p∈xs.take x.toNat,Cr p.1 n=true) (λx=>xs.length-x.toNat)
  (λo=>o = .go (pos xs n:Int)) (λx ⟨h0,hl,ha⟩=>by
   rw[hb x]
   by_cases hx:x<(xs.length:Int)
   ·have hlt:x.toNat<xs.length:=by omega
    have hat:key x=(xs[x.toNat]).1:=by rw[← hk x.toNat hlt,show((x.toNat:Nat):Int)=x from by omega]
    rw[Me h0 hx,C4,C6,Apr hx,hat,Ap7,A8 (by omega) (by omega)]
    cases hs:Cr (xs[x.toNat]).1 n with
    | true=>
     refine .inl ⟨x+1,rfl,⟨by omega,by omega,λq hq=>?_⟩,by omega⟩;rw[show(x+1).toNat=x.toNat+1 from by omega,List.take_add_one,Apw hlt] at hq;simp only[Option.toList_some,Aqr,Aqb,List.not_mem_nil,or_false] at hq;rcases hq with hq | rfl
     ·exact ha q hq
     ·exact hs
    | false=>
     refine .inr ⟨.go x,rfl,?_⟩;have:=UC xs x.toNat (by omega) ha (λq hq=>by rw[Apw hlt] at hq;cases hq;exact hs);rw[this,show((x.toNat:Nat):Int)=x from by omega]
   ·rw[Apq hx];refine .inr ⟨.go x,rfl,?_⟩;have:=UC (k:=n) xs x.toNat (by omega) ha (λq hq=>by have:=(List.getElem?_eq_some_iff.1 hq).1;omega);rw[this,show((x.toNat:Nat):Int)=x from by omega]) FB 0 ⟨ApA 0,by omega,by simp⟩ (by show xs.length-0<5000000;omega)
 rw[h1,h2]
theorem Yn {xs:List (Ac×T)}(hm:Ms xs)(n:Ac):Du xs n=match xs[pos xs n]? with
  | some p=>decide (p.1=n)
  | none=>false:=by
 obtain⟨g,_,_⟩:=O8 (k:=n) xs hm;unfold Du;rw[g]
 cases xs[pos xs n]? with
 | none=>rfl
 | some p=>simp only;cases decide (p.1=n)<;>rfl
theorem AcR {xs:List (Ac×T)}(hm:Ms xs)(h:Du xs n=true)(z:T):∃hl:pos xs n<xs.length,xs[pos xs n]=(n,Gc xs n z):=by
 obtain⟨g,_,_⟩:=O8 (k:=n) xs hm;have h':=Yn hm n;rw[h] at h'
 cases hp:xs[pos xs n]? with
 | none=>rw[hp] at h';cases h'
 | some p=>
  obtain⟨hl,e⟩:=List.getElem?_eq_some_iff.1 hp;rw[hp] at h' g;simp only at h' g;rw[← h'] at g;refine⟨hl,?_⟩;rw[e];have hk:p.1=n:=ApH h'.symm;unfold Gc;rw[g];show p=(n,p.2);rw[← hk]
end
def KR (l:List (Ac×Bool)):List Ac:=l.map (·.1)
def cvE (n:Ac)(e:AG):Be:=⟨n,e.fText,[],false,0,0,1,KR e.fBound⟩
def Yx (vp:List AG)(p:Ac×Int):Be:=cvE p.1 (Af vp p.2)
structure EnO (e:AG):Prop where
 b:e.fBefore=[]
 v:e.fVersion=1
 m:Ms e.fBound
 t:∀p∈e.fBound,p.2=true
 l:e.fBound.length≤32
structure VW (k:Nat) (v:Bp) (vp:List AG) (w:AP):Prop where
 eq:w=⟨true,v.fSecrets.map (Yx vp)⟩
 ms:Ms v.fSecrets
 nd:∀p∈v.fSecrets,∀q∈v.fSecrets,p.2=q.2→p=q
 ok:∀p∈v.fSecrets,EnO (Af vp p.2)
 vk:VOK v vp
 le:v.fSecrets.length≤k
theorem WI {l:List (Ac×Bool)}(h:∀p∈l,p.2=true)(f:Ac):Gc l f false=Du l f:=by
 unfold Gc Du
 cases hg:DB l f with
 | none=>rfl
 | some b=>have:=h _ (VV hg);simp only at this;subst this;rfl
theorem V2 [Inhabited α][Inhabited β]{f:α→β}{l:List α}(h:i<l.length):Af (l.map f) (i:Int)=f l[i]:=by rw[BF (by simpa using h)];simp
section
variable {k : Nat} {v : Bp} {vp : List AG} {w : AP}
theorem Ug (h:VW k v vp w)(hk:k≤1000)(n:Ac):Wr FB w n=some ((pos v.fSecrets n:Int),Du v.fSecrets n):=by
 have hl:=h.le;have hw:=h.eq;subst hw;have hlen:(v.fSecrets.map (Yx vp)).length=v.fSecrets.length:=by simp
 unfold Wr;rw[show Cg (λσ=>N6 ⟨true,v.fSecrets.map (Yx vp)⟩ n σ) FB 0=some (.go (pos v.fSecrets n:Int)) from Zl (xs:=v.fSecrets) (key:=λx=>(Af (v.fSecrets.map (Yx vp)) x).fName) (by omega) (λi hi=>by rw[V2 hi];rfl) (λi=>by
  unfold N6;rw[hlen]),A3]
 show N5 _ n _=_;unfold N5;rw[hlen,Adr (Int.natCast_nonneg _),C6];have hh:=Yn h.ms n;have hp:=UB (k:=n) v.fSecrets
 congr 2
 by_cases hx:pos v.fSecrets n<v.fSecrets.length
 ·rw[Apw hx] at hh;rw[hh,Apr (by omega:((pos v.fSecrets n:Nat):Int)<(v.fSecrets.length:Int)),Ap7,V2 hx];rfl
 ·rw[List.getElem?_eq_none (by omega)] at hh;rw[hh,Apq (by omega : ¬ ((pos v.fSecrets n:Nat):Int)<(v.fSecrets.length:Int))];rfl
theorem Wq {l:List (Ac×Bool)}(hm:Ms l)(hl:l.length≤1000)(f:Ac):R6 FB (KR l) f=some ((pos l f:Int),Du l f):=by
 have hlen:(KR l).length=l.length:=by simp[KR]
 have hat:∀(i:Nat) (hi:i<l.length),Af (KR l) (i:Int)=l[i].1:=λi hi=>V2 hi;unfold R6;rw[show Cg (λσ=>LH (KR l) f σ) FB 0=some (.go (pos l f:Int)) from Zl (xs:=l) (key:=λx=>Af (KR l) x) (by omega) hat (λi=>by
  unfold LH;rw[hlen]),A3]
 show LG _ f _=_;unfold LG;rw[hlen,Adr (Int.natCast_nonneg _),C6];have hh:=Yn hm f;have hp:=UB (k:=f) l
 congr 2
 by_cases hx:pos l f<l.length
 ·rw[Apw hx] at hh;rw[hh,Apr (by omega:((pos l f:Nat):Int)<(l.length:Int)),Ap7,hat _ hx]
 ·rw[List.getElem?_eq_none (by omega)] at hh;rw[hh,Apq (by omega : ¬ ((pos l f:Nat):Int)<(l.length:Int))];rfl
theorem VW.at (h:VW k v vp w)(hh:Du v.fSecrets n=true):(pos v.fSecrets n:Int)<(w.fSecrets.length:Int)∧Af w.fSecrets (pos v.fSecrets n:Int)=cvE n (Af vp (Gc v.fSecrets n (-1)))∧EnO (Af vp (Gc v.fSecrets n (-1)))∧(n,Gc v.fSecrets n (-1))∈v.fSecrets:=by
 obtain⟨hl,e⟩:=AcR h.ms hh (-1);have hw:=h.eq;subst hw;have hm:(n,Gc v.fSecrets n (-1))∈v.fSecrets:=e▸List.getElem_mem hl;refine⟨by show _<((v.fSecrets.map (Yx vp)).length:Int);rw[Ap9];omega,?_,h.ok _ hm,hm⟩;show Af (v.fSecrets.map (Yx vp)) _=_;rw[V2 hl,e];rfl
def rdS (v:Bp)(vp:List AG)(n f:Ac):Ac×Int×Int:=
 bif Du v.fSecrets n then(bif Du (Af vp (Gc v.fSecrets n (-1))).fBound f then((Af vp (Gc v.fSecrets n (-1))).fText,1,0) else([],0,12)) else([],0,5)
theorem Ox (h:VW k v vp w)(n f:Ac):PL v vp n f=some (rdS v vp n f):=by
 unfold PL rdS;rw[Oy,A3]
 cases hh:Du v.fSecrets n with
 | false=>rfl
 | true=>
  obtain⟨h0,h1⟩:=h.vk.val hh;obtain⟨_,_,he,_⟩:=h.at hh;simp only[Ap1,decide_true,Ap0,Bi];rw[AI h0 h1,WI he.t,he.v]
  cases Du (Af vp (Gc v.fSecrets n (-1))).fBound f<;>rfl
theorem Agk (h:VW k v vp w)(hk:k≤1000)(n f:Ac):Wo FB w n f=some (rdS v vp n f):=by
 have hmd:w.fMade=true:=by rw[h.eq]
 unfold Wo rdS;rw[hmd,Ap0,Bi,Ug h hk,A3]
 cases hh:Du v.fSecrets n with
 | false=>rfl
 | true=>
  obtain⟨h1,h2,he,_⟩:=h.at hh;simp only[Ap0,Bi,Ap1];rw[AI (by omega) h1,h2];show(Ba (R6 FB (KR (Af vp (Gc v.fSecrets n (-1))).fBound) f) λhb=>Bj (!hb.2) (some (([]:Ac),(0:Int),(12:Int))) (some ((Af vp (Gc v.fSecrets n (-1))).fText,(1:Int),(0:Int))))=_;rw[Wq he.m (by have:=he.l;omega),A3]
  cases Du (Af vp (Gc v.fSecrets n (-1))).fBound f<;>rfl
end
def Af9 (c:Int):Bool:=decide (c<33)||decide (126<c)
def Agg (t:Ac):Bool:=!decide (t=[])&&(decide ((t.length:Int)≤200)&&!((GL t).any Af9))
theorem Abs (hs:s.length≤2000000):T9 FB s=some (Agg s):=by
 have e:ML FB (GL s)=some ((GL s).any Af9):=by
  have hl:(GL s).length=s.length:=by simp[GL]
  unfold ML AbN Mc;rw[Qe (l:=GL s) (p:=Af9) (F:=FB) (body:=K1 (GL s)) (by show(GL s).length<5000000;omega) (λi h=>by
   unfold K1 QD;rw[AO (Apr (by omega)),AI (by omega) (by omega),BF h,A3,A8 (by omega) (by omega)];rfl) (by unfold K1;rw[AC (Apq (by omega))]),A3,ER]
 unfold T9 Agg;rw[e,show Dl 1 s.length=true from Apr (by omega)];simp only[Option.isSome_some,C4,C6,DN]
theorem Abh (hs:s.length≤2000000):T3 FB s=some (Agg s):=by
 have hl:(GL s).length=s.length:=by simp[GL]
 have hat:∀(i:Nat) (h:i<(GL s).length),C0 s (i:Int)=(GL s)[i]:=λi h=>by
  rw[Acl (by omega)];simp[GL]
 unfold T3;rw[HI (l:=GL s) (p:=Af9) (ret:=λ_=>false) (u:=()) (body:=IQ s) (by show(GL s).length<5000000;omega) (λi h=>by
  unfold IQ;rw[AO (Apr (by omega)),AI (by omega) (by omega),hat i h,A8 (by omega) (by omega)];rfl) (by unfold IQ;rw[AC (Apq (by omega))]),A3]
 have e:=ER (GL s) Af9;unfold Wb at e;unfold Agg;rw[← e];have hn:(!decide (s=[]))=decide (1≤(s.length:Int)):=by
  cases s with
  | nil=>rfl
  | cons a r=>simp;omega
 rw[hn]
 cases(GL s).findIdx? Af9 with
 | none=>show IP s=_;unfold IP;simp
 | some j=>
  show some false=_;simp
theorem AdF [Inhabited α]{l:List α}{y:α}{i:Int}(h0:0≤i)(h:i<(l.length:Int)):Af (l++[y]) i=Af l i:=by
 obtain⟨m,rfl⟩:∃m:Nat,i=(m:Int):=⟨i.toNat,by omega⟩
 have hm:m<l.length:=by omega
 rw[BF hm,BF (by simp;omega),List.getElem_append_left]
theorem AdE [Inhabited α]{l:List α}{y:α}:Af (l++[y]) (l.length:Int)=y:=by
 have hm:l.length<(l++[y]).length:=by simp
 rw[BF hm];simp
theorem Y1 [Inhabited α]{l:List α}{y:α}{i j:Int}(h0:0≤i)(hi:i<(l.length:Int))(j0:0≤j)(hj:j<(l.length:Int)):Af (l.set i.toNat y) j=if j=i then y else Af l j:=by
 rw[show j=(j.toNat:Int) from by omega,BF (by simp;omega),BF (by omega),List.getElem_set]
 by_cases h:j=i
 ·rw[ApW (by omega),ApW (by omega)]
 ·rw[ApP (by omega),ApP (by omega)]
theorem LX (hm:Ms xs){k:Ac}{v:T}{p:Ac×T}(h:p∈mset xs k v):(p∈xs∧p.1≠k)∨p=(k,v):=by
 obtain⟨_,g2,_⟩:=O8 (k:=k) xs hm;have hnd:=(Ms.mset hm k v).nodup
 by_cases hp:p.1=k
 ·refine .inr ?_;have h1:=US hnd (show(p.1,p.2)∈mset xs k v from h);rw[Afb,Apr hp,Ap1] at h1;have h2:v=p.2:=Option.some.inj h1;rw[h2,← hp]
 ·refine .inl ⟨?_,hp⟩;rw[g2 v] at h;rcases List.mem_append.1 h with h | h
  ·exact List.mem_of_mem_take h
  ·rcases List.mem_cons.1 h with h | h
   ·exact absurd (by rw[h]) hp
   ·exact List.mem_of_mem_drop h
section
variable {k : Nat} {v : Bp} {vp : List AG} {w : AP}
theorem VW.mono {k':Nat}(h:VW k v vp w)(hk:k≤k'):VW k' v vp w:={ h with le:=Nat.le_trans h.le hk }
theorem Alm (h:VW k v vp w)(hk:k≤200){t:Ac}(hn:n.length≤2000000)(ht:t.length≤1048576):∃e v' vp' w',Wz FB v vp n t=some (e,v',vp')∧Ael FB w n t=some (e,w')∧VW (k+1) v' vp' w':=by
 have h':=h.mono (Nat.le_succ k);have hle:=h.le;have hmd:w.fMade=true:=by rw[h.eq]
 unfold Wz;unfold Ael;rw[Oy,A3,Abs (by omega),A3,hmd,Ap0,Bi,BN (show Dl 1 n.length=true from Apr (by omega)),Abh (by omega),A3,Ug h (by omega),A3];have hb:decide ((bif Du v.fSecrets n then(Gc v.fSecrets n (-1),(0:Int)) else(-1,5)).2=10)=false:=by cases Du v.fSecrets n<;>rfl
 rw[hb,Bi]
 cases D0 n with
 | false=>exact⟨_,_,_,_,rfl,rfl,h'⟩
 | true=>
  cases Agg t with
  | false=>exact⟨_,_,_,_,rfl,rfl,h'⟩
  | true=>
   cases hh:Du v.fSecrets n with
   | true=>exact⟨_,_,_,_,rfl,rfl,h'⟩
   | false=>
    simp only[Ap0,Bi,Apv];rw[AC (Apq (by decide)),AC (Apq (by omega))];have hpl:=UB (k:=n) v.fSecrets;have hlen:w.fSecrets.length=v.fSecrets.length:=by rw[h.eq];simp
    rw[hlen,AC (Apq (by omega)),CU (by omega) (by omega),BN (show Dl 104 _=true from Apr (by simp;omega)),BN (show Dl 104 _=true from Apr (by simp;omega)),BN (show Dl 104 _=true from Apr (by simp;omega))];refine⟨_,_,_,_,rfl,rfl,?_⟩;have hvk:VOK ⟨mset v.fSecrets n (vp.length:Int)⟩ (vp++[(AG.mk t ([]:Ac) 1 0 0 ([]:List (Ac×Bool)))]):=by
     refine⟨λp hp=>?_,λe he=>?_⟩
     ·rcases LX h.ms hp with⟨hp,_⟩ | rfl
      ·have:=h.vk.ix p hp;simp only[Apz,ApC];omega
      ·simp only[Apz,ApC];omega
     ·rcases List.mem_append.1 he with he | he
      ·exact h.vk.tx e he
      ·simp only[ApF] at he;subst he;exact⟨ht,by simp⟩
    obtain⟨_,g2,_⟩:=O8 (k:=n) v.fSecrets h.ms;have hcv:∀p∈v.fSecrets,Yx (vp++[(AG.mk t ([]:Ac) 1 0 0 ([]:List (Ac×Bool)))]) p=Yx vp p:=λp hp=>by
     have:=h.vk.ix p hp;unfold Yx;rw[AdF this.1 this.2]
    refine⟨?_,Ms.mset h.ms n _,λp hp q hq he=>?_,λp hp=>?_,hvk,?_⟩
    ·have e:=g2 (vp.length:Int);rw[hh,Apv,Nat.add_zero] at e;show(⟨true,_⟩:AP)=⟨true,(mset v.fSecrets n (vp.length:Int)).map _⟩;rw[e,List.map_append,Aqj]
     congr 1
     have e1:(v.fSecrets.take (pos v.fSecrets n)).map (Yx (vp++[(AG.mk t ([]:Ac) 1 0 0 ([]:List (Ac×Bool)))]))=List.take (Int.toNat ((pos v.fSecrets n:Nat):Int)) w.fSecrets:=by
      rw[h.eq,show Int.toNat ((pos v.fSecrets n:Nat):Int)=pos v.fSecrets n from by omega,← List.map_take];exact List.map_congr_left λp hp=>hcv p (List.mem_of_mem_take hp)
     have e2:(v.fSecrets.drop (pos v.fSecrets n)).map (Yx (vp++[(AG.mk t ([]:Ac) 1 0 0 ([]:List (Ac×Bool)))]))=List.drop (Int.toNat ((pos v.fSecrets n:Nat):Int)) w.fSecrets:=by
      rw[h.eq,show Int.toNat ((pos v.fSecrets n:Nat):Int)=pos v.fSecrets n from by omega,← List.map_drop];exact List.map_congr_left λp hp=>hcv p (List.mem_of_mem_drop hp)
     rw[e1,e2];have e3:Yx (vp++[(AG.mk t ([]:Ac) 1 0 0 ([]:List (Ac×Bool)))]) (n,(vp.length:Int))=(Be.mk n t ([]:Ac) false 0 0 1 ([]:List Ac)):=by
      unfold Yx;rw[show((n,(vp.length:Int)):Ac×Int).2=(vp.length:Int) from rfl,AdE];rfl
     rw[e3];simp
    ·rcases LX h.ms hp with⟨hp,_⟩ | rfl<;>rcases LX h.ms hq with⟨hq,_⟩ | rfl
     ·exact h.nd p hp q hq he
     ·have:=h.vk.ix p hp;simp only at he;omega
     ·have:=h.vk.ix q hq;simp only at he;omega
     ·rfl
    ·rcases LX h.ms hp with⟨hp,_⟩ | rfl
     ·have:=h.vk.ix p hp;rw[AdF this.1 this.2];exact h.ok p hp
     ·show EnO (Af _ (vp.length:Int));rw[AdE];exact⟨rfl,rfl,Ms.nil,by simp,by simp⟩
    ·show(mset v.fSecrets n _).length≤k+1;rw[SX,hh];simp;omega
theorem Akl (h:VW k v vp w)(hk:k≤200){f:Ac}(hf:f.length≤2000000):∃e v' vp' w',RE v vp n f=some (e,v',vp')∧Wu FB w n f=some (e,w')∧VW k v' vp' w':=by
 have hle:=h.le;have hmd:w.fMade=true:=by rw[h.eq]
 unfold RE;unfold Wu;rw[Oy,A3,hmd,Ap0,Bi,Ug h (by omega),A3]
 cases hh:Du v.fSecrets n with
 | false=>exact⟨_,_,_,_,rfl,rfl,h⟩
 | true=>
  obtain⟨h0,h1⟩:=h.vk.val hh;obtain⟨a1,a2,he,hm⟩:=h.at hh;obtain⟨hlt,hget⟩:=AcR h.ms hh (-1);simp only[Ap1,decide_true,Ap0,Bi];rw[BN (show Dl 1 f.length=true from Apr (by omega))]
  cases D0 f with
  | false=>exact⟨_,_,_,_,rfl,rfl,h⟩
  | true=>
   simp only[Ap0,Bi];rw[AI h0 h1,AI (by omega) a1,a2];generalize hidx:Gc v.fSecrets n (-1)=i at *;have hd:=he.l;rw[WI he.t,show(cvE n (Af vp i)).fBound=KR (Af vp i).fBound from rfl,Wq he.m (by omega),A3];have hkl:(KR (Af vp i).fBound).length=(Af vp i).fBound.length:=by simp[KR]
   cases hb:Du (Af vp i).fBound f with
   | true=>exact⟨_,_,_,_,rfl,rfl,h⟩
   | false=>
    simp only[Bi]
    by_cases hg:(Af vp i).fBound.length=32
    ·rw[AO (Apr (by omega)),hkl,AO (Apr (by omega))];exact⟨_,_,_,_,rfl,rfl,h⟩
    ·have hpl:=UB (k:=f) (Af vp i).fBound;rw[AC (Apq (by omega)),hkl,AC (Apq (by omega)),CU (by omega) (by omega),BN (show Dl 16 _=true from Apr (by simp;omega)),BN (show Dl 16 _=true from Apr (by simp;omega)),BN (show Dl 16 _=true from Apr (by simp;omega)),V0];refine⟨_,_,_,_,rfl,rfl,?_⟩;have hbm:=Ms.mset he.m f true;have hen:EnO (AG.mk ((Af vp i).fText) ((Af vp i).fBefore) ((Af vp i).fVersion) ((Af vp i).fUntil) ((Af vp i).fNow) (mset ((Af vp i).fBound) f true)):=
      ⟨he.b,he.v,hbm,λp hp=>by
       rcases LX he.m hp with⟨hp,_⟩ | rfl
       ·exact he.t p hp
       ·rfl,by show(mset _ f true).length≤32;rw[SX,hb];simp;omega⟩
     have hvk:VOK v (List.set vp (Int.toNat i) (AG.mk ((Af vp i).fText) ((Af vp i).fBefore) ((Af vp i).fVersion) ((Af vp i).fUntil) ((Af vp i).fNow) (mset ((Af vp i).fBound) f true))):=
      ⟨λp hp=>by rw[List.length_set];exact h.vk.ix p hp,λe hx=>by
       rcases List.mem_or_eq_of_mem_set hx with hx | hx
       ·exact h.vk.tx e hx
       ·subst hx;exact h.vk.at h0 h1⟩
     refine⟨?_,h.ms,h.nd,λp hp=>?_,hvk,hle⟩
     ·show(⟨true,_⟩:AP)=⟨true,_⟩
      congr 1
      have hkeys:KR (mset (Af vp i).fBound f true)=((([]:List Ac)++List.take (Int.toNat ((pos (Af vp i).fBound f:Nat):Int)) (KR (Af vp i).fBound))++([f]:List Ac))++List.drop (Int.toNat ((pos (Af vp i).fBound f:Nat):Int)) (KR (Af vp i).fBound):=by
       obtain⟨_,g2,_⟩:=O8 (k:=f) (Af vp i).fBound he.m;rw[g2 true,hb,show Int.toNat ((pos (Af vp i).fBound f:Nat):Int)=pos (Af vp i).fBound f from by omega];simp[KR,List.map_take,List.map_drop]
      rw[← hkeys,h.eq];refine List.ext_getElem? λj=>?_;rw[Aqs,ApI,ApI,show Int.toNat ((pos v.fSecrets n:Nat):Int)=pos v.fSecrets n from by omega];have hlm:(v.fSecrets.map (Yx vp)).length=v.fSecrets.length:=by simp
      by_cases hj:pos v.fSecrets n=j
      ·subst hj;rw[ApW rfl,ApW (by rw[hlm];exact hlt),Apw hlt,hget];show some _=some (Yx _ (n,i));unfold Yx;rw[Y1 h0 h1 h0 h1,ApW rfl,he.v];simp only[cvE,he.b]
      ·rw[ApP hj]
       cases hp:v.fSecrets[j]? with
       | none=>rfl
       | some p=>
        obtain⟨hjl,hpe⟩:=List.getElem?_eq_some_iff.1 hp;have hpm:p∈v.fSecrets:=Ap4 hp;have hix:=h.vk.ix p hpm;show some (Yx vp p)=some (Yx _ p);have hne:p.2≠i:=λe=>by
         have e2:=h.nd p hpm (n,i) hm e;have hpw:=List.pairwise_iff_getElem.1 h.ms;have hirr:=RA n;rcases Nat.lt_or_ge j (pos v.fSecrets n) with hlt2 | hge
         ·have:=hpw j (pos v.fSecrets n) hjl hlt hlt2;rw[hpe,hget,e2] at this;simp only at this;rw[hirr] at this;cases this
         ·have:=hpw (pos v.fSecrets n) j hlt hjl (by omega);rw[hpe,hget,e2] at this;simp only at this;rw[hirr] at this;cases this
        unfold Yx;rw[Y1 h0 h1 hix.1 hix.2,ApP hne]
     ·have hix:=h.vk.ix p hp;rw[Y1 h0 h1 hix.1 hix.2]
      by_cases e:p.2=i
      ·rw[ApW e];exact hen
      ·rw[ApP e];exact h.ok p hp
end
theorem Aae {x:Co}(hx:x.fNone=false)(hs:∀s∈x.fSecrets,SeA s):∃r,NX FB x=some r∧VW 20 r.1.1 r.1.2 r.2:=by
 obtain⟨o,h1,h2⟩:=H3 (body:=λσ:Int×Bool×List Be×List (Ac×Int)×List AG=>EQ FB x σ.1 σ.2.1 σ.2.2.1 σ.2.2.2.1 σ.2.2.2.2) (λσ=>0≤σ.1∧σ.1≤20∧VW σ.1.toNat ⟨σ.2.2.2.1⟩ σ.2.2.2.2 ⟨σ.2.1,σ.2.2.1⟩) (λσ=>(20-σ.1).toNat) (λo=>∃b l m e,o = .go (b,l,m,e)∧VW 20 ⟨m⟩ e ⟨b,l⟩) (λσ hI=>by
  obtain⟨i,b,l,m,e⟩:=σ;obtain⟨i0,i1,i2⟩:=hI;simp only at i0 i1 i2;show(∃s',EQ FB x i b l m e=some (.next s')∧_)∨∃o,EQ FB x i b l m e=some (.out o)∧_;unfold EQ
  cases hc:(decide (i<(x.fSecrets.length:Int))&&decide (i<20)) with
  | false=>exact .inr ⟨_,rfl,b,l,m,e,rfl,i2.mono (by omega)⟩
  | true=>
   simp only[Aps,Apt] at hc;have hm:SeA (Af x.fSecrets i):=by
    rw[show i=(i.toNat:Int) from by omega,BF (by omega)];exact hs _ (List.getElem_mem _)
   obtain⟨e1,v1,p1,w1,q1,q2,k1⟩:=Alm i2 (by omega) (n:=(Af x.fSecrets i).fName) hm.n hm.t;obtain⟨e3,v3,p3,w3,q3,q4,k3⟩:=Akl k1 (by omega) (n:=(Af x.fSecrets i).fName) (f:=(Af x.fSecrets i).fFunction) hm.f;rw[Cf,AI i0 hc.1,q1,A3,q2,A3];simp only;rw[q3,A3,q4,A3,A8 (by omega) (by omega)];refine .inl ⟨_,rfl,⟨by show 0≤i+1;omega,by show i+1≤20;omega,?_⟩,by show(20-(i+1)).toNat<(20-i).toNat;omega⟩;show VW (i+1).toNat v3 p3 w3;rw[show(i+1).toNat=i.toNat+1 from by omega];exact k3) FB (0,true,[],[],[]) ⟨by decide,by decide,⟨rfl,Ms.nil,by simp,by simp,⟨by simp,by simp⟩,by simp⟩⟩ (by decide)
 obtain⟨b,l,m,e,rfl,h3⟩:=h2;refine⟨((⟨m⟩,e),⟨b,l⟩),?_,h3⟩;unfold NX;rw[AC hx];show Ba (Cg (λσ:Int×Bool×List Be×List (Ac×Int)×List AG=>EQ FB x σ.1 σ.2.1 σ.2.2.1 σ.2.2.2.1 σ.2.2.2.2) FB (0,true,[],[],[])) _=_;rw[h1,A3];rfl
def RG (R:Ac→Int):Nat→Ac→Ac
 | 0,_=>[]
 | m+1,s=>match s with
  | []=>[]
  | c::r=>bif decide (R (c::r)=0) then c::RG R m r else[42,42,42]++RG R m ((c::r).drop (R (c::r)).toNat)
theorem Zt (R:Ac→Int)(m:Nat):RG R m []=[]:=by cases m<;>rfl
def vR (v:Bp)(vp:List AG)(s:Ac):Int:=Ta s vp v.fSecrets 0
section
variable {k : Nat} {v : Bp} {vp : List AG} {w : AP}
theorem Agl (s:Ac):0≤vR v vp s∧vR v vp s≤(s.length:Int):=Aab s vp v.fSecrets 0 (ApA _) (by omega)
theorem AgD (h:VOK v vp){c:UInt8}{r out:Ac}(ho:out.length≤100000000)(hl:(c::r).length≤100000000) :
  Eg FB v vp (c::r) out=some (.next (bif decide (vR v vp (c::r)=0) then(r,out++[c]) else((c::r).drop (vR v vp (c::r)).toNat,out++[42,42,42]))):=by
 obtain⟨b0,b1⟩:=Agl (v:=v) (vp:=vp) (c::r);unfold Eg;rw[AO (by simp)];refine Aly λord hperm=>?_;rw[AcI h (c::r) ord 0 (λp hp=>hperm.mem_iff.1 hp) (ApA _),A3,AbI (c::r) vp hperm];show GZ (c::r) out (vR v vp (c::r))=_;generalize vR v vp (c::r)=N at b0 b1;unfold GZ
 by_cases hN:N=0
 ·have hbat:=AlR (c::r) 0;have hb0:C0 (c::r) 0=(c.toNat:Int):=rfl;rw[AO (Apr hN),AI (by omega) (by simp),BN (show Dl 1 _=true from Apr (by omega)),JU hbat.1 hbat.2,V0,CU (by omega) (by simp;omega),hb0,Apr hN];have:UInt8.ofNat (Int.toNat (c.toNat:Int))=c:=by rw[show Int.toNat (c.toNat:Int)=c.toNat from by omega];simp
  rw[this];rfl
 ·rw[AC (Apq hN),BN (show Dl 1 _=true from Apr (by simp;omega)),V0,CU (by omega) (by omega),Apq hN];rfl
theorem XB (h:VOK v vp):∀(m:Nat) (s out:Ac) (F:Nat),s.length≤m→m<F→out.length+3*s.length≤100000000→Cg (λσ=>Eg FB v vp σ.1 σ.2) F (s,out)=some (.go (out++RG (vR v vp) m s))
 | m,[],out,F+1,hm,hF,ho=>by
  have hb:(λσ:Ac×Ac=>Eg FB v vp σ.1 σ.2) ([],out)=some (.out (.go out)):=by
   show Eg FB v vp [] out=_;unfold Eg;rfl
  rw[Ln (body:=λσ:Ac×Ac=>Eg FB v vp σ.1 σ.2) hb,Zt,ApZ]
 | m+1,c::r,out,F+1,hm,hF,ho=>by
  obtain⟨b0,b1⟩:=Agl (v:=v) (vp:=vp) (c::r);have hl:(c::r).length=r.length+1:=rfl;have hst:=AgD h (c:=c) (r:=r) (out:=out) (by omega) (by omega);rw[RU (body:=λσ:Ac×Ac=>Eg FB v vp σ.1 σ.2) hst,RG]
  by_cases hN:vR v vp (c::r)=0
  ·rw[Apr hN,Ap1,Ap1];refine(XB h m r (out++[c]) F (by omega) (by omega) (by simp;omega)).trans ?_;simp
  ·rw[Apq hN,Apv,Apv];have hd:((c::r).drop (vR v vp (c::r)).toNat).length=r.length+1-(vR v vp (c::r)).toNat:=by rw[ApU];rfl
   refine(XB h m _ (out++[42,42,42]) F (by omega) (by omega) (by simp only[Apz,Ap2,Aqh];omega)).trans ?_;simp
 | 0,c::r,out,F,hm,hF,ho=>by simp at hm
 | m,s,out,0,hm,hF,ho=>by omega
theorem AgE (R:Ac→Int){m:Nat}(hs:s≠[])(hm:s.length≤m):0<(RG R m s).length:=by
 cases s with
 | nil=>exact absurd rfl hs
 | cons c r=>
  obtain⟨m,rfl⟩:∃q,m=q+1:=⟨m-1,by simp at hm;omega⟩
  rw[RG]
  cases decide (R (c::r)=0)<;>simp
theorem Zh (h:VOK v vp)(hs:s≠[])(hl:s.length≤2000000):LJ FB v vp s=some (RG (vR v vp) s.length s):=by
 unfold LJ;rw[XB h s.length s [] FB (Ap8 _) (by show s.length<5000000;omega) (by simp;omega),A3];show J4 ([]++RG _ _ s)=_;rw[Aqm];unfold J4;rw[BN (Apr (AgE _ hs (Ap8 _)))]
theorem Aau {T:Ac}{j:Nat}(hj:j≤s.length):(decide ((T.length:Int)≤(s.length:Int)-(j:Int))&&decide (List.take (Int.toNat ((j:Int)+(T.length:Int))-Int.toNat (j:Int)) (List.drop (Int.toNat (j:Int)) s)=T))=Ic (s.drop j) T:=by
 unfold Ic;rw[show Int.toNat ((j:Int)+(T.length:Int))-Int.toNat (j:Int)=T.length from by omega,show Int.toNat (j:Int)=j from by omega];have:decide ((T.length:Int)≤(s.length:Int)-(j:Int))=decide (T.length≤(s.drop j).length):=by
  rw[ApU];exact decide_eq_decide.2 (by omega)
 rw[this]
theorem AkW (s:Ac):wT s []=0:=by unfold wT Ic;simp
theorem Afj (h:VW k v vp w)(hs:s.length≤2000000){j:Nat}(hj:j≤s.length)(hi:i<v.fSecrets.length){n:Int}(hn:0≤n)(hn2:n≤2000000)(hk:k≤1000) :
  EL w s (j:Int) n (i:Int)=some (.next (max n (wR (s.drop j) vp v.fSecrets[i].2),((i+1:Nat):Int))):=by
 have hle:=h.le;have hmem:=List.getElem_mem hi;have hok:=h.ok _ hmem;have htx:=h.vk.at (h.vk.ix _ hmem).1 (h.vk.ix _ hmem).2;have hlen:w.fSecrets.length=v.fSecrets.length:=by rw[h.eq];simp
 have hat:Af w.fSecrets (i:Int)=cvE v.fSecrets[i].1 (Af vp v.fSecrets[i].2):=by rw[h.eq];exact V2 hi
 unfold EL;rw[hlen,AO (Apr (by omega)),AI (by omega) (by omega),hat];unfold wR;rw[hok.b,AkW];show(AM _ _:Option (Stp (Int×Int) (Out Int Int)))=_;have hp:(cvE v.fSecrets[i].1 (Af vp v.fSecrets[i].2)).fPrevious=[]:=rfl;have ht:(cvE v.fSecrets[i].1 (Af vp v.fSecrets[i].2)).fText=(Af vp v.fSecrets[i].2).fText:=rfl;rw[hp,ht];have hT:=htx.1;generalize(Af vp v.fSecrets[i].2).fText=T at hT ⊢;have hj2:∀m:Int,Gs (i:Int) m=some (.next (m,((i+1:Nat):Int))):=λm=>by
  unfold Gs;rw[A8 (by omega) (by omega)];rfl
 have hd1:decide ((T.length:Int)<(([]:Ac).length:Int))=false:=Apq (by simp);have hd2:decide (n<(([]:Ac).length:Int))=false:=Apq (by simp;omega);have c1:imp (decide (n<(T.length:Int))) (BT .i64 ((s.length:Int)-(j:Int)))=true:=by rw[I6 (by omega) (by omega)];exact C4 _
 have c2:imp (decide (n<(T.length:Int))) (imp (decide ((T.length:Int)≤(s.length:Int)-(j:Int))) (BT .i64 ((j:Int)+(T.length:Int))))=true:=by rw[I6 (by omega) (by omega),C4];exact C4 _
 have c3:imp (decide (n<(T.length:Int))) (imp (decide ((T.length:Int)≤(s.length:Int)-(j:Int))) (IG (j:Int) ((j:Int)+(T.length:Int))))=true:=by rw[Afn (by omega) (by omega),C4];exact C4 _
 have c4:imp (decide (n<(T.length:Int))) (imp (decide ((T.length:Int)≤(s.length:Int)-(j:Int))) (IG ((j:Int)+(T.length:Int)) (s.length:Int)))=true:=by
  by_cases hq:(T.length:Int)≤(s.length:Int)-(j:Int)
  ·rw[Afn (by omega) (by omega),C4,C4]
  ·rw[Apq hq,UZ,C4]
 refine(BN c1).trans ((BN c2).trans ((BN c3).trans ((BN c4).trans ?_)));have hz:∀(m:Int) (A B C D:Bool) (E:Bool) (X Y:Option (Stp (Int×Int) (Out Int Int))) (q:Bool),q=false→(AM (imp q A)<|AM (imp q B)<|AM (imp q C)<|AM (imp q D)<|Bj (q&&E) X Y)=Y:=λm A B C D E X Y q hq=>by subst hq;rfl
 rw[hz 0 _ _ _ _ _ _ _ _ hd1,hz 0 _ _ _ _ _ _ _ _ hd2,hj2,hj2,Aau hj];unfold wT
 cases hpre:Ic (s.drop j) T with
 | false=>
  rw[Aqa,Bi,Apv]
  congr 3
  omega
 | true=>
  rw[ApT,Ap1]
  by_cases hq:n<(T.length:Int)
  ·rw[Apr hq,Cf]
   congr 3
   omega
  ·rw[Apq hq,Bi]
   congr 3
   omega
theorem Za (h:VW k v vp w)(hk:k≤1000)(hs:s.length≤2000000){j:Nat}(hj:j≤s.length):Q7 FB w s (j:Int)=some (vR v vp (s.drop j)):=by
 have hle:=h.le;have hlen:w.fSecrets.length=v.fSecrets.length:=by rw[h.eq];simp
 have hdl:(s.drop j).length≤s.length:=by rw[ApU];omega
 unfold Q7;have hr:=(Kg (R:=Int) (l:=v.fSecrets) (mk:=λi acc=>(acc,(i:Int))) (body:=λσ=>EL w s (j:Int) σ.1 σ.2) (fin:=λacc:Int=>acc)
  (λ_ acc p=>(.go (max acc (wR (s.drop j) vp p.2)):Out Int Int)) (λ_ acc=>0≤acc∧acc≤((s.drop j).length:Int)) (λi hi acc hP=>by
   refine⟨Afj h hs hj hi hP.1 (by omega) hk,λb hb=>?_⟩;simp only[Out.go.injEq] at hb;subst hb;have b1:=Wm (s.drop j) (Af vp v.fSecrets[i].2).fText;have b2:=Wm (s.drop j) (Af vp v.fSecrets[i].2).fBefore;unfold wR;omega) (λacc _=>by show EL w s (j:Int) acc _=_;unfold EL;rw[AC (Apq (by omega))]) (F:=FB) (by show v.fSecrets.length<5000000;omega) (a:=(0:Int)) ⟨ApA _,by omega⟩).1
 rw[show Cg (λσ=>EL w s (j:Int) σ.1 σ.2) FB (0,0)=_ from hr,A3,Lh (λ(acc:Int) (p:Ac×Int)=>max acc (wR (s.drop j) vp p.2))];rfl
theorem XA (h:VW k v vp w)(hk:k≤1000){s:Ac}(hs:s.length≤2000000):∀(m:Nat) (j:Nat) (out:Ac) (F:Nat),j≤s.length→s.length-j≤m→m<F→out.length≤3*j→Cg (λσ=>Er FB w s σ.1 σ.2) F (out,(j:Int))=some (.go (out++RG (vR v vp) m (s.drop j)))
 | m,j,out,0,hj,hm,hF,ho=>by omega
 | m,j,out,F+1,hj,hm,hF,ho=>by
  by_cases hx:j<s.length
  ·obtain⟨m,rfl⟩:∃q,m=q+1:=⟨m-1,by omega⟩
   obtain⟨c,r,hd⟩:∃c r,s.drop j=c::r:=⟨s[j],s.drop (j+1),List.drop_eq_getElem_cons hx⟩
   obtain⟨_,_,hdr⟩:=Aik hd;have hll:(s.drop j).length=s.length-j:=ApU;obtain⟨b0,b1⟩:=Agl (v:=v) (vp:=vp) (s.drop j);have hstep:Er FB w s out (j:Int)=some (.next (bif decide (vR v vp (s.drop j)=0) then(out++[c],((j+1:Nat):Int)) else(out++[42,42,42],((j+(vR v vp (s.drop j)).toNat:Nat):Int)))):=by
    unfold Er;rw[AO (Apr (by omega)),Za h hk hs hj,A3];generalize vR v vp (s.drop j)=N at b0 b1
    by_cases hN:N=0
    ·rw[AC (Apq (by omega)),Apr hN,Ap1,A8 (by omega) (by omega),CU (by omega) (by omega),CU (by omega) (by omega)];have e1:List.take (Int.toNat ((j:Int)+1)-Int.toNat (j:Int)) (List.drop (Int.toNat (j:Int)) s)=[c]:=by
      rw[show Int.toNat ((j:Int)+1)-Int.toNat (j:Int)=1 from by omega,show Int.toNat (j:Int)=j from by omega,hd];rfl
     rw[e1,A8 (by simp;omega) (by simp;omega)];rfl
    ·rw[AO (Apr (by omega)),Apq hN,Apv,A8 (by simp;omega) (by simp;omega),A8 (by omega) (by omega)]
     congr 3
     omega
   rw[RU (body:=λσ:Ac×Int=>Er FB w s σ.1 σ.2) hstep,hd,RG,← hd]
   by_cases hN:vR v vp (s.drop j)=0
   ·rw[Apr hN,Ap1,Ap1];refine(XA h hk hs m (j+1) (out++[c]) F (by omega) (by omega) (by omega) (by simp;omega)).trans ?_;rw[hdr];simp
   ·rw[Apq hN,Apv,Apv];refine(XA h hk hs m (j+(vR v vp (s.drop j)).toNat) (out++[42,42,42]) F (by omega) (by omega) (by omega) (by simp only[Apz,Ap2,Aqh];omega)).trans ?_;rw[List.drop_drop];simp
  ·have hb:(λσ:Ac×Int=>Er FB w s σ.1 σ.2) (out,(j:Int))=some (.out (.go out)):=by
    show Er FB w s out (j:Int)=_;unfold Er;rw[AC (Apq (by omega))]
   rw[Ln (body:=λσ:Ac×Int=>Er FB w s σ.1 σ.2) hb,List.drop_of_length_le (by omega),Zt,ApZ]
theorem Abd (h:VW k v vp w)(hk:k≤1000)(hs:s.length≤2000000):Ou FB w s=some (RG (vR v vp) s.length s):=by
 have hmd:w.fMade=true:=by rw[h.eq]
 unfold Ou;rw[hmd,Ap0,Bi,show Cg (λσ=>Er FB w s σ.1 σ.2) FB (([]:Ac),0)=_ from XA h hk hs s.length 0 [] FB (ApY _) (by omega) (by show s.length<5000000;omega) (by simp),A3];rfl
end
theorem PK (a:Ac) : ¬ a<a:=List.lt_irrefl a
theorem R7 {a c:Ac}(h:a<b)(h2:b<c):a<c:=List.lt_trans h h2
theorem Aeu {a:Ac}(h:a<b) : ¬ b<a:=λh2=>PK a (R7 h h2)
theorem Xy (a b:Ac):a<b∨a=b∨b<a:=by
 by_cases h:a<b
 ·exact .inl h
 ·by_cases h2:b<a
  ·exact .inr (.inr h2)
  ·have e1:a≤b:=h2;have e2:b≤a:=h;exact .inr (.inl (List.le_antisymm e1 e2))
theorem Aet {a c:Ac}(h:a≤b)(h2:b<c):a<c:=by
 rcases Xy a b with e | e | e
 ·exact R7 e h2
 ·rw[e];exact h2
 ·exact absurd e h
theorem Aes {a:Ac}(h:a≤b)(h2:a≠b):a<b:=by
 rcases Xy a b with e | e | e
 ·exact e
 ·exact absurd e h2
 ·exact absurd e h
theorem N9:∀(a b:List Ac),a.Pairwise (· < ·)→b.Pairwise (· < ·)→(∀x,x∈a↔x∈b)→a=b
 | [],[],_,_,_=>rfl
 | [],y::b,_,_,h=>by have:=(h y).2 (by simp);simp at this
 | x::a,[],_,_,h=>by have:=(h x).1 (by simp);simp at this
 | x::a,y::b,ha,hb,h=>by
  have ha':=List.pairwise_cons.1 ha;have hb':=List.pairwise_cons.1 hb;have e:x=y:=by
   rcases List.mem_cons.1 ((h x).1 (by simp)) with e | hx
   ·exact e
   ·rcases List.mem_cons.1 ((h y).2 (by simp)) with e | hy
    ·exact e.symm
    ·exact absurd (ha'.1 y hy) (Aeu (hb'.1 x hx))
  subst e;have:a=b:=N9 a b ha'.2 hb'.2 λz=>by
   constructor
   ·intro hz;rcases List.mem_cons.1 ((h z).1 (by simp[hz])) with e | hz2
    ·subst e;exact absurd (ha'.1 _ hz) (PK _)
    ·exact hz2
   ·intro hz;rcases List.mem_cons.1 ((h z).2 (by simp[hz])) with e | hz2
    ·subst e;exact absurd (hb'.1 _ hz) (PK _)
    ·exact hz2
  rw[this]
theorem P8 (zs:List Ac)(hs:zs.Pairwise (·≤·)):∀k,k≤zs.length→(Lib.compactUpTo zs.toArray k).Pairwise (· < ·)∧(∀x,x∈Lib.compactUpTo zs.toArray k↔x∈zs.take k)
 | 0,_=>by simp[Lib.compactUpTo]
 | k+1,hk=>by
  obtain⟨h1,h2⟩:=P8 zs hs k (by omega);have hkl:k<zs.length:=by omega
  have hz:zs.toArray[k]! =zs[k]:=by simp[hkl]
  have ht:zs.take (k+1)=zs.take k++[zs[k]]:=by rw[List.take_add_one,Apw hkl];rfl
  have hsi:=List.pairwise_iff_getElem.1 hs;rw[Lib.compactUpTo_succ,ht]
  by_cases hkp:Lib.keeps zs.toArray k=true
  ·rw[ApW hkp,hz];refine⟨List.pairwise_append.2 ⟨h1,by simp,λx hx y hy=>?_⟩,λx=>by rw[Aqr,Aqr,h2]⟩;simp only[ApF] at hy;subst hy;obtain⟨i,hi,rfl⟩:=List.getElem_of_mem ((h2 x).1 hx);have hik:i<k:=by simp at hi;omega
   rw[List.getElem_take];simp only[Lib.keeps,Apt,hz] at hkp;have hz1:zs.toArray[k-1]! =zs[k-1]'(by omega):=by simp[show k-1<zs.length by omega]
   rw[hz1] at hkp;have hne:zs[k]≠zs[k-1]'(by omega):=hkp.resolve_left (by omega);have hlt:zs[k-1]'(by omega)<zs[k]:=Aes (hsi (k-1) k (by omega) hkl (by omega)) (λe=>hne e.symm)
   by_cases he:i=k-1
   ·subst he;exact hlt
   ·exact Aet (hsi i (k-1) (by omega) (by omega) (by omega)) hlt
  ·rw[ApP hkp];refine⟨by simpa using h1,λx=>?_⟩;simp only[Lib.keeps,Apt,hz,not_or,Decidable.not_not] at hkp;have hz1:zs.toArray[k-1]! =zs[k-1]'(by omega):=by simp[show k-1<zs.length by omega]
   rw[hz1] at hkp;rw[ApZ,Aqr,h2,ApF];constructor
   ·exact .inl
   ·rintro(h | rfl)
    ·exact h
    ·rw[hkp.2];have:(zs.take k)[k-1]'(by simp;omega)=zs[k-1]'(by omega):=List.getElem_take;rw[← this];exact List.getElem_mem _
theorem Jt (ss:List Ac):(D9 ss).Pairwise (· < ·)∧∀x,x∈D9 ss↔x∈ss:=by
 have hs:(ss.mergeSort λx y=>decide (x≤y)).Pairwise (·≤·):=by
  have:=List.pairwise_mergeSort (le:=λ(x y:Ac)=>decide (x≤y)) (λa b c h1 h2=>by
   simp only[Apt] at *;exact List.le_trans h1 h2) (λa b=>by
   simp only[ApD,Apt];exact List.le_total a b) ss
  exact this.imp (λh=>by simpa using h)
 have h:=P8 _ hs _ (Ap8 _);unfold D9 Lib.compact;refine⟨h.1,λx=>?_⟩;rw[h.2,Aqi,List.mem_mergeSort]
def CQ:List Ac→Ac→Nat
 | [],_=>0
 | y::r,x=>if y<x then CQ r x+1 else 0
theorem OU:∀(o:List Ac) (x:Ac),CQ o x≤o.length
 | [],_=>Ap8 _
 | y::r,x=>by have:=OU r x;unfold CQ;split<;>simp;omega
def VZ (o:List Ac)(x:Ac):List Ac:=if CQ o x=o.length∨V7 o (CQ o x)≠x then o.take (CQ o x)++[x]++o.drop (CQ o x) else o
def ND (l:List Ac)(k:Nat):List Ac:=(l.take k).foldl VZ []
theorem WZ:∀(o:List Ac) (x:Ac),∀y∈o.take (CQ o x),y<x
 | [],x,y,h=>by simp at h
 | z::r,x,y,h=>by
  unfold CQ at h
  split at h
  ·rename_i hz
   rcases List.mem_cons.1 (by simpa using h) with rfl | h
   ·exact hz
   ·exact WZ r x y h
  ·simp at h
theorem Xa:∀(o:List Ac) (x:Ac),CQ o x<o.length→¬ V7 o (CQ o x)<x
 | [],x,h=>by simp[CQ] at h
 | z::r,x,h=>by
  unfold CQ at h ⊢
  by_cases hz:z<x
  ·rw[ApW hz] at h ⊢;have:=Xa r x (by simpa using h);have e:V7 (z::r) ((CQ r x+1:Nat):Int)=V7 r (CQ r x):=by simp[V7]
   rw[e];exact this
  ·rw[ApP hz];simpa[V7] using hz
theorem AbP {o:List Ac}(h:o.Pairwise (· < ·))(x:Ac):(VZ o x).Pairwise (· < ·)∧∀z,z∈VZ o x↔z∈o∨z=x:=by
 unfold VZ
 by_cases hc:CQ o x=o.length∨V7 o (CQ o x)≠x
 ·rw[ApW hc];have hsplit:o=o.take (CQ o x)++o.drop (CQ o x):=(Aqk _ _).symm;have hp:=h;rw[hsplit] at hp;obtain⟨p1,p2,p3⟩:=List.pairwise_append.1 hp;have hgt:∀y∈o.drop (CQ o x),x<y:=λy hy=>by
   have hlt:CQ o x<o.length:=by
    rcases Nat.lt_or_ge (CQ o x) o.length with h' | h'
    ·exact h'
    ·rw[List.drop_of_length_le h'] at hy;simp at hy
   have hne:V7 o (CQ o x)≠x:=hc.resolve_left (by omega);have hge:=Xa o x hlt;have hx:x<V7 o (CQ o x):=by
    rcases Xy x (V7 o (CQ o x)) with e | e | e
    ·exact e
    ·exact absurd e.symm hne
    ·exact absurd e hge
   rw[List.drop_eq_getElem_cons hlt] at hy p2;have e0:o[CQ o x]=V7 o (CQ o x):=by simp[V7,hlt]
   rcases List.mem_cons.1 hy with rfl | hy
   ·rw[e0];exact hx
   ·exact R7 hx (by rw[← e0];exact(List.pairwise_cons.1 p2).1 y hy)
  refine⟨?_,λz=>?_⟩
  ·rw[ApR];refine List.pairwise_append.2 ⟨p1,List.pairwise_cons.2 ⟨hgt,p2⟩,λa ha b hb=>?_⟩;rcases List.mem_cons.1 hb with rfl | hb
   ·exact WZ o _ a ha
   ·exact p3 a ha b hb
  ·conv=>rhs;rw[hsplit]
   simp only[Aqr,ApF];constructor
   ·rintro((h | h) | h)
    ·exact .inl (.inl h)
    ·exact .inr h
    ·exact .inl (.inr h)
   ·rintro((h | h) | h)
    ·exact .inl (.inl h)
    ·exact .inr h
    ·exact .inl (.inr h)
 ·rw[ApP hc];simp only[not_or,ne_eq,Decidable.not_not] at hc;refine⟨h,λz=>⟨.inl,?_⟩⟩;rintro(hz | rfl)
  ·exact hz
  ·have hlt:CQ o z<o.length:=by have:=OU o z;omega
   have e0:o[CQ o z]=V7 o (CQ o z):=by simp[V7,hlt]
   have e1:o[CQ o z]=z:=e0.trans hc.2;have:=List.getElem_mem hlt
   rwa [e1] at this
theorem Zs (h:k<l.length):ND l (k+1)=VZ (ND l k) (V7 l k):=by
 unfold ND;rw[Ps h,List.foldl_append];rfl
theorem PP (l:List Ac):∀k,k≤l.length→(ND l k).Pairwise (· < ·)∧(∀z,z∈ND l k↔z∈l.take k)∧(ND l k).length≤k
 | 0,_=>by simp[ND]
 | k+1,hk=>by
  obtain⟨h1,h2,h3⟩:=PP l k (by omega);have hi:=AbP h1 (V7 l k);rw[Zs (by omega)];refine⟨hi.1,λz=>?_,?_⟩
  ·rw[hi.2,h2,Ps (by omega),Aqr,ApF]
  ·unfold VZ
   split
   ·simp;have:=OU (ND l k) (V7 l k);omega
   ·omega
theorem Abu (l:List Ac):ND l l.length=D9 l:=by
 have h1:=PP l l.length (Ap8 _);have h2:=Jt l;refine N9 _ _ h1.1 h2.1 λz=>?_;rw[h1.2.1,h2.2,Aqi]
theorem Ag2 (a b:Ac):Cr a b=decide (a<b):=bytesLess_eq a b
theorem Akp [Inhabited α]{l:List α}{x:Int}(h0:0≤x)(h:x<(l.length:Int)):l[x.toNat]? =some (Af l x):=by
 have hx:x.toNat<l.length:=by omega
 simp[Af,hx]
theorem Abi {l:List α}{c:α}(h:l[k]? =some c):l.take (k+1)=l.take k++[c]:=by
 rw[List.take_add_one,h];rfl
theorem Vs:∀(o:List Ac) (c:Ac) (k:Nat),(∀y∈o.take k,y<c)→(∀z,o[k]? =some z→¬ z<c)→k≤o.length→CQ o c=k
 | [],c,k,_,_,h=>by simp at h;subst h;rfl
 | y::r,c,0,_,h2,_=>by
  unfold CQ;rw[ApP (h2 y rfl)]
 | y::r,c,k+1,h1,h2,h3=>by
  unfold CQ;rw[ApW (h1 y (by simp)),Vs r c k (λz hz=>h1 z (by simp[hz])) (λz hz=>h2 z (by simpa using hz)) (by simpa using h3)]
theorem Jn {n:Nat}{x:Option α}(h:n≤1000000000):AM (Dl 16 n) x=x:=BN (Apr (by omega))
theorem AhK {o:List Ac}{x:Int}(h0:0≤x)(hx:x<(l.length:Int))(hF:o.length<F)(ho:o.length≤100000):∃b,Cg (λσ=>Is l o x σ) F 0=some (.go ((CQ o (Af l x):Int),b)):=by
 obtain⟨q,h1,b,h2⟩:=H3 (body:=λσ=>Is l o x σ) (λk=>0≤k∧k≤(o.length:Int)∧∀y∈o.take k.toNat,y<Af l x) (λk=>o.length-k.toNat) (λq=>∃b,q = .go ((CQ o (Af l x):Int),b)) (λk ⟨g0,gk,ga⟩=>by
  unfold Is
  by_cases hlt:k<(o.length:Int)
  ·have hg:=Akp g0 hlt;rw[Apr hlt,BN (by show imp true _=true;simp only[imp];rw[Me g0 hlt];rfl),BN (by show imp true _=true;simp only[imp];rw[Me h0 hx];rfl),Ap7]
   cases hs:Cr (Af o k) (Af l x) with
   | true=>
    have hs':Af o k<Af l x:=by rw[Ag2] at hs;exact ApH hs
    refine .inl ⟨k+1,by rw[AO rfl,A8 (by omega) (by omega)],⟨by omega,by omega,λy hy=>?_⟩,by omega⟩;rw[show(k+1).toNat=k.toNat+1 from by omega,Abi hg] at hy;rcases List.mem_append.1 hy with hy | hy
    ·exact ga y hy
    ·rw[List.mem_singleton.1 hy];exact hs'
   | false=>
    have hs' : ¬ Af o k<Af l x:=by rw[Ag2] at hs;exact Aql hs
    refine .inr ⟨_,AC rfl,false,?_⟩;rw[Vs o (Af l x) k.toNat ga (λz hz=>by rw[hg] at hz;rw[← Option.some.inj hz];exact hs') (by omega),show((k.toNat:Nat):Int)=k from by omega]
  ·rw[Apq hlt,BN (by rfl),BN (by rfl),ApO];refine .inr ⟨_,AC rfl,false,?_⟩;rw[Vs o (Af l x) k.toNat ga (λz hz=>by rw[List.getElem?_eq_none (by omega)] at hz;cases hz) (by omega),show((k.toNat:Nat):Int)=k from by omega]) F 0 ⟨ApA 0,by omega,by simp⟩ (by show o.length-0<F;omega)
 exact⟨b,by rw[h1,h2]⟩
theorem AhJ {o:List Ac}{x:Int}(h0:0≤x)(hx:x<(l.length:Int))(hx2:x<100000)(ho:o.length≤100000)(b:Bool):JD l o x (CQ o (Af l x):Int) b=some (.next (VZ o (Af l x),x+1)):=by
 have hf:=OU o (Af l x);unfold JD VZ JE;generalize Af l x=c at *
 by_cases he:CQ o c=o.length
 ·have e1:decide (((CQ o c:Nat):Int)=(o.length:Int))=true:=Apr (by omega);rw[e1,BN (by rfl),BN (by rfl),AO (by rfl),ApW (.inl he)];rw[CU (by omega) (by omega),Jn (by simp;omega),AI h0 hx,Jn (by simp;omega),Jn (by simp;omega),A8 (by omega) (by omega),Int.toNat_natCast];rfl
 ·have e1:decide (((CQ o c:Nat):Int)=(o.length:Int))=false:=Apq (by omega);have e2:Af o ((CQ o c:Nat):Int)=V7 o ((CQ o c:Nat):Int):=rfl;rw[e1,BN (by show imp true _=true;simp only[imp];rw[Me (by omega) (by omega)];rfl),BN (by show imp true _=true;simp only[imp];rw[Me h0 hx];rfl),e2,ApJ]
  by_cases hq:V7 o ((CQ o c:Nat):Int)=c
  ·rw[ApP (by rintro(h | h);exact he h;exact h hq),AC (by rw[Apr hq];rfl),A8 (by omega) (by omega)]
  ·rw[ApW (.inr hq),AO (by rw[Apq hq];rfl)];rw[CU (by omega) (by omega),Jn (by simp;omega),AI h0 hx,Jn (by simp;omega),Jn (by simp;omega),A8 (by omega) (by omega),Int.toNat_natCast];rfl
theorem Yl (hl:l.length≤2000)(hF:2000<F):Mg F l=some (ND l l.length):=by
 unfold Mg;obtain⟨o,h1,h2⟩:=H3 (body:=λσ:List Ac×Int=>JF F l σ.1 σ.2) (λσ=>0≤σ.2∧σ.2≤(l.length:Int)∧σ.1=ND l σ.2.toNat) (λσ=>l.length-σ.2.toNat) (λq=>q = .go (ND l l.length)) (λ⟨o,x⟩ ⟨h0,hx,ho⟩=>by
  dsimp only at h0 hx ho ⊢;subst ho;unfold JF
  by_cases hlt:x<(l.length:Int)
  ·have hlen:=(PP l x.toNat (by omega)).2.2;obtain⟨b,hb⟩:=AhK (F:=F) h0 hlt (o:=ND l x.toNat) (by omega) (by omega);refine .inl ⟨(VZ (ND l x.toNat) (Af l x),x+1),?_,⟨by show 0≤x+1;omega,by show x+1≤_;omega,?_⟩,by show l.length-(x+1).toNat<l.length-x.toNat;omega⟩
   ·rw[AO (Apr hlt),Ck hb,Jw];exact AhJ h0 hlt (by omega) (by omega) b
   ·show VZ (ND l x.toNat) (Af l x)=ND l (x+1).toNat;rw[show(x+1).toNat=x.toNat+1 from by omega,Zs (by omega)];rw[show((x.toNat:Nat):Int)=x from by omega];rfl
  ·refine .inr ⟨_,AC (Apq hlt),?_⟩;rw[show x.toNat=l.length from by omega]) F ([],0) ⟨ApA 0,by show(0:Int)≤_;omega,by simp[ND]⟩ (by show l.length-0<F;omega)
 subst h2;rw[Ck h1,Jw];rfl
theorem Yk (hl:l.length≤2000):Mg FB l=some (D9 l):=by
 rw[Yl hl (by decide),Abu]
theorem Abo (l:List Ac)(x:Ac):D9 (D9 l++[x])=D9 (l++[x]):=by
 obtain⟨h1,h2⟩:=Jt (D9 l++[x]);obtain⟨h3,h4⟩:=Jt (l++[x]);obtain⟨_,h6⟩:=Jt l;refine N9 _ _ h1 h3 λy=>?_;rw[h2,h4,Aqr,Aqr,h6]
theorem Kr (h:v.length≤2000000):Gx v=some v:=by
 unfold Gx;rw[BN (show Dl 40 _=true from Apr (by simp;omega))];rfl
theorem W6 {l:List AB}(h:ItA l)(hk:∀x∈l,x.fKey.length≤2000000):HF FB l=some (VX l):=by
 have h0:=h.len;unfold HF VX Gk;rw[G0 (R:=Unit) (N:=l.length) (g:=Yf l) (K:=some 0) (by show l.length<5000000;omega) (λi hi=>by
  unfold Gl Yf;have hk2:imp (decide (0<(i:Int))) (BT .i64 ((i:Int)-1))=true:=by rw[I6 (by omega) (by omega)];exact C4 _
  have hk3:imp (decide (0<(i:Int))) (Cn ((i:Int)-1) (l.length:Int))=true:=by
   by_cases h3:0<(i:Int)
   ·rw[Me (by omega) (by omega)];exact C4 _
   ·rw[Apq h3];rfl
  have hv:G8 MB (Af l (i:Int)).fValue:=by rw[BF hi];exact h.v _ (List.getElem_mem hi)
  have hkk:(Af l (i:Int)).fKey.length≤2000000:=by rw[BF hi];exact hk _ (List.getElem_mem hi)
  rw[AO (Apr (by omega)),AI (by omega) (by omega),BN (show Dl 1 _=true from Apr (by omega)),AcN hv,A3,hk2,hk3,C6,C6,A8 (by omega) (by omega)]
  cases Mf (Af l (i:Int)).fKey with
  | false=>rfl
  | true=>
   simp only[Ap0,Bi,Apv];unfold OA
   cases hz:decide (DC (Af l (i:Int)).fValue=0) with
   | false=>simp only[ApG,Cf,Apv,hz]
   | true=>
    simp only[Ap0,Bi,Ap1]
    cases decide ((Af l (i:Int)).fVersion<1) with
    | true=>rfl
    | false=>
     simp only[Bi,Apv]
     cases(decide (0<(i:Int))&&(Cr (Af l (i:Int)).fKey (Af l ((i:Int)-1)).fKey||decide ((Af l (i:Int)).fKey=(Af l ((i:Int)-1)).fKey)))<;>rfl) (by unfold Gl;rw[AC (Apq (by omega))])]
 cases decide (256<(l.length:Int)) with
 | true=>rfl
 | false=>
  rw[Bi,Apv]
  cases hz:decide (Dk (Yf l) 0 l.length=0) with
  | true=>rw[ApH hz];rfl
  | false=>rfl
def Gq (a:A0)(l:List AB):Ai:=⟨a,l,(),true,0,[],[],[]⟩
theorem Aev [Inhabited α]{l:List α}(hl:l.length≤2000000){body:Int×List α→Option (Stp (Int×List α) (Out R (List α)))}(hb:∀(i:Nat) (h:i<l.length) (acc:List α),acc.length=i→body ((i:Int),acc)=some (.next (((i+1:Nat):Int),acc++[l[i]])))(he:∀acc,body ((l.length:Int),acc)=some (.out (.go acc))) :
  Cg body FB (0,[])=some (.go l):=by
 have hr:=(Kg (R:=R) (l:=l) (mk:=λi acc=>((i:Int),acc)) (body:=body) (fin:=λacc:List α=>acc) (λ_ acc x=>(.go (acc++[x]):Out R (List α))) (λi acc=>acc.length=i) (λi hi acc hP=>⟨hb i hi acc hP,λb hbb=>by cases hbb;simp[hP]⟩) (λacc _=>he acc) (F:=FB) (by show l.length<5000000;omega) (a:=[]) rfl).1;refine hr.trans ?_;rw[Lh (λ(acc:List α) x=>acc++[x])];have:∀(l a:List α),l.foldl (λa v=>a++[v]) a=a++l:=λl=>by
  induction l with
  | nil=>intro a;simp
  | cons x r ih=>intro a;simp[ih]
 rw[this];rfl
theorem Abv {l:List AB}(ha:Xm a)(hf:a.fFunction.length≤2000000)(hl:ItA l)(hk:∀x∈l,x.fKey.length≤2000000):HR FB a l=bif decide (Qb a l=0) then some (Gq a l,()) else none:=by
 have h0:=hl.len;unfold HR Qb OA;rw[RO ha hf,A3,W6 hl hk]
 cases hz:decide (Tz a=0) with
 | false=>rw[ApG,Cf,Apv,hz];rfl
 | true=>
  rw[Ap0,Bi,A3,Ap1]
  cases hy:decide (VX l=0) with
  | false=>rfl
  | true=>
   rw[Ap0,Bi,Aev (body:=λσ=>IT l σ.1 σ.2) hl.len (λi hi acc hP=>by
    unfold IT;simp only;have hv:=hl.v _ (List.getElem_mem hi);rw[AO (Apr (by omega)),AI (by omega) (by omega),BF hi,Kr (Nat.le_trans hv.hv (by decide)),A3,BN (show Dl 48 _=true from Apr (by simp;omega)),A8 (by omega) (by omega)];rfl) (λacc=>by unfold IT;rw[AC (Apq (by omega))]),A3]
   rfl
theorem U1 {l:List AB}(ha:Xm a)(hf:a.fFunction.length≤2000000)(hl:ItA l)(hk:∀x∈l,x.fKey.length≤2000000)(hn:Qb a l≠0):Li FB a l=some ((),Qb a l):=by
 unfold Qb OA at hn;unfold Li Qb OA;rw[RO ha hf,A3,W6 hl hk]
 cases hz:decide (Tz a=0) with
 | false=>rfl
 | true=>
  rw[hz,Ap1] at hn;rw[Ap0,Bi,A3,Ap1,AO (by rw[Apq hn];rfl)]
theorem Aaf {l:List AB}(h:VX l=0):∀i:Nat,i+1<l.length→Cr (Af l (i:Int)).fKey (Af l ((i+1:Nat):Int)).fKey=true:=λi hi=>by
 unfold VX at h
 cases hd:decide (256<(l.length:Int)) with
 | true=>rw[hd] at h;cases h
 | false=>
  rw[hd,Apv] at h;have h1:=Sr h (i+1) (by omega) (by omega);unfold Yf at h1
  cases hid:Mf (Af l ((i+1:Nat):Int)).fKey with
  | false=>rw[hid] at h1;cases h1
  | true=>
   rw[hid,Ap0,Apv] at h1;obtain⟨_,h2⟩:=Hj h1
   cases hv:decide ((Af l ((i+1:Nat):Int)).fVersion<1) with
   | true=>rw[hv] at h2;cases h2
   | false=>
    rw[hv,Apv,Apr (by omega:0<((i+1:Nat):Int)),Ap7,show(((i+1:Nat):Int)-1)=(i:Int) from by omega] at h2
    cases hs:(Cr (Af l ((i+1:Nat):Int)).fKey (Af l (i:Int)).fKey||decide ((Af l ((i+1:Nat):Int)).fKey=(Af l (i:Int)).fKey)) with
    | true=>rw[hs] at h2;cases h2
    | false=>
     rw[ApB,Apx] at hs;rcases Q9 (Af l (i:Int)).fKey (Af l ((i+1:Nat):Int)).fKey with h3 | h3 | h3
     ·exact h3
     ·exact absurd h3.symm hs.2
     ·rw[h3] at hs;cases hs.1
def HG (x:AB):Ac×List Ab:=(x.fKey,x.fValue)
theorem Acm:∀(l:List AB),(∀i:Nat,i+1<l.length→Cr (Af l (i:Int)).fKey (Af l ((i+1:Nat):Int)).fKey=true)→l.Pairwise λx y=>Cr x.fKey y.fKey=true
 | [],_=>List.Pairwise.nil
 | [x],_=>List.pairwise_singleton _ _
 | x::y::r,h=>by
  have ih:=Acm (y::r) λi hi=>by
   have:=h (i+1) (by simp at hi ⊢;omega);have h2:i+1<(y::r).length:=hi;have h3:i+1+1<(x::y::r).length:=by simp at hi ⊢;omega
   rw[BF (by omega),BF h3] at this;rw[BF (by omega),BF h2];exact this
  have h0:Cr x.fKey y.fKey=true:=h 0 (by simp);refine List.pairwise_cons.2 ⟨λz hz=>?_,ih⟩;rcases List.mem_cons.1 hz with rfl | hz
  ·exact h0
  ·exact NA h0 ((List.pairwise_cons.1 ih).1 z hz)
theorem Adn {l:List AB}(h:l.Pairwise λx y=>Cr x.fKey y.fKey=true):VY l=l.map HG:=by
 unfold VY;have key:∀(r p:List AB),(p++r).Pairwise (λx y=>Cr x.fKey y.fKey=true)→r.foldl (λm x=>mset m x.fKey x.fValue) (p.map HG)=(p++r).map HG:=by
  intro r
  induction r with
  | nil=>intro p _;simp
  | cons x r ih=>
   intro p hp;have hlt:∀q∈p,Cr q.fKey x.fKey=true:=λq hq=>(List.pairwise_append.1 hp).2.2 q hq x (by simp);have hg:Du (p.map HG) x.fKey=false:=by
    unfold Du;rw[QT.2 λq hq=>?_];rfl;obtain⟨y,hy,rfl⟩:=List.mem_map.1 hq;exact Ag1 (hlt y hy)
   have hins:∀(p:List AB),(∀q∈p,Cr q.fKey x.fKey=true)→mins x.fKey x.fValue (p.map HG)=p.map HG++[HG x]:=by
    intro p
    induction p with
    | nil=>intro _;rfl
    | cons q p ihp=>
     intro hq;show(bif Cr x.fKey q.fKey then _ else _)=_;rw[Zg (hq q (by simp)),Apv,ihp λz hz=>hq z (by simp[hz])];rfl
   have hm:mset (p.map HG) x.fKey x.fValue=(p++[x]).map HG:=by
    unfold mset;rw[hg,Apv,hins p hlt];simp
   rw[List.foldl_cons,hm,ih (p++[x]) (by simpa using hp)];simp
 exact key l [] (by simpa using h)
theorem XE {t:Ac}(h1:t.length≤2000000)(h2:op.length≤2000000)(h3:n.length≤2000000):NJ t op n=some (Ajf t op n):=Rg h1 h2 h3
theorem UN {s:List Nat}(ht:(HV q.fOp).1=some s)(hl:q.fArgs.length=s.length)(hr:IR s q.fArgs=true)(hn:(decide (q.fOp=([110,111,119]:Ac))||decide (q.fOp=([108,111,103]:Ac)))=false) :
  (HV q.fOp).2=true∧0<q.fArgs.length∧decide ((Af (Af q.fArgs 0) 0).fKind=4)=true∧(Y8 q=true→(MT (Do q) true).2.2=true):=by
 have h0:∀k:Nat,decide (k=0)=false→(∃r,s=k::r)→G4 k (Af q.fArgs 0)=true:=λk hk ⟨r,e⟩=>by
  subst e;unfold IR at hr;rw[Ap6,List.any_eq_false] at hr;have h1:=hr 0 (by simp);have h2 : ¬ (!decide (k=0)&&!G4 k (Af q.fArgs 0))=true:=h1;rw[hk] at h2
  cases hd:G4 k (Af q.fArgs 0) with
  | true=>rfl
  | false=>rw[hd] at h2;exact absurd rfl h2
 have k8:G4 103 (Af q.fArgs 0)=true→decide ((Af (Af q.fArgs 0) 0).fKind=4)=true:=λh=>by rw[AaD,Aps] at h;exact h.1
 have k9:G4 104 (Af q.fArgs 0)=true→decide ((Af (Af q.fArgs 0) 0).fKind=4)=true:=λh=>by rw[Ad7,Aps] at h;exact h.1
 rcases OB ht with e | e | e | e | e | e | e | e | e | e
 ·have hs:s=[103]:=by rw[e] at ht;cases ht;rfl
  exact⟨by rw[e];rfl,by rw[hl,hs];decide,k8 (h0 103 rfl ⟨_,hs⟩),λh=>by unfold Y8 at h;rw[e] at h;cases h⟩
 ·have hs:s=[103]:=by rw[e] at ht;cases ht;rfl
  exact⟨by rw[e];rfl,by rw[hl,hs];decide,k8 (h0 103 rfl ⟨_,hs⟩),λh=>by unfold Y8 at h;rw[e] at h;cases h⟩
 ·have hs:s=[103,0]:=by rw[e] at ht;cases ht;rfl
  exact⟨by rw[e];rfl,by rw[hl,hs];decide,k8 (h0 103 rfl ⟨_,hs⟩),λh=>by unfold Y8 at h;rw[e] at h;cases h⟩
 ·have hs:s=[104,0]:=by rw[e] at ht;cases ht;rfl
  exact⟨by rw[e];rfl,by rw[hl,hs];decide,k9 (h0 104 rfl ⟨_,hs⟩),λh=>by unfold Y8 at h;rw[e] at h;cases h⟩
 ·have hs:s=[104,105,0]:=by rw[e] at ht;cases ht;rfl
  exact⟨by rw[e];rfl,by rw[hl,hs];decide,k9 (h0 104 rfl ⟨_,hs⟩),λh=>by unfold Y8 at h;rw[e] at h;cases h⟩
 ·have hs:s=[103,106]:=by rw[e] at ht;cases ht;rfl
  exact⟨by rw[e];rfl,by rw[hl,hs];decide,k8 (h0 103 rfl ⟨_,hs⟩),λh=>by unfold Y8 at h;rw[e] at h;cases h⟩
 ·have hs:s=[104]:=by rw[e] at ht;cases ht;rfl
  exact⟨by rw[e];rfl,by rw[hl,hs];decide,k9 (h0 104 rfl ⟨_,hs⟩),λh=>by unfold Y8 at h;rw[e] at h;cases h⟩
 ·have hs:s=[107,0]:=by rw[e] at ht;cases ht;rfl
  have h9:=h0 107 rfl ⟨_,hs⟩;rw[AkI,Aps] at h9;exact⟨by rw[e];rfl,by rw[hl,hs];decide,h9.1,λ_=>h9.2⟩
 ·rw[e] at hn;cases hn
 ·rw[e] at hn;cases hn
theorem VO (ha:Xm a)(hfl:a.fFunction.length≤2000000)(hq:S9 q):Hg FB a q=some (Nt a q):=by
 have hn:=ha.t;unfold Hg Nt;rw[RO ha hfl,A3];refine Ad9 ?_;rw[Nb,A3]
 cases ht:(HV q.fOp).1 with
 | none=>rfl
 | some s=>
  rw[Option.isSome_some,Ap0,Bi,WU ha.o,A3];simp only
  cases hh:Wc a.fOps q.fOp with
  | false=>rfl
  | true=>
   rw[Ap0,Bi,Apv,Ab2 hq ht,A3,Bool.not_not]
   cases hb:AaJ q s with
   | true=>rfl
   | false=>
    rw[Bi,Apv]
    cases hnl:(decide (q.fOp=([110,111,119]:Ac))||decide (q.fOp=([108,111,103]:Ac))) with
    | true=>
     rw[Cf];rcases ApD _ _▸hnl with e | e
     ·have e:=ApH e;unfold Y8;rw[e];rfl
     ·have e:=ApH e;unfold Y8;rw[e];rfl
    | false=>
     unfold AaJ at hb;rw[ApB,ApB,ApX,ApX,Apt] at hb;obtain⟨b1,b2,b3⟩:=hb;have hv:∀v∈q.fArgs,DC v=0:=by
      intro v hv;rw[List.any_eq_false] at b2;simpa using b2 v hv
     obtain⟨n1,n2,n3,n4⟩:=UN ht (by omega) b3 hnl;have hA:G8 MB (Af q.fArgs 0):=by have:=hq.at (i:=0) n2;exact this
     have he:DC (Af q.fArgs 0)=0:=hv _ (by rw[show(0:Int)=((0:Nat):Int) from rfl,BF n2];exact List.getElem_mem n2);have hs:=hA.str (Hv he);rw[Bi,AI (by omega) (by omega),RN hA,A3,Apr he,n3,n1];simp only[Bool.and_self,Ap1,Ap7];rw[show(Af (Af q.fArgs 0) 0).fStr=Do q from rfl] at hs ⊢;rw[XE hn (Nat.le_trans (Ak7 ht) (by decide)) (Nat.le_trans hs (by decide)),A3,XP ha.p ha.st,A3];have hF:(Bj (decide (q.fOp=([102,101,116,99,104]:Ac))) (Ba (Ik FB (Do q)) λhd=>Ba (IW FB a.fNet hd.1 hd.2.1) λhg=>Bj (!hg.fAllowed) (some 12) (some 0)) (some 0):Option Int)=some (bif Y8 q&&!Aj0 a q then 12 else 0):=by
      cases hf:Y8 q with
      | false=>rw[show decide (q.fOp=([102,101,116,99,104]:Ac))=false from hf];rfl
      | true=>
       have e2:=n4 hf;rw[show decide (q.fOp=([102,101,116,99,104]:Ac))=true from hf,Cf,NL (Nat.le_trans hs (by decide)),A3];unfold Aii;rw[e2,Ap1,VQ ha.n,A3,GR,Ap7];rfl
     rw[hF,GR];rfl
theorem Ahw {l:List α}{ret:α→R}(hb:∀(i:Nat) (h:i<l.length),body (i:Int)=Bj (p l[i]) (some (.out (.ret (ret l[i])))) (some (.next ((i:Int)+1))))(he:body (l.length:Int)=some (.out (.go u))) :
  ∀(d n i:Nat),i+d=l.length→d<n→Cg body n (i:Int)=some (match (l.drop i).find? p with | some x=>.ret (ret x) | none=>.go u):=by
 intro d
 induction d with
 | zero=>
  intro n i h hn;obtain⟨n,rfl⟩:∃m,n=m+1:=⟨n-1,by omega⟩
  obtain rfl:i=l.length:=by omega
  rw[Cg,he,List.drop_length];rfl
 | succ d ih=>
  intro n i h hn;obtain⟨n,rfl⟩:∃m,n=m+1:=⟨n-1,by omega⟩
  have hi:i<l.length:=by omega
  rw[Cg,hb i hi,List.drop_eq_getElem_cons hi,List.find?_cons]
  cases hp:p l[i] with
  | true=>rfl
  | false=>exact ih n (i+1) (by omega) (by omega)
theorem Afh {l:List α}{ret:α→R}(hF:l.length<F)(hb:∀(i:Nat) (h:i<l.length),body (i:Int)=Bj (p l[i]) (some (.out (.ret (ret l[i])))) (some (.next ((i:Int)+1))))(he:body (l.length:Int)=some (.out (.go u))) :
  Cg body F 0=some (match l.find? p with | some x=>.ret (ret x) | none=>.go u):=by
 have h:=Ahw hb he l.length F 0 (by omega) hF;rw[List.drop_zero] at h;exact h
section
variable {M : Nat} {v : List Ab}
theorem Ab0 (hA:G8 M v)(hM:M≤2000000)(hF:4*M+8<F):O4 F v=some (Wd v):=by
 have hvM:=hA.hv;unfold O4 Wd;rw[W5 hA hM (by omega),Ck rfl];unfold DC
 cases hwh:whole v with
 | none=>rfl
 | some f=>
  change Bj (!decide (Nq f=0)) _ _=some (bif decide (Nq f=0) then(f.txt true,0) else([],Nq f))
  cases he:decide (Nq f=0) with
  | false=>rw[AO (p:=!false) rfl];rfl
  | true=>
   obtain⟨h1,h2,h3⟩:=KB hwh;have hl:v.length=f.flat.length:=by rw[h1]
   have hc:∀c∈f.flat,c.fStr.length≤M∧BT .i64 c.fInt=true∧c.fN≤9223372036854775807:=λc hc=>hA.hc c (by rw[h1];exact hc);have hb:=OX hM h2 (by omega) hc;have htl:((f.txt true).length:Int)=f.byt:=by rw[Le f false none true h2,TF h3];simp
   have hd0:v.drop (0:Int).toNat=f.flat++[]:=by rw[ApZ];exact h1
   rw[AC (p:=!true) rfl,Zv hA (ApA 0) h3 h2 hd0 (by omega) (by omega),Ck rfl];rfl
end
def Uw (rdF:Ac→Ac→Option (Ac×Int×Int))(F:Nat)(o:Ai)(name:Ac):Option (Bb×Ai):=
 Ba (rdF name o.fAccess.fFunction) λr2=>Bj (!decide (r2.2.2=0)) (some ((Bb.mk r2.2.2 ([]:List Ab)),(Ai.mk o.fAccess o.fItems () o.fMade o.fAsked o.fEffects o.fReads o.fLog))) (Ba (Ae2 F r2.1) λr8=>Bj (!decide (r8.2=0)) (some ((Bb.mk r8.2 ([]:List Ab)),(Ai.mk o.fAccess o.fItems () o.fMade o.fAsked o.fEffects o.fReads o.fLog))) (some ((Bb.mk 0 r8.1),(Ai.mk o.fAccess o.fItems () o.fMade o.fAsked o.fEffects o.fReads o.fLog))))
def XL (rdF:Ac→Ac→Option (Ac×Int×Int))(rxF:Ac→Option Ac)(F:Nat)(o:Ai)(q:A6):Option (Bb×Ai):=
 Bj (!o.fMade) (some ((Bb.mk 10 ([]:List Ab)),(Ai.mk o.fAccess o.fItems () o.fMade o.fAsked o.fEffects o.fReads o.fLog))) (Bj (decide (32≤o.fAsked)) (some ((Bb.mk 3 ([]:List Ab)),(Ai.mk o.fAccess o.fItems () o.fMade o.fAsked o.fEffects o.fReads o.fLog))) (AM (BT .i64 (o.fAsked+1))<|Ba (Hg F o.fAccess q) λhg=>Bj (!decide (hg=0)) (some ((Bb.mk hg ([]:List Ab)),(Ai.mk o.fAccess o.fItems () o.fMade (o.fAsked+1) o.fEffects o.fReads o.fLog))) (Bj (decide (q.fOp=([110,111,119]:Ac))) (Ba (Ae7 F o.fAccess.fNow) λhi=>some ((Bb.mk 0 hi.1),(Ai.mk o.fAccess o.fItems () o.fMade (o.fAsked+1) o.fEffects o.fReads o.fLog))) (Bj (decide (q.fOp=([108,111,103]:Ac))) (AM (Cn 0 (q.fArgs.length:Int))<|Ba (O4 F (Af q.fArgs 0)) λhj=>Ba (rxF hj.1) λhh=>AM (Dl 16 (o.fLog.length+([hh]:List Ac).length))<|Ba (LM) λhk=>some ((Bb.mk 0 hk),(Ai.mk o.fAccess o.fItems () o.fMade (o.fAsked+1) o.fEffects o.fReads (o.fLog++([hh]:List Ac))))) (AM (Cn 0 (q.fArgs.length:Int))<|Ba (NI F (Af q.fArgs 0)) λhf=>Bj (decide (q.fOp=([103,101,116]:Ac))) (Ba (RM F (Ai.mk o.fAccess o.fItems () o.fMade (o.fAsked+1) o.fEffects o.fReads o.fLog) hf.1) λhb=>some ((Bb.mk 0 hb.1),(Ai.mk hb.2.fAccess hb.2.fItems () hb.2.fMade hb.2.fAsked hb.2.fEffects hb.2.fReads hb.2.fLog))) (Bj (decide (q.fOp=([115,101,99,114,101,116]:Ac))) (Ba (Uw rdF F (Ai.mk o.fAccess o.fItems () o.fMade (o.fAsked+1) o.fEffects o.fReads o.fLog) hf.1) λhd=>some (hd.1,(Ai.mk hd.2.fAccess hd.2.fItems () hd.2.fMade hd.2.fAsked hd.2.fEffects hd.2.fReads hd.2.fLog))) (Bj (decide (q.fOp=([102,101,116,99,104]:Ac))) (AM (Cn 1 (q.fArgs.length:Int))<|Ba (Gx (Af q.fArgs 1)) λhl=>some ((Bb.mk 0 hl),(Ai.mk o.fAccess o.fItems () o.fMade (o.fAsked+1) o.fEffects o.fReads o.fLog))) (Ba (IU (Ai.mk o.fAccess o.fItems () o.fMade (o.fAsked+1) o.fEffects o.fReads o.fLog) q hf.1) λhe=>Ba (LM) λhm=>some ((Bb.mk 0 hm),(Ai.mk he.fAccess he.fItems () he.fMade he.fAsked he.fEffects he.fReads he.fLog))))))))))
theorem AgM (F:Nat)(o:Ai)(v:AP)(q:A6):U2 F o v q=XL (Wo F v) (Ou F v) F o q:=rfl
theorem AgO (F:Nat)(o:Ai)(q:A6):U3 F o q=XL Q3 M0 F o q:=rfl
def conv(l:List AB)(o:Av):Ai:=⟨o.fA,l,(),true,o.fCalls,o.fEffects,D9 o.fReads,o.fLog⟩
theorem Aig {n:Int}(h0:0≤n)(h1:n≤1073741824):DC [(⟨3,n,[],0⟩:Ab)]=0:=by
 have hw:whole [(⟨3,n,[],0⟩:Ab)]=some (Fo.cell none ⟨3,n,[],0⟩ .nil):=Agc (f:=Fo.cell none ⟨3,n,[],0⟩ .nil) rfl (by simp[Fo.wf,DF,pl]);unfold DC;rw[hw];show Nq (Fo.cell none ⟨3,n,[],0⟩ .nil)=0;have hl:=Lib.itoa_length_le n (by omega) (by omega);have ht:(Fo.txt true (Fo.cell none ⟨3,n,[],0⟩ .nil)).length=(Lib.itoa n).length:=by simp[Fo.txt,GV,Np,Ip]
 have ho:(Fo.flat (Fo.cell none (⟨3,n,[],0⟩:Ab) .nil)).any MF=false:=by simp[Fo.flat,C1,MF];omega
 have hg:(Fo.flat (Fo.cell none (⟨3,n,[],0⟩:Ab) .nil)).any KQ=false:=by simp[Fo.flat,C1,KQ]
 have hf:(Fo.flat (Fo.cell none (⟨3,n,[],0⟩:Ab) .nil)).length=1:=by simp[Fo.flat,C1]
 have hd:Fo.dep (Fo.cell none (⟨3,n,[],0⟩:Ab) .nil)=1:=rfl;unfold Nq;rw[ho,hg,hf,hd,ht,Apq (show ¬ 4000<(Lib.itoa n).length by omega)];rfl
theorem Ai1 (h:Tz a=0):0≤a.fNow∧a.fNow≤1073741824:=by
 unfold Tz at h
 cases h1:(!D0 a.fTenant||!D0 a.fFunction) with
 | true=>rw[h1] at h;cases h
 | false=>
  rw[h1,Apv] at h;obtain⟨_,h⟩:=Hj h;obtain⟨_,h⟩:=Hj h
  cases h2:(decide (32<(a.fPolicy.length:Int))||decide (32<(a.fNet.length:Int))) with
  | true=>rw[h2] at h;cases h
  | false=>
   rw[h2,Apv] at h;obtain⟨_,h⟩:=Hj h;obtain⟨_,h⟩:=Hj h
   cases h3:Lr a.fNow with
   | false=>rw[h3] at h;cases h
   | true=>unfold Lr at h3;simpa using h3
theorem QH (h:G8 MB v):NG FB v=some (bif decide (DC v=0) then(v,0) else([],DC v)):=by
 unfold NG;rw[AcN h,A3]
 cases decide (DC v=0)<;>rfl
theorem WM (key:Ac):∀l:List AB,DB (l.map HG) key=(l.find? λx=>decide (x.fKey=key)).map (·.fValue)
 | []=>rfl
 | x::r=>by
  show(bif decide (x.fKey=key) then some x.fValue else DB (r.map HG) key)=_;rw[List.find?_cons,WM key r]
  cases decide (x.fKey=key)<;>rfl
theorem Ae1 {o:Ai}(hl:o.fEffects.length≤2000000)(hv:∀x∈o.fEffects,x.fValue.length≤2000000):∀(k n:Nat),k≤o.fEffects.length→k<n→
  Cg (λσ=>GD o key σ) n ((k:Int)-1)=some (match ((o.fEffects.take k).reverse.find? (JO key)) with | some x=>.ret ((bif decide (x.fKind=1) then x.fValue else KM),o) | none=>.go ()):=by
 intro k
 induction k with
 | zero=>
  intro n hk hn;obtain⟨n,rfl⟩:∃m,n=m+1:=⟨n-1,by omega⟩
  rw[Ln (body:=λσ=>GD o key σ) (o:=.go ()) (by show GD o key _=_;unfold GD;rw[AC (Apq (by omega))])];rfl
 | succ k ih=>
  intro n hk hn;obtain⟨n,rfl⟩:∃m,n=m+1:=⟨n-1,by omega⟩
  have hlt:k<o.fEffects.length:=by omega
  have hx:=hv _ (List.getElem_mem hlt);have ht:(o.fEffects.take (k+1)).reverse=o.fEffects[k]::(o.fEffects.take k).reverse:=by
   rw[List.take_add_one,Apw hlt];simp
  have hbody:GD o key (((k+1:Nat):Int)-1)=Bj (JO key o.fEffects[k]) (some (.out (.ret ((bif decide (o.fEffects[k].fKind=1) then o.fEffects[k].fValue else KM),o)))) (some (.next ((k:Int)-1))):=by
   unfold GD;rw[show(((k+1:Nat):Int)-1)=(k:Int) from by omega,AO (Apr (by omega)),AI (by omega) (by omega),BF hlt,Kr hx,A3,A8 (by omega) (by omega)];unfold JO;rw[show LM=some KM from rfl,A3]
   cases decide (o.fEffects[k].fKey=key) with
   | false=>rfl
   | true=>cases decide (o.fEffects[k].fKind=1)<;>cases decide (o.fEffects[k].fKind=2)<;>rfl
  rw[ht,List.find?_cons,Cg,hbody]
  cases JO key o.fEffects[k] with
  | true=>rfl
  | false=>exact ih n (by omega) (by omega)
theorem Xz:(D9 l).length≤l.length:=by
 unfold D9;exact Nat.le_trans (Lib.compact_length_le _) (by simp)
theorem Ae9 {l:List AB}(hi:o.fItems=l.map HG)(hI:ItA l)(he:o.fEffects.length≤2000000)(hv:∀x∈o.fEffects,x.fValue.length≤2000000)(hr:o.fReads.length≤1000) :
  RM FB (conv l o) key=some (Aa2 o key,conv l (Aa3 o key)):=by
 have hsl:=Xz (l:=o.fReads);have hil:=hI.len;unfold RM;have hel:(conv l o).fEffects.length=o.fEffects.length:=rfl;rw[hel,A8 (by omega) (by omega)];have hlp:=Ae1 (o:=conv l o) (key:=key) he hv o.fEffects.length FB (Ap8 _) (by show _<5000000;omega);have hlp2:Cg (λσ=>GD (conv l o) key σ) FB ((o.fEffects.length:Int)-1)=some (match Tb o.fEffects key with | some x=>.ret ((bif decide (x.fKind=1) then x.fValue else KM),conv l o) | none=>.go ()):=by
  refine hlp.trans ?_;show some (match ((o.fEffects.take o.fEffects.length).reverse.find? (JO key)) with | some x=>_ | none=>_)=_;rw[Aqi];rfl
 rw[hlp2,A3];unfold Aa2 Aa3
 cases Tb o.fEffects key with
 | some x=>rfl
 | none=>
  show Kn FB (conv l o) key=_;unfold Kn;have hrd:(conv l o).fReads=D9 o.fReads:=rfl;rw[hrd,BN (show Dl 16 _=true from Apr (by simp;omega)),BN (show Dl 16 _=true from Apr (by simp;omega)),Aqm,Yk (by simp;omega),A3,Abo];rw[Afh (l:=l) (p:=λx=>decide (x.fKey=key)) (ret:=λx=>(x.fValue,conv l { o with fReads:=o.fReads++[key] })) (u:=()) (body:=Ko (conv l o) key (D9 (o.fReads++[key]))) (by show l.length<5000000;omega) (λi hii=>by
   unfold Ko;have hx:=hI.v _ (List.getElem_mem hii);show Bj (decide ((i:Int)<(l.length:Int))) (AM (Cn (i:Int) (l.length:Int))<|Bj (decide ((Af l (i:Int)).fKey=key)) (Ba (Gx (Af l (i:Int)).fValue) _) _) _=_;rw[AO (Apr (by omega)),AI (by omega) (by omega),BF hii,Kr (Nat.le_trans hx.hv (by decide)),A3,A8 (by omega) (by omega)];rfl) (by
   unfold Ko;show Bj (decide ((l.length:Int)<(l.length:Int))) _ _=_;rw[AC (Apq (by omega))]),A3,hi]
  unfold Du Gc;rw[WM]
  cases l.find? λx=>decide (x.fKey=key) with
  | some x=>rfl
  | none=>rfl
theorem XK {ro:Ai}(hq:S9 q)(h:Nt a q=0){x:Ak}(hx:Ht q=some x)(hl:ro.fEffects.length≤1000):IU ro q (Do q)=some { ro with fEffects:=ro.fEffects++[x] }:=by
 obtain⟨s,h1,h2,h3,h4,_⟩:=K7 h;have hA:∀{y:Ak},Dl 56 (ro.fEffects.length+([y]:List Ak).length)=true:=fun {y}=>Apr (by simp;omega);have hc:∀i:Nat,i<q.fArgs.length→Gx (Af q.fArgs (i:Int))=some (Af q.fArgs (i:Int)):=λi hi=>Kr (Nat.le_trans (MV hq hi) (by decide));have fin:∀(k:Int) (i:Nat),q.fArgs.length=i+1→Ht q=some ⟨k,Do q,Af q.fArgs (i:Int),0⟩→
   (AM (BT .i64 ((q.fArgs.length:Int)-1))<|AM (Cn ((q.fArgs.length:Int)-1) (q.fArgs.length:Int))<|Ba (Gx (Af q.fArgs ((q.fArgs.length:Int)-1))) λhb=>AM (Dl 56 (ro.fEffects.length+([(Ak.mk k (Do q) hb 0)]:List Ak).length))<|some (Ai.mk ro.fAccess ro.fItems () ro.fMade ro.fAsked (ro.fEffects++([(Ak.mk k (Do q) hb 0)]:List Ak)) ro.fReads ro.fLog))=some { ro with fEffects:=ro.fEffects++[x] }:=λk i hi he=>by
  have hm:=hq.l;rw[A8 (by omega) (by omega),AI (by omega) (by omega),show((q.fArgs.length:Int)-1)=(i:Int) from by omega,hc i (by omega),A3,BN hA];rw[hx] at he;cases he;rfl
 unfold IU;rcases OB h1 with e | e | e | e | e | e | e | e | e | e
 ·unfold Ht at hx;rw[e] at hx;cases hx
 ·rw[AC (by rw[e];rfl),AO (by rw[e];rfl),BN hA];unfold Ht at hx;rw[e] at hx
  cases hx;rfl
 ·have hs:s=[103,0]:=by rw[e] at h1;cases h1;rfl
  rw[hs] at h2;rw[AO (by rw[e];rfl),AO (by rw[e];rfl)];exact fin 1 1 h2 (by unfold Ht;rw[e];rfl)
 ·have hs:s=[104,0]:=by rw[e] at h1;cases h1;rfl
  rw[hs] at h2;rw[AC (by rw[e];rfl),AC (by rw[e];rfl),AO (by rw[e];rfl)];exact fin 3 1 h2 (by unfold Ht;rw[e];rfl)
 ·have hs:s=[104,105,0]:=by rw[e] at h1;cases h1;rfl
  rw[hs] at h2;have hl3:q.fArgs.length=3:=h2;have hp1:0<(Af q.fArgs 1).length:=by
   have:=h3 (Af q.fArgs ((1:Nat):Int)) (by rw[BF (by omega)];exact List.getElem_mem _);exact Hv this
  have hc2:=hc 2 (by omega);rw[AC (by rw[e];rfl),AC (by rw[e];rfl),AC (by rw[e];rfl),AC (by rw[e];rfl),AI (by omega) (by omega),AI (by omega) (by omega),A8 (by omega) (by omega),AI (by omega) (by omega),show((q.fArgs.length:Int)-1)=((2:Nat):Int) from by omega,hc2,A3,BN hA];unfold Ht at hx;rw[e] at hx
  cases hx;rfl
 ·have hs:s=[103,106]:=by rw[e] at h1;cases h1;rfl
  rw[hs] at h2;rw[AC (by rw[e];rfl),AC (by rw[e];rfl),AC (by rw[e];rfl),AO (by rw[e];rfl)];exact fin 5 1 h2 (by unfold Ht;rw[e];rfl)
 ·unfold Ht at hx;rw[e] at hx;cases hx
 ·unfold Ht at hx;rw[e] at hx;cases hx
 ·unfold Ht at hx;rw[e] at hx;cases hx
 ·unfold Ht at hx;rw[e] at hx;cases hx
theorem AcM {rxF:Ac→Option Ac}{rx:Ac→Ac}{l:List AB}(h:HoA o)(hq:S9 q)(hf:o.fA.fFunction.length≤2000000)(hi:o.fItems=l.map HG)(hI:ItA l)
  (hr:∀n f,rdF n f=some (rd n f)∧(rd n f).1.length≤1048576) (hx:∀s,s≠[]→s.length≤4000→rxF s=some (rx s)):XL rdF rxF FB (conv l o) q=some ((doS rd rx o q).1,conv l (doS rd rx o q).2):=by
 obtain⟨md,a,it,u,c,ef,rs,lg⟩:=o;obtain rfl:md=true:=h.made;have hc:0≤c∧c≤1000:=h.c;have he:ef.length≤1000:=h.e;have hl:lg.length≤1000:=h.l;have hrl:rs.length≤1000:=h.r;have hA:Xm a:=h.a;have hfl:a.fFunction.length≤2000000:=hf;unfold XL doS;refine(AC rfl).trans ?_
 by_cases hb:32≤c
 ·refine(AO (Apr hb)).trans ?_;have:decide ((32:Int)≤c)=true:=Apr hb;show some _=some ((bif decide ((32:Int)≤c) then _ else _:Bb×Av).1,conv l (bif decide ((32:Int)≤c) then _ else _:Bb×Av).2);rw[this];rfl
 ·refine(AC (Apq hb)).trans ?_;refine(A8 (show -9223372036854775808≤c+1 by omega) (show c+1≤9223372036854775807 by omega)).trans ?_;have h32':decide ((32:Int)≤c)=false:=Apq hb;show _=some ((bif decide ((32:Int)≤c) then _ else _:Bb×Av).1,conv l (bif decide ((32:Int)≤c) then _ else _:Bb×Av).2);rw[h32',Apv];show Ba (Hg FB a q) _=_;rw[VO hA hfl hq,A3];dsimp only[conv]
  by_cases ha:Nt a q=0
  ·rw[AC (by rw[Apr ha];rfl),Apr ha,Ap0,Apv];obtain⟨s,h1,h2,h3,h4,_⟩:=K7 ha;have he':∀i:Nat,i<q.fArgs.length→DC (Af q.fArgs (i:Int))=0:=λi hi=>h3 _ (by rw[BF hi];exact List.getElem_mem hi)
   by_cases e1:q.fOp=[110,111,119]
   ·obtain⟨n0,n1⟩:=Ai1 (Hj ha).1;have hz:=Aig n0 n1;have hk:G8 MB [(⟨3,a.fNow,[],0⟩:Ab)]:=G8.one1 (by simp) h.now rfl;have hn:Ht q=none:=by unfold Ht;rw[e1];rfl
    rw[AO (Apr e1),hn];unfold Ae7;rw[QH hk,hz];simp only;rw[e1];unfold VJ;rw[hz];rfl
   rw[AC (Apq e1)]
   by_cases e2:q.fOp=[108,111,103]
   ·have hs:s=[0]:=by rw[e2] at h1;cases h1;rfl
    subst hs;have hl1:q.fArgs.length=1:=h2;have hn:Ht q=none:=by unfold Ht;rw[e2];rfl
    have hz:DC (Af q.fArgs 0)=0:=he' 0 (by omega);obtain⟨hn1,hn2⟩:=Ad6 hz;rw[AO (Apr e2),hn,AI (by omega) (by omega),Ab0 (M:=MB) (v:=Af q.fArgs 0) (hq.at (i:=0) (by omega)) (by decide) (by decide),A3,hx _ hn1 hn2,A3,BN (show Dl 16 _=true from Apr (by simp;omega)),show LM=some KM from rfl,A3];simp only;rw[e2];rfl
   rw[AC (Apq e2)];obtain⟨m1,m2,m3,m4⟩:=UN h1 h2 h4 (by rw[Apq e1,Apq e2];rfl);have hz0:DC (Af q.fArgs 0)=0:=he' 0 m2;have hAr:G8 MB (Af q.fArgs 0):=by have:=hq.at (i:=0) m2;exact this
   rw[AI (by omega) (by omega),RN hAr,A3,Apr hz0,m3];simp only[Bool.and_self,Ap1];rw[show(Af (Af q.fArgs 0) 0).fStr=Do q from rfl]
   by_cases e3:q.fOp=[103,101,116]
   ·have hn:Ht q=none:=by unfold Ht;rw[e3];rfl
    have hg:=Ae9 (o:=⟨true,a,it,(),c+1,ef,rs,lg⟩) (key:=Do q) hi hI (by show ef.length≤_;omega) (λy hy=>Nat.le_trans (h.ev y hy) (by decide)) hrl;dsimp only[conv] at hg;rw[AO (Apr e3),hg,A3,hn];simp only;rw[Apr e3,Ap1];rfl
   rw[AC (Apq e3)]
   by_cases e4:q.fOp=[115,101,99,114,101,116]
   ·have hn:Ht q=none:=by unfold Ht;rw[e4];rfl
    obtain⟨hr1,hr2⟩:=hr (Do q) a.fFunction;rw[AO (Apr e4),hn];simp only;rw[Apq e3,Apr e4,Ap1,Apv];unfold Uw;dsimp only;rw[hr1,A3]
    by_cases e5:(rd (Do q) a.fFunction).2.2=0
    ·rw[Apr e5,Ap0,Bi,Ap1];have hk:G8 MB [(⟨4,0,(rd (Do q) a.fFunction).1,0⟩:Ab)]:=G8.one1 hr2 (show BT .i64 0=true from by decide) rfl;unfold Ae2;rw[QH hk];unfold VJ
     by_cases hz:DC [(⟨4,0,(rd (Do q) a.fFunction).1,0⟩:Ab)]=0
     ·rw[Apr hz];rfl
     ·rw[Apq hz,Apv,Apv,A3,A3];simp only;rw[AO (by rw[Apq hz];rfl)];rfl
    ·rw[Apq e5,ApG,Cf,Apv];rfl
   rw[AC (Apq e4)]
   by_cases e5:q.fOp=[102,101,116,99,104]
   ·have hn:Ht q=none:=by unfold Ht;rw[e5];rfl
    have hs:s=[107,0]:=by rw[e5] at h1;cases h1;rfl
    subst hs;have hl2:q.fArgs.length=2:=h2;have ho:=Kr (v:=Af q.fArgs 1) (by have:=MV hq (i:=1) (by omega);simpa using Nat.le_trans this (by decide));rw[AO (Apr e5),hn,AI (by omega) (by omega),ho,A3];simp only;rw[Apq e3,Apq e4,Apr e5];rfl
   rw[AC (Apq e5)];obtain⟨x,hex⟩:∃x,Ht q=some x:=by
    unfold Ht;rcases OB h1 with e | e | e | e | e | e | e | e | e | e
    ·exact absurd e e3
    ·rw[e];exact⟨_,rfl⟩
    ·rw[e];exact⟨_,rfl⟩
    ·rw[e];exact⟨_,rfl⟩
    ·rw[e];exact⟨_,rfl⟩
    ·rw[e];exact⟨_,rfl⟩
    ·exact absurd e e4
    ·exact absurd e e5
    ·exact absurd e e1
    ·exact absurd e e2
   rw[XK hq ha hex he,A3,show LM=some KM from rfl,A3,hex]
  ·rw[AO (by rw[Apq ha];rfl),Apq ha,ApG,Ap1]
abbrev DST:Type:=(Int×Ac×Ac×(List Ac)×(List Ad)×(List A1)×Int×(List AB)×Bool×Int×(List Ak)×(List Ac)×(List Ac)×Bool×Ac×Ac×(List Ac)×(List Ad)×(List A1)×Int×Int×(List Ak)×(List Ac)×(List Ac)×(List (Ac×(List Ab))))
abbrev DGO:Type:=(Ac×Ac×(List Ac)×(List Ad)×(List A1)×Int×(List AB)×Bool×Int×(List Ak)×(List Ac)×(List Ac)×Bool×Ac×Ac×(List Ac)×(List Ad)×(List A1)×Int×Int×(List Ak)×(List Ac)×(List Ac)×(List (Ac×(List Ab))))
def dgo (l:List AB)(o:Av):DGO:=(o.fA.fTenant,o.fA.fFunction,o.fA.fOps,o.fA.fPolicy,o.fA.fNet,o.fA.fNow,l,true,o.fCalls,o.fEffects,D9 o.fReads,o.fLog,o.fMade,o.fA.fTenant,o.fA.fFunction,o.fA.fOps,o.fA.fPolicy,o.fA.fNet,o.fA.fNow,o.fCalls,o.fEffects,o.fReads,o.fLog,o.fItems)
def dst (l:List AB)(i:Nat)(o:Av):DST:=((i:Int),dgo l o)
def Ad8 (dof:Av→A6→Option (Bb×Av))(rof:Ai→A6→Option (Bb×Ai))(F:Nat)(x:Co)(l:List AB)(i:Int)(o:Av):Option (Stp DST (Out Bool DGO)):=
 Bj (decide (i<(x.fL.length:Int))) (AM (Cn i (x.fL.length:Int))<|Ba (dof o (Af x.fL i)) λhb=>Ba (rof (conv l o) (Af x.fL i)) λhd=>AM (imp (!(!decide (hb.1.fErr=hd.1.fErr))) ((HE F hb.1.fValue hd.1.fValue).isSome))<|Bj (((!decide (hb.1.fErr=hd.1.fErr))||(!(ov (HE F hb.1.fValue hd.1.fValue))))) (some (.out (.ret false))) (AM (BT .i64 (i+1))<|some (.next (i+1,hd.2.fAccess.fTenant,hd.2.fAccess.fFunction,hd.2.fAccess.fOps,hd.2.fAccess.fPolicy,hd.2.fAccess.fNet,hd.2.fAccess.fNow,hd.2.fItems,hd.2.fMade,hd.2.fAsked,hd.2.fEffects,hd.2.fReads,hd.2.fLog,hb.2.fMade,hb.2.fA.fTenant,hb.2.fA.fFunction,hb.2.fA.fOps,hb.2.fA.fPolicy,hb.2.fA.fNet,hb.2.fA.fNow,hb.2.fCalls,hb.2.fEffects,hb.2.fReads,hb.2.fLog,hb.2.fItems)))) (some (.out (.go (dgo l o))))
theorem Af0 (rd:Ac→Ac→Ac×Int×Int)(rx:Ac→Ac)(o:Av)(q:A6):(doS rd rx o q).2.fItems=o.fItems:=by
 unfold doS
 cases decide (32≤o.fCalls) with
 | true=>rfl
 | false=>
  rw[Apv]
  cases(!decide (Nt o.fA q=0)) with
  | true=>rfl
  | false=>
   rw[Apv]
   cases Ht q with
   | some x=>rfl
   | none=>
    simp only
    cases decide (q.fOp=[103,101,116]) with
    | true=>
     rw[Ap1];show(Aa3 _ (Do q)).fItems=_;unfold Aa3
     cases Tb o.fEffects (Do q)<;>rfl
    | false=>
     rw[Apv]
     cases decide (q.fOp=[115,101,99,114,101,116]) with
     | true=>rfl
     | false=>
      rw[Apv]
      cases decide (q.fOp=[102,101,116,99,104]) with
      | true=>rfl
      | false=>
       rw[Apv]
       cases decide (q.fOp=[110,111,119])<;>rfl
section
variable {dof : Av → A6 → Option (Bb × Av)} {rof : Ai → A6 → Option (Bb × Ai)} {rd : Ac → Ac → Ac × Int × Int} {rx : Ac → Ac} {x : Co} {l : List AB}
theorem Ace (hd:∀o q,HoA o→S9 q→dof o q=some (doS rd rx o q))(hro:∀o q,HoA o→S9 q→o.fA=x.fA→o.fItems=l.map HG→rof (conv l o) q=some ((doS rd rx o q).1,conv l (doS rd rx o q).2))(hr:∀n f,(rd n f).1.length≤1048576)(hq:∀q∈x.fL,S9 q)(hl:x.fL.length≤50)(h:CI x.fA i g o)(hi:i<x.fL.length)(ho:o.fItems=l.map HG) :
  ∃g' o',Ad8 dof rof FB x l (i:Int) o=some (.next (dst l (i+1) o'))∧CI x.fA (i+1) g' o'∧o'.fItems=l.map HG:=by
 have hqi:S9 (Af x.fL (i:Int)):=by rw[BF hi];exact hq _ (List.getElem_mem hi)
 have hho:=h.ho (by omega);have hs:=h.step hqi hr rx;have hit:=Af0 rd rx o (Af x.fL (i:Int));unfold Ad8;rw[AO (Apr (by omega)),AI (by omega) (by omega),hd o _ hho hqi,A3,hro o _ hho hqi h.acc ho,A3];generalize doS rd rx o (Af x.fL (i:Int))=r at hs hit;obtain⟨s1,s2,s3,s4⟩:=hs;have hv:r.1.fValue.length≤1048576∧∃g',CI x.fA (i+1) g' r.2:=by
  by_cases hz:r.1.fErr=0
  ·obtain⟨q1,q2,q3⟩:=s1 hz;exact⟨q1.hv,_,q3⟩
  ·obtain⟨q1,q2,q3,q4⟩:=s2 hz;exact⟨by rw[q1];decide,_,q4⟩
 obtain⟨hv1,g',hc⟩:=hv;refine⟨g',r.2,?_,hc,hit.trans ho⟩;simp only;rw[Uy (v:=r.1.fValue) (by show _<5000000;omega) (by omega),Option.isSome_some,C4,C6,DN,AC (by simp),A8 (by omega) (by omega)];have hmd:=(hc.ho (by omega)).made;show some (Stp.next _)=some (Stp.next (((i+1:Nat):Int),dgo l r.2));rfl
theorem Xe (hd:∀o q,HoA o→S9 q→dof o q=some (doS rd rx o q))(hro:∀o q,HoA o→S9 q→o.fA=x.fA→o.fItems=l.map HG→rof (conv l o) q=some ((doS rd rx o q).1,conv l (doS rd rx o q).2))(hr:∀n f,(rd n f).1.length≤1048576)(hq:∀q∈x.fL,S9 q)(hl:x.fL.length≤50)
  {body:DST→Option (Stp DST (Out Bool DGO))} (hb:∀(i:Nat) (o:Av),body (dst l i o)=Ad8 dof rof FB x l (i:Int) o) {o:Av} (h:CI x.fA 0 0 o) (ho:o.fItems=l.map HG) :
  ∃i g o',Cg body FB (dst l 0 o)=some (.go (dgo l o'))∧CI x.fA i g o'∧i≤50:=by
 obtain⟨r,h1,h2⟩:=H3 (body:=body) (λσ=>∃g i o,σ=dst l i o∧CI x.fA i g o∧i≤x.fL.length∧o.fItems=l.map HG) (λσ=>((x.fL.length:Int)-σ.1).toNat) (λr=>∃g o' i,r = .go (dgo l o')∧CI x.fA i g o'∧i≤50) (λσ hI=>by
  obtain⟨g,i,o,rfl,hc,hi,hit⟩:=hI;rw[hb]
  by_cases hlt:i<x.fL.length
  ·obtain⟨g',o',e,hc',hit'⟩:=Ace hd hro hr hq hl hc hlt hit;refine .inl ⟨_,e,⟨g',i+1,o',rfl,hc',by omega,hit'⟩,?_⟩;show((x.fL.length:Int)-((i+1:Nat):Int)).toNat<((x.fL.length:Int)-(i:Int)).toNat;omega
  ·refine .inr ⟨.go (dgo l o),?_,g,o,i,rfl,hc,by omega⟩;unfold Ad8;rw[AC (Apq (by omega))]) FB (dst l 0 o) ⟨0,0,o,rfl,h,ApY _,ho⟩ (by show((x.fL.length:Int)-((0:Nat):Int)).toNat<5000000;omega)
 obtain⟨g,o',i,rfl,h3,h4⟩:=h2;exact⟨i,g,o',h1,h3,h4⟩
end
theorem VM {ro:Ai}(hl:ro.fEffects.length≤1000000)(hv:∀x∈ro.fEffects,x.fValue.length≤2000000):Hc FB ro=some ro.fEffects:=by
 unfold Hc;have hr:=(Kg (R:=List Ak) (l:=ro.fEffects) (mk:=λi acc=>(acc,(i:Int))) (body:=λσ=>Ee ro σ.1 σ.2) (fin:=λacc:List Ak=>acc) (λ_ acc x=>(.go (acc++[x]):Out _ (List Ak))) (λi acc=>acc.length=i) (λi hi acc hP=>⟨by
  show Ee ro acc (i:Int)=_;unfold Ee;have hx:=hv _ (List.getElem_mem hi);rw[AO (Apr (by omega)),AI (by omega) (by omega),BF hi,Kr hx,A3,BN (show Dl 56 _=true from Apr (by simp;omega)),A8 (by omega) (by omega)];rfl,λb hb=>by cases hb;simp[hP]⟩) (λacc _=>by show Ee ro acc _=_;unfold Ee;rw[AC (Apq (by omega))]) (F:=FB) (by show ro.fEffects.length<5000000;omega) (a:=[]) rfl).1
 rw[show Cg (λσ=>Ee ro σ.1 σ.2) FB (([]:List Ak),0)=_ from hr,A3,Lh (λ(acc:List Ak) x=>acc++[x])];have:∀(l a:List Ak),l.foldl (λa v=>a++[v]) a=a++l:=λl=>by
  induction l with
  | nil=>intro a;simp
  | cons x r ih=>intro a;simp[ih]
 rw[this];rfl
theorem Ail (l:List AB)(h:CI a i g o)(hi:i≤50):Kx FB o.fA.fTenant o.fA.fFunction o.fA.fOps o.fA.fPolicy o.fA.fNet o.fA.fNow l true o.fCalls o.fEffects (D9 o.fReads) o.fLog o.fMade o.fA.fTenant o.fA.fFunction o.fA.fOps o.fA.fPolicy o.fA.fNet o.fA.fNow o.fCalls o.fEffects o.fReads o.fLog o.fItems=some true:=by
 have hho:=h.ho (by omega);have he:=hho.e;have hll:=hho.l;have hrr:=hho.r;have hsl:=Xz (l:=o.fReads);have hev:∀x∈o.fEffects,x.fValue.length≤2000000:=λx hx=>Nat.le_trans (hho.ev x hx) (by decide);have he1:IE FB o=some o.fEffects:=Aay (by omega) hev;have he2:Hc FB (conv l o)=some o.fEffects:=VM (by show o.fEffects.length≤_;omega) hev;have hr1:MN o=some (D9 o.fReads):=Aft (by omega);have hr2:KH (conv l o)=some (D9 o.fReads):=by
  unfold KH;rw[BN (show Dl 16 _=true from Apr (by show(([]:List Ac).length+(D9 o.fReads).length)*16≤140737488355328;simp;omega))];rfl
 have hl1:Afu o=some o.fLog:=by
  unfold Afu TN;rw[BN (show Dl 16 _=true from Apr (by show(([]:List Ac).length+o.fLog.length)*16≤140737488355328;simp;omega))];rfl
 have hl2:PW (conv l o)=some o.fLog:=by
  unfold PW;rw[BN (show Dl 16 _=true from Apr (by show(([]:List Ac).length+o.fLog.length)*16≤140737488355328;simp;omega))];rfl
 unfold Kx;show(Ba (IE FB o) λhb=>Ba (Hc FB (conv l o)) λhd=>Ba (Jd FB hb hd) λhf=>Bj (hf) (Ba (MN o) λhg=>Ba (KH (conv l o)) λhh=>Ba (L4 FB hg hh) λhj=>Bj (hj) (Ba (Afu o) λhk=>Ba (PW (conv l o)) λhl=>Ba (L4 FB hk hl) λhm=>Bj (hm) (Ba (HK FB) λhn=>Gn hn) (Gn false)) (Gn false)) (Gn false))=_;rw[he1,A3,he2,A3,Tt (by omega) hev,A3,Cf,hr1,A3,hr2,A3,Td (by omega),A3,Cf,hl1,A3,hl2,A3,Td (by omega),A3,Cf,I5];rfl
theorem AcD:D9 ([]:List Ac)=[]:=ApK (Nat.le_zero.1 (Xz (l:=[])))
theorem AbL {x:Co}(h:Aks x)(hfl:x.fA.fFunction.length≤2000000)(hk:∀y∈x.fItems,y.fKey.length≤2000000):UX FB x=some true:=by
 have hT:=AhR h.a h.it;have hR:=Abv h.a hfl h.it hk;unfold UX
 cases hN:x.fNone with
 | false=>
  obtain⟨r4,e4,hv⟩:=Aae hN h.se;rw[ApG,Cf,e4,A3]
  by_cases hz:Qb x.fA x.fItems=0
  ·rw[Apr hz,Ap1] at hT hR;rw[hT,Option.isSome_some,Cf,A3,hR,Option.isSome_some,Cf,A3]
   by_cases hl:50<x.fL.length
   ·rw[AO (Apr (by omega)),I5];rfl
   ·rw[AC (Apq (by omega))];have hits:(Ec x.fA x.fItems).fItems=x.fItems.map HG:=Adn (Acm _ (Aaf (Hj hz).2));obtain⟨i,g,o',e1,hc,hi⟩:=Xe (dof:=λo q=>Sn FB o r4.1.1 r4.1.2 q) (rof:=λo q=>U2 FB o r4.2 q) (rd:=rdS r4.1.1 r4.1.2) (rx:=λs=>RG (vR r4.1.1 r4.1.2) s.length s) (λo q ho hq=>by
     rw[AlH];exact Adw ho hq (λn f=>⟨Ox hv n f,by obtain⟨r,q1,q2⟩:=RB hv.vk n f;rw[Ox hv n f] at q1;cases q1;exact q2⟩) (λs hs hl=>Zh hv.vk hs (by omega))) (λo q ho hq hfa hit=>by
     rw[AgM];exact AcM ho hq (by rw[hfa];exact hfl) hit h.it (λn f=>⟨Agk hv (by decide) n f,by obtain⟨r,q1,q2⟩:=RB hv.vk n f;rw[Ox hv n f] at q1;cases q1;exact q2⟩) (λs hs hl=>Abd hv (by decide) (by omega))) (λn f=>by
     obtain⟨r,q1,q2⟩:=RB hv.vk n f;rw[Ox hv n f] at q1;cases q1;exact q2) h.q (by omega) (body:=λσ=>OO FB x r4 σ.1 σ.2.1 σ.2.2.1 σ.2.2.2.1 σ.2.2.2.2.1 σ.2.2.2.2.2.1 σ.2.2.2.2.2.2.1 σ.2.2.2.2.2.2.2.1 σ.2.2.2.2.2.2.2.2.1 σ.2.2.2.2.2.2.2.2.2.1 σ.2.2.2.2.2.2.2.2.2.2.1 σ.2.2.2.2.2.2.2.2.2.2.2.1 σ.2.2.2.2.2.2.2.2.2.2.2.2.1 σ.2.2.2.2.2.2.2.2.2.2.2.2.2.1 σ.2.2.2.2.2.2.2.2.2.2.2.2.2.2.1 σ.2.2.2.2.2.2.2.2.2.2.2.2.2.2.2.1 σ.2.2.2.2.2.2.2.2.2.2.2.2.2.2.2.2.1 σ.2.2.2.2.2.2.2.2.2.2.2.2.2.2.2.2.2.1 σ.2.2.2.2.2.2.2.2.2.2.2.2.2.2.2.2.2.2.1 σ.2.2.2.2.2.2.2.2.2.2.2.2.2.2.2.2.2.2.2.1 σ.2.2.2.2.2.2.2.2.2.2.2.2.2.2.2.2.2.2.2.2.1 σ.2.2.2.2.2.2.2.2.2.2.2.2.2.2.2.2.2.2.2.2.2.1 σ.2.2.2.2.2.2.2.2.2.2.2.2.2.2.2.2.2.2.2.2.2.2.1 σ.2.2.2.2.2.2.2.2.2.2.2.2.2.2.2.2.2.2.2.2.2.2.2.1 σ.2.2.2.2.2.2.2.2.2.2.2.2.2.2.2.2.2.2.2.2.2.2.2.2) (λi o=>rfl) (CI.new h.a h.now h.it hz) hits
    rw[show(0,(Gq x.fA x.fItems,()).1.fAccess.fTenant,(Gq x.fA x.fItems,()).1.fAccess.fFunction,(Gq x.fA x.fItems,()).1.fAccess.fOps,(Gq x.fA x.fItems,()).1.fAccess.fPolicy,(Gq x.fA x.fItems,()).1.fAccess.fNet,(Gq x.fA x.fItems,()).1.fAccess.fNow,(Gq x.fA x.fItems,()).1.fItems,(Gq x.fA x.fItems,()).1.fMade,(Gq x.fA x.fItems,()).1.fAsked,(Gq x.fA x.fItems,()).1.fEffects,(Gq x.fA x.fItems,()).1.fReads,(Gq x.fA x.fItems,()).1.fLog,(Ec x.fA x.fItems,()).1.fMade,(Ec x.fA x.fItems,()).1.fA.fTenant,(Ec x.fA x.fItems,()).1.fA.fFunction,(Ec x.fA x.fItems,()).1.fA.fOps,(Ec x.fA x.fItems,()).1.fA.fPolicy,(Ec x.fA x.fItems,()).1.fA.fNet,(Ec x.fA x.fItems,()).1.fA.fNow,(Ec x.fA x.fItems,()).1.fCalls,(Ec x.fA x.fItems,()).1.fEffects,(Ec x.fA x.fItems,()).1.fReads,(Ec x.fA x.fItems,()).1.fLog,(Ec x.fA x.fItems,()).1.fItems)=dst x.fItems 0 (Ec x.fA x.fItems) from by simp only[dst,dgo,Ec,Gq,AcD];rfl,e1,A3];exact Ail x.fItems hc hi
  ·rw[Apq hz,Apv] at hT hR;rw[hT,Option.isSome_none,Bi,Aaw h.a h.it hz,A3,hR,Option.isSome_none,Bi,U1 h.a hfl h.it hk hz,A3];rw[AC (by simp),BN (by simp[hz]),I5];rfl
 | true=>
  rw[Ap0,Bi];have eN:NY FB x=some ((),()):=by unfold NY;rw[hN];rfl
  rw[eN,A3]
  by_cases hz:Qb x.fA x.fItems=0
  ·rw[Apr hz,Ap1] at hT hR;rw[hT,Option.isSome_some,Cf,A3,hR,Option.isSome_some,Cf,A3]
   by_cases hl:50<x.fL.length
   ·rw[AO (Apr (by omega)),I5];rfl
   ·rw[AC (Apq (by omega))];have hits:(Ec x.fA x.fItems).fItems=x.fItems.map HG:=Adn (Acm _ (Aaf (Hj hz).2));obtain⟨i,g,o',e1,hc,hi⟩:=Xe (dof:=λo q=>AhV FB o q) (rof:=λo q=>U3 FB o q) (rd:=λn f=>([],0,10)) (rx:=λs=>s) (λo q ho hq=>by
     rw[AlJ];exact Adw ho hq (λn f=>⟨rfl,by simp⟩) (λs hs hl=>rfl)) (λo q ho hq hfa hit=>by
     rw[AgO];exact AcM ho hq (by rw[hfa];exact hfl) hit h.it (λn f=>⟨rfl,by simp⟩) (λs hs hl=>rfl)) (λn f=>by simp) h.q (by omega) (body:=λσ=>ON FB x σ.1 σ.2.1 σ.2.2.1 σ.2.2.2.1 σ.2.2.2.2.1 σ.2.2.2.2.2.1 σ.2.2.2.2.2.2.1 σ.2.2.2.2.2.2.2.1 σ.2.2.2.2.2.2.2.2.1 σ.2.2.2.2.2.2.2.2.2.1 σ.2.2.2.2.2.2.2.2.2.2.1 σ.2.2.2.2.2.2.2.2.2.2.2.1 σ.2.2.2.2.2.2.2.2.2.2.2.2.1 σ.2.2.2.2.2.2.2.2.2.2.2.2.2.1 σ.2.2.2.2.2.2.2.2.2.2.2.2.2.2.1 σ.2.2.2.2.2.2.2.2.2.2.2.2.2.2.2.1 σ.2.2.2.2.2.2.2.2.2.2.2.2.2.2.2.2.1 σ.2.2.2.2.2.2.2.2.2.2.2.2.2.2.2.2.2.1 σ.2.2.2.2.2.2.2.2.2.2.2.2.2.2.2.2.2.2.1 σ.2.2.2.2.2.2.2.2.2.2.2.2.2.2.2.2.2.2.2.1 σ.2.2.2.2.2.2.2.2.2.2.2.2.2.2.2.2.2.2.2.2.1 σ.2.2.2.2.2.2.2.2.2.2.2.2.2.2.2.2.2.2.2.2.2.1 σ.2.2.2.2.2.2.2.2.2.2.2.2.2.2.2.2.2.2.2.2.2.2.1 σ.2.2.2.2.2.2.2.2.2.2.2.2.2.2.2.2.2.2.2.2.2.2.2.1 σ.2.2.2.2.2.2.2.2.2.2.2.2.2.2.2.2.2.2.2.2.2.2.2.2) (λi o=>rfl) (CI.new h.a h.now h.it hz) hits
    rw[show(0,(Gq x.fA x.fItems,()).1.fAccess.fTenant,(Gq x.fA x.fItems,()).1.fAccess.fFunction,(Gq x.fA x.fItems,()).1.fAccess.fOps,(Gq x.fA x.fItems,()).1.fAccess.fPolicy,(Gq x.fA x.fItems,()).1.fAccess.fNet,(Gq x.fA x.fItems,()).1.fAccess.fNow,(Gq x.fA x.fItems,()).1.fItems,(Gq x.fA x.fItems,()).1.fMade,(Gq x.fA x.fItems,()).1.fAsked,(Gq x.fA x.fItems,()).1.fEffects,(Gq x.fA x.fItems,()).1.fReads,(Gq x.fA x.fItems,()).1.fLog,(Ec x.fA x.fItems,()).1.fMade,(Ec x.fA x.fItems,()).1.fA.fTenant,(Ec x.fA x.fItems,()).1.fA.fFunction,(Ec x.fA x.fItems,()).1.fA.fOps,(Ec x.fA x.fItems,()).1.fA.fPolicy,(Ec x.fA x.fItems,()).1.fA.fNet,(Ec x.fA x.fItems,()).1.fA.fNow,(Ec x.fA x.fItems,()).1.fCalls,(Ec x.fA x.fItems,()).1.fEffects,(Ec x.fA x.fItems,()).1.fReads,(Ec x.fA x.fItems,()).1.fLog,(Ec x.fA x.fItems,()).1.fItems)=dst x.fItems 0 (Ec x.fA x.fItems) from by simp only[dst,dgo,Ec,Gq,AcD];rfl,e1,A3];exact Ail x.fItems hc hi
  ·rw[Apq hz,Apv] at hT hR;rw[hT,Option.isSome_none,Bi,Aaw h.a h.it hz,A3,hR,Option.isSome_none,Bi,U1 h.a hfl h.it hk hz,A3];rw[AC (by simp),BN (by simp[hz]),I5];rfl
end Go.Proofs.YtphnhpcjnmmhiaaGreatDoor
namespace Go.Proofs.YtphnhpcjnmmhiaaGreatDoor.lawHostDoes
open Go
set_option linter.unusedVariables false
theorem law:Law:=λx h=>⟨FB,by
 have h':Ajl x=true:=h;unfold Ajl at h';rw[Aps,Aps,Aps,Aps] at h';have h2:=h'.1.1.1.2;rw[Aps] at h2;refine AbL (Aks.ofB h) (Xm.fnB h'.1.1.1.1) λy hy=>?_;have:=List.all_eq_true.1 h2.1 y hy;unfold Ajm at this;rw[Aps,Aps] at this;have:=JA this.1.1;omega⟩
end Go.Proofs.YtphnhpcjnmmhiaaGreatDoor.lawHostDoes
