/-
  Texts of the proof, put together: LaD, LaE, LaL, LaF, LaG, LaH, LaI, LaJ, LaA0, LaK, LaM, LwHConfines.
-/
import Derived.Test.YtmjlemhondjfhaaGreatDoorHC5
import Derived.Lib.RowBridge
namespace Go.Proofs.YtmjlemhondjfhaaGreatDoor
open Go
set_option linter.unusedVariables false
set_option linter.unusedSimpArgs false
def DX (g:Nat→Int):Nat→Nat→Int
 | _,0=>0
 | i,k+1=>bif decide (g i=0) then DX g (i+1) k else g i
theorem V8 {U:Type}{N:Nat}{g:Nat→Int}{body:Int→Option (Stp Int (Out Int U))}{u:U}(hb:∀i:Nat,i<N→body (i:Int)=B0 (!decide (g i=0)) (some (.out (.ret (g i)))) (some (.next ((i:Int)+1))))(he:body (N:Int)=some (.out (.go u))) :
  ∀(k n i:Nat),i+k=N→k<n→Cj body n (i:Int)=some (bif decide (DX g i k=0) then .go u else .ret (DX g i k)):=by
 intro k
 induction k with
 | zero=>
  intro n i h hn;obtain⟨n,rfl⟩:∃m,n=m+1:=⟨n-1,by omega⟩
  obtain rfl:i=N:=by omega
  rw[Cj,he];rfl
 | succ k ih=>
  intro n i h hn;obtain⟨n,rfl⟩:∃m,n=m+1:=⟨n-1,by omega⟩
  rw[Cj,hb i (by omega),DX]
  cases hg:decide (g i=0) with
  | true=>exact ih n (i+1) (by omega) (by omega)
  | false=>simp only[Afn,Cg,Afc,hg]
theorem I6 {R:Type}{N:Nat}{g:Nat→Int}{body:Int→Option (Stp Int (Out Int Unit))}{F:Nat}{K:Option Int}(hF:N<F)(hb:∀i:Nat,i<N→body (i:Int)=B0 (!decide (g i=0)) (some (.out (.ret (g i)))) (some (.next ((i:Int)+1))))(he:body (N:Int)=some (.out (.go ()))) :
  Bs (Cj body F 0) (Cf λ_=>K)=bif decide (DX g 0 N=0) then K else some (DX g 0 N):=by
 have:=V8 (u:=()) hb he N F 0 (by omega) hF;rw[show Cj body F 0=_ from this,AY]
 cases decide (DX g 0 N=0)<;>rfl
theorem RH {g:Nat→Int}:∀{k i:Nat},DX g i k=0→∀j,i≤j→j<i+k→g j=0
 | 0,i,_,j,h1,h2=>by omega
 | k+1,i,h,j,h1,h2=>by
  rw[DX] at h
  cases hg:decide (g i=0) with
  | false=>
   rw[hg] at h;exact absurd h (of_decide_eq_false hg)
  | true=>
   rw[hg] at h;rcases Nat.eq_or_lt_of_le h1 with rfl | h3
   ·exact AfC hg
   ·exact RH (k:=k) (i:=i+1) h j h3 (by omega)
theorem V7 {R U:Type}{N:Nat}{p:Nat→Bool}{c:R}{body:Int→Option (Stp Int (Out R U))}{u:U}{F:Nat}(hF:N<F)(hb:∀i:Nat,i<N→body (i:Int)=B0 (p i) (some (.out (.ret c))) (some (.next ((i:Int)+1))))(he:body (N:Int)=some (.out (.go u))) :
  Cj body F 0=some (bif (List.range N).any p then .ret c else .go u):=by
 rw[JE (l:=List.range N) (p:=p) (ret:=λ_=>c) (u:=u) (by simpa using hF) (λi h=>by
  rw[List.getElem_range];exact hb i (by simpa using h)) (by simpa using he)]
 cases h:(List.range N).findIdx? p with
 | none=>
  have:(List.range N).any p=false:=by
   rw[List.any_eq_false];intro x hx;simpa using List.findIdx?_eq_none_iff.1 h x hx
  rw[this];rfl
 | some j=>
  obtain⟨hj,h1,_⟩:=List.findIdx?_eq_some_iff_getElem.1 h;rw[List.any_eq_true.2 ⟨_,List.getElem_mem hj,h1⟩];rfl
def Qg (a b:Int):Int:=bif decide (a=0) then b else a
theorem Ni (a b:Int):(bif decide (a=0) then some b else some a:Option Int)=some (Qg a b):=by unfold Qg;cases decide (a=0)<;>rfl
theorem Qf {a b:Int}(h:Qg a b=0):a=0∧b=0:=by
 unfold Qg at h
 cases hd:decide (a=0) with
 | true=>rw[hd] at h;exact⟨AfC hd,h⟩
 | false=>rw[hd] at h;exact absurd h (of_decide_eq_false hd)
theorem Adr {a:Int}{x:Option Int}{b:Int}(h:x=some b):B0 (!decide (a=0)) (some a) x=some (Qg a b):=by
 rw[h];unfold Qg;cases decide (a=0)<;>rfl
theorem Xc {α U:Type}{p:Bool}{c:Int}(hc:c≠0)(x:Option (Stp α (Out Int U))):B0 p (some (.out (.ret c))) x=B0 (!decide ((bif p then c else 0)=0)) (some (.out (.ret (bif p then c else 0)))) x:=by
 cases p with
 | true=>rw[show(bif true then c else 0)=c from rfl,AeZ hc];rfl
 | false=>rfl
def Iv (op:Ah):Option (List Nat)×Bool:=
 bif decide (op=[103,101,116]) then(some [88],true) else bif decide (op=[100,101,108,101,116,101]) then(some [88],true) else bif decide (op=[112,117,116]) then(some [88,0],true) else bif decide (op=[115,101,110,100]) then(some [89,0],true) else bif decide (op=[116,105,109,101,114]) then(some [89,90,0],true) else bif decide (op=[115,105,103,110,97,108]) then(some [88,91],true) else bif decide (op=[115,101,99,114,101,116]) then(some [89],true) else bif decide (op=[102,101,116,99,104]) then(some [92,0],true) else bif decide (op=[110,111,119]) then(some [],false) else bif decide (op=[108,111,103]) then(some [0],false) else(none,false)
theorem OL (op:Ah):JL op=some (Iv op):=by
 unfold JL Iv;simp only[Kr]
theorem Lq {α:Type}(P:α→Prop){p:Bool}{a b:α}(ha:P a)(hb:P b):P (bif p then a else b):=by cases p<;>assumption
theorem Ty (op:Ah)(P:Option (List Nat)×Bool→Prop)(h1:P (some [88],true))(h2:P (some [88,0],true))(h3:P (some [89,0],true))(h4:P (some [89,90,0],true))(h5:P (some [88,91],true))(h6:P (some [89],true))(h7:P (some [92,0],true))(h8:P (some [],false))(h9:P (some [0],false))(h0:P (none,false)):P (Iv op):=by
 unfold Iv;exact Lq P h1 (Lq P h1 (Lq P h2 (Lq P h3 (Lq P h4 (Lq P h5 (Lq P h6 (Lq P h7 (Lq P h8 (Lq P h9 h0)))))))))
theorem Vm (op:Ah):∀s,(Iv op).1=some s→∀k∈s,k=0∨k=88∨k=89∨k=90∨k=91∨k=92:=by
 refine Ty op (λt=>∀s,t.1=some s→∀k∈s,k=0∨k=88∨k=89∨k=90∨k=91∨k=92) ?_ ?_ ?_ ?_ ?_ ?_ ?_ ?_ ?_ ?_<;>intro s hs<;>cases hs<;>simp
structure Y6 (a:AT):Prop where
 t:a.fTenant.length≤2000000
 o:a.fOps.length≤2000000
 p:a.fPolicy.length≤2000000
 st:∀x∈a.fPolicy,Rg x
 n:a.fNet.length≤2000000
def AdD (a:AT)(i:Nat):Int:=bif Option.isNone (Iv (Ao a.fOps (i:Int))).1 then 4 else 0
def AcE (a:AT)(i:Nat):Int:=bif decide (0<(i:Int))&&(Do (Ao a.fOps (i:Int)) (Ao a.fOps ((i:Int)-1))||decide (Ao a.fOps (i:Int)=Ao a.fOps ((i:Int)-1))) then 11 else 0
def Qw (n:Int):Bool:=decide (0≤n)&&decide (n≤1073741824)
def Y1 (a:AT):Int:=
 bif !CK a.fTenant||!CK a.fFunction then 4 else
 Qg (DX (AdD a) 0 a.fOps.length) (Qg (DX (AcE a) 0 a.fOps.length) (bif decide (32<(a.fPolicy.length:Int))||decide (32<(a.fNet.length:Int)) then 3 else
 Qg (DX (λi=>Vz (Ao a.fPolicy (i:Int))) 0 a.fPolicy.length) (Qg (DX (λi=>NY (Ao a.fNet (i:Int))) 0 a.fNet.length) (bif !Qw a.fNow then 2 else 0))))
theorem M4 {a:AT}(h:Y6 a):Kq FB a=some (Y1 a):=by
 have h0:=h.o;have h1:=h.p;have h2:=h.n;have e5:GC a=some (bif !Qw a.fNow then 2 else 0):=by
  unfold GC GW;rw[AY];exact Kr _ _ _
 have e4:GD FB a=some (Qg (DX (λi=>NY (Ao a.fNet (i:Int))) 0 a.fNet.length) (bif !Qw a.fNow then 2 else 0)):=by
  unfold GD;rw[I6 (R:=Unit) (N:=a.fNet.length) (g:=λi=>NY (Ao a.fNet (i:Int))) (K:=GC a) (by show a.fNet.length<5000000;omega) (λi hi=>by
   unfold Hp;rw[Bo (Afa (by omega)),Bh (by omega) (by omega),Qm,AY,AX (by omega) (by omega)]) (by unfold Hp;rw[Bg (AeZ (by omega))]),e5]
  exact Ni _ _
 have e3:GF FB a=some (bif decide (32<(a.fPolicy.length:Int))||decide (32<(a.fNet.length:Int)) then 3 else Qg (DX (λi=>Vz (Ao a.fPolicy (i:Int))) 0 a.fPolicy.length) (Qg (DX (λi=>NY (Ao a.fNet (i:Int))) 0 a.fNet.length) (bif !Qw a.fNow then 2 else 0))):=by
  unfold GF;rw[I6 (R:=Unit) (N:=a.fPolicy.length) (g:=λi=>Vz (Ao a.fPolicy (i:Int))) (K:=GD FB a) (by show a.fPolicy.length<5000000;omega) (λi hi=>by
   unfold Hq;have hm:Rg (Ao a.fPolicy (i:Int)):=by rw[BU hi];exact h.st _ (List.getElem_mem hi)
   rw[Bo (Afa (by omega)),Bh (by omega) (by omega),Qc hm,AY,AX (by omega) (by omega)]) (by unfold Hq;rw[Bg (AeZ (by omega))]),e4,Ni,Kr]
 have e2:GG FB a=some (Qg (DX (AcE a) 0 a.fOps.length) (bif decide (32<(a.fPolicy.length:Int))||decide (32<(a.fNet.length:Int)) then 3 else Qg (DX (λi=>Vz (Ao a.fPolicy (i:Int))) 0 a.fPolicy.length) (Qg (DX (λi=>NY (Ao a.fNet (i:Int))) 0 a.fNet.length) (bif !Qw a.fNow then 2 else 0)))):=by
  unfold GG;rw[I6 (R:=Unit) (N:=a.fOps.length) (g:=AcE a) (K:=GF FB a) (by show a.fOps.length<5000000;omega) (λi hi=>by
   unfold Ht;have hk:imp (decide (0<(i:Int))) (Cn (i:Int) (a.fOps.length:Int))=true:=by rw[Qx (by omega) (by omega)];exact CZ _
   have hk2:imp (decide (0<(i:Int))) (BM .i64 ((i:Int)-1))=true:=by rw[JI (by omega) (by omega)];exact CZ _
   have hk3:imp (decide (0<(i:Int))) (Cn ((i:Int)-1) (a.fOps.length:Int))=true:=by
    by_cases h3:0<(i:Int)
    ·rw[Qx (by omega) (by omega)];exact CZ _
    ·rw[AeZ h3];rfl
   rw[Bo (Afa (by omega)),hk,hk2,hk3,CA,CA,CA,AX (by omega) (by omega),Xc (by decide)];rfl) (by unfold Ht;rw[Bg (AeZ (by omega))]),e3,Ni]
 unfold Kq Y1;rw[I6 (R:=Unit) (N:=a.fOps.length) (g:=AdD a) (K:=GG FB a) (by show a.fOps.length<5000000;omega) (λi hi=>by
  unfold Hu;rw[Bo (Afa (by omega)),Bh (by omega) (by omega),OL,AY,AX (by omega) (by omega),Xc (by decide)];rfl) (by unfold Hu;rw[Bg (AeZ (by omega))]),e2,Ni,Kr]
def U4 (l:List Ah)(x:Ah):Bool:=l.any λy=>decide (x=y)
theorem Vq {l:List Ah}(hl:l.length≤2000000)(x:Ah):MT FB l x=some (U4 l x):=by
 unfold MT MS HA;rw[Oc (l:=l) (p:=λy=>decide (x=y)) (F:=FB) (body:=EF l x) (by show l.length<5000000;omega) (λi h=>by
  unfold EF;rw[Bo (Afa (by omega)),Bh (by omega) (by omega),BU h,AX (by omega) (by omega)]) (by unfold EF;rw[Bg (AeZ (by omega))]),AY,ES]
 rfl
abbrev MB:Nat:=1048576
structure RS (q:AR):Prop where
 l:q.fArgs.length≤2000000
 v:∀v∈q.fArgs,Gh MB v
theorem RS.at {q:AR}(h:RS q){i:Nat}(hi:i<q.fArgs.length):Gh MB (Ao q.fArgs (i:Int)):=by rw[BU hi];exact h.v _ (List.getElem_mem hi)
theorem Pf {v:List Ab}(h:Gh MB v):JX FB v=some (EU v):=Rt h (by decide) (by decide)
theorem Yl {q:AR}(h:RS q):HI FB q.fArgs=some (q.fArgs.any λv=>!decide (EU v=0)):=by
 have hl:=h.l;unfold HI WM Le;rw[Oc (l:=q.fArgs) (p:=λv=>!decide (EU v=0)) (F:=FB) (body:=IB FB q.fArgs) (by show q.fArgs.length<5000000;omega) (λi hi=>by
  unfold IB LD;rw[Bo (Afa (by omega)),Bh (by omega) (by omega),BU hi,Pf (h.v _ (List.getElem_mem hi)),AY,AY,AX (by omega) (by omega)]) (by unfold IB;rw[Bg (AeZ (by omega))]),AY,ES]
theorem Lp {v:List Ab}(h:EU v=0):0<v.length:=by
 cases v with
 | nil=>exact absurd h (by decide)
 | cons c r=>simp
def Aao (k:Nat)(v:List Ab):Bool:=
 bif decide (k=88) then decide ((Ao v 0).fKind=4)&&Nu (Ao v 0).fStr else bif decide (k=89) then decide ((Ao v 0).fKind=4)&&CK (Ao v 0).fStr else bif decide (k=90) then decide ((Ao v 0).fKind=3)&&Qw (Ao v 0).fInt else
 bif decide (k=91) then decide (1<(v.length:Int))&&(decide ((Ao v 0).fKind=5)&&decide ((Ao v 1).fKind=4)) else(Aam (Ao v 0).fStr (decide ((Ao v 0).fKind=4))).2.2
theorem Nw {v:List Ab}(h:0<v.length):IK v=some ((Ao v 0).fStr,decide ((Ao v 0).fKind=4)):=by
 unfold IK;rw[Bh (by omega) (by omega)]
theorem Gh.str {v:List Ab}(h:Gh MB v)(h0:0<v.length):(Ao v 0).fStr.length≤1048576:=by
 have:=(h.hc _ (List.getElem_mem h0)).1
 rwa [← BU h0] at this
theorem AbK {k:Nat}{v:List Ab}(hv:Gh MB v)(h0:0<v.length)(hk:k=88∨k=89∨k=90∨k=91∨k=92):U9 FB k v=some (Aao k v):=by
 have hs:=hv.str h0;have e1:Aab v=some (decide ((Ao v 0).fKind=4)&&Nu (Ao v 0).fStr):=by unfold Aab;rw[Nw h0];rfl
 have e2:U7 v=some (decide ((Ao v 0).fKind=4)&&CK (Ao v 0).fStr):=by unfold U7;rw[Nw h0];rfl
 have e3:Q6 v=some (decide ((Ao v 0).fKind=3)&&Qw (Ao v 0).fInt):=by
  unfold Q6 GW;rw[Bh (by omega) (by omega),Option.isSome_some,CZ,CA];rfl
 have e4:IE v=some (decide (1<(v.length:Int))&&(decide ((Ao v 0).fKind=5)&&decide ((Ao v 1).fKind=4))):=by
  unfold IE
  by_cases h1:1<(v.length:Int)
  ·rw[Qx (by omega) (by omega),Qx (by omega) (by omega)];simp only[CZ,CA]
  ·rw[AeZ h1];rfl
 have e5:ID FB v=some (Aam (Ao v 0).fStr (decide ((Ao v 0).fKind=4))).2.2:=by
  unfold ID;rw[N3 h0 (by omega)];rfl
 unfold U9 Aao;rw[e1,e2,e3,e4,e5];rcases hk with rfl | rfl | rfl | rfl | rfl<;>rfl
def PX (s:List Nat)(l:List (List Ab)):Bool:=!(List.range s.length).any λi=>!decide (Ao s (i:Int)=0)&&!Aao (Ao s (i:Int)) (Ao l (i:Int))
theorem Ym {s:List Nat}{q:AR}(h:RS q)(hl:s.length=q.fArgs.length)(hs:∀k∈s,k=0∨k=88∨k=89∨k=90∨k=91∨k=92)(hv:∀v∈q.fArgs,EU v=0):Lj FB s q.fArgs=some (PX s q.fArgs):=by
 have hl2:=h.l;unfold Lj JM PX;rw[V7 (N:=s.length) (p:=λi:Nat=>!decide (Ao s (i:Int)=0)&&!Aao (Ao s (i:Int)) (Ao q.fArgs (i:Int))) (c:=false) (u:=()) (body:=Hm FB s q.fArgs) (by show s.length<5000000;omega) (λi hi=>by
  unfold Hm;have hi2:i<q.fArgs.length:=by omega
  have h0:0<(Ao q.fArgs (i:Int)).length:=Lp (hv _ (by rw[BU hi2];exact List.getElem_mem hi2));rw[Bo (Afa (by omega)),Bh (by omega) (by omega),Qx (by omega) (by omega),CZ,CA];rcases (hs (Ao s (i:Int)) (by rw[BU hi];exact List.getElem_mem hi)) with hz | hz
  ·have h8:(!decide (Ao s (i:Int)=0))=false:=by rw[hz];rfl
   have h9:∀b,imp (!decide (Ao s (i:Int)=0)) b=true:=λb=>by rw[h8];exact ZU b
   rw[h9,CA,AX (by omega) (by omega),h8,Afr,Afr]
  ·rw[AbK (h.at hi2) h0 hz,Option.isSome_some,CZ,CA,AX (by omega) (by omega),Es]) (by unfold Hm;rw[Bg (AeZ (by omega))]),AY]
 cases(List.range s.length).any λi=>!decide (Ao s (i:Int)=0)&&!Aao (Ao s (i:Int)) (Ao q.fArgs (i:Int))<;>rfl
def AcB (t op n:Ah):Ah:=(((t++([47]:Ah))++op)++([47]:Ah))++n
theorem Nx {t op n:Ah}(h1:t.length≤2000000)(h2:op.length≤2000000)(h3:n.length≤2000000):Co t op n=some (AcB t op n):=by
 unfold Co;have e:(([47]:Ah).length:Int)=1:=rfl;rw[AX (by rw[e];omega) (by rw[e];omega),AX (by simp;omega) (by simp;omega),AX (by simp;omega) (by simp;omega),AX (by simp;omega) (by simp;omega)];rfl
def AbZ (q:AR)(s:List Nat):Bool:=!decide ((q.fArgs.length:Int)=(s.length:Int))||((q.fArgs.any λv=>!decide (EU v=0))||!PX s q.fArgs)
def isF (q:AR):Bool:=decide (q.fOp=([102,101,116,99,104]:Ah))
def Ek (q:AR):Ah:=(Ao (Ao q.fArgs 0) 0).fStr
def AcP (a:AT)(q:AR):Bool:=(AcO a.fNet (Aam (Ek q) (decide ((Ao (Ao q.fArgs 0) 0).fKind=4))).1 (Aam (Ek q) (decide ((Ao (Ao q.fArgs 0) 0).fKind=4))).2.1).fAllowed
def Abe (a:AT)(q:AR):Bool:=(Abf a.fPolicy q.fOp (AcB a.fTenant q.fOp (Ek q))).fAllowed
def KC (a:AT)(q:AR):Int:=
 Qg (Y1 a) (match (Iv q.fOp).1 with
  | none=>4
  | some s=>bif !U4 a.fOps q.fOp then 12 else bif AbZ q s then 7 else
   bif (Iv q.fOp).2&&!Abe a q then 12 else bif isF q&&!AcP a q then 12 else 0)
theorem PK {op:Ah}{s:List Nat}(h:(Iv op).1=some s)(hn:(Iv op).2=true∨op=([102,101,116,99,104]:Ah)):0<s.length:=by
 have key:(Iv op).2=true→∀s,(Iv op).1=some s→0<s.length:=by
  refine Ty op (λt=>t.2=true→∀s,t.1=some s→0<s.length) ?_ ?_ ?_ ?_ ?_ ?_ ?_ ?_ ?_ ?_<;>intro h s hs<;>cases hs<;>first | decide | cases h
 rcases hn with hn | rfl
 ·exact key hn s h
 ·exact key (by decide) s h
theorem AdE {op:Ah}{s:List Nat}(h:(Iv op).1=some s):op.length≤6:=by
 by_cases hl:op.length≤6
 ·exact hl
 ·exfalso;have hne:∀w:Ah,w.length≤6→decide (op=w)=false:=λw hw=>AeZ (λe=>by subst e;omega);unfold Iv at h;rw[hne _ (by decide),hne _ (by decide),hne _ (by decide),hne _ (by decide),hne _ (by decide),hne _ (by decide),hne _ (by decide),hne _ (by decide),hne _ (by decide),hne _ (by decide)] at h
  cases h
theorem OM {a:AT}{q:AR}(ha:Y6 a)(hq:RS q):ET FB a q=some (KC a q):=by
 have hl:=hq.l;have hn:=ha.t;unfold ET KC;rw[M4 ha,AY];refine Adr ?_;rw[OL,AY]
 cases ht:(Iv q.fOp).1 with
 | none=>rfl
 | some s=>
  rw[show Option.isNone (some s)=false from rfl,B7,Vq ha.o,AY];simp only
  cases hh:U4 a.fOps q.fOp with
  | false=>rfl
  | true=>
   rw[Afe,B7,Option.isSome_some,CA];unfold AbZ;simp only[Hn,Af5,Option.isSome_some,CA,Es,Yl hq,CZ,Afc,Afe]
   by_cases h1:(q.fArgs.length:Int)=(s.length:Int)
   ·simp only[h1,decide_true,Afe,Afn,Afq]
    cases h2:(q.fArgs.any λv=>!decide (EU v=0)) with
    | true=>rfl
    | false=>
     have hv:∀v∈q.fArgs,EU v=0:=by
      intro v hv;rw[List.any_eq_false] at h2;simpa using h2 v hv
     rw[Ym hq (by omega) (Vm _ s ht) hv];simp only[Option.isSome_some,CZ,CA,Es,Afe,Afq]
     cases h3:PX s q.fArgs with
     | false=>rfl
     | true=>
      rw[Afe,B7,Afc];have h0:(Iv q.fOp).2=true∨q.fOp=([102,101,116,99,104]:Ah)→0<q.fArgs.length∧0<(Ao q.fArgs 0).length:=λhx=>by
       have hs:=PK ht hx;have hp:0<q.fArgs.length:=by omega
       exact⟨hp,Lp (hv _ (by rw[show(0:Int)=((0:Nat):Int) from rfl,BU hp];exact List.getElem_mem hp))⟩
      have hF:decide (q.fOp=([102,101,116,99,104]:Ah))=isF q:=rfl;have hfe:∀hx:q.fOp=([102,101,116,99,104]:Ah),(Bs (Gf FB (Ao q.fArgs 0)) λhb=>Bs (HC FB a.fNet hb.1 hb.2.1) λhd=>B0 (!hd.fAllowed) (some 12) (some 0):Option Int)=some (bif !AcP a q then 12 else 0):=λhx=>by
       obtain⟨hp,hp2⟩:=h0 (.inr hx);rw[N3 hp2 (by have:=(hq.at hp).str hp2;simpa using Nat.le_trans this (by decide)),AY,Ua ha.n,AY,Kr];rfl
      have hF2:(B0 (isF q) (Bs (Gf FB (Ao q.fArgs 0)) λhb=>Bs (HC FB a.fNet hb.1 hb.2.1) λhd=>B0 (!hd.fAllowed) (some 12) (some 0)) (some 0):Option Int)=some (bif isF q&&!AcP a q then 12 else 0):=by
       cases hf:isF q with
       | false=>rfl
       | true=>rw[Cg,hfe (AfC hf)];rfl
      rw[hF]
      cases hm:(Iv q.fOp).2 with
      | false=>
       rw[B7];simp only[Afr,Afc]
       cases hf:isF q with
       | false=>rfl
       | true=>
        have hx:=AfC hf;obtain⟨hp,hp2⟩:=h0 (.inr hx);rw[Cg,Bh (by omega) (by omega),hfe hx];rfl
      | true=>
       obtain⟨hp,hp2⟩:=h0 (.inl hm);have hsl:(Ao (Ao q.fArgs 0) 0).fStr.length≤1048576:=(hq.at hp).str hp2;rw[Cg,Bh (by omega) (by omega),Nw hp2,AY,Nx hn (Nat.le_trans (AdE ht) (by decide)) (Nat.le_trans hsl (by decide)),AY,OD ha.p ha.st,AY,hF2];simp only[Afo,Kr];rfl
   ·simp only[h1,decide_false];rfl
theorem Ez {l:List Ab}(h:l.length≤2000000):E3 l=some l:=by
 unfold E3;rw[Cr (show DE 40 _=true from Afa (by simp;omega))];rfl
theorem Oo {l:List Ah}(h:l.length≤2000000):HK l=some l:=by
 unfold HK;rw[Cr (show DE 16 _=true from Afa (by simp;omega))];rfl
theorem Yu {l:List AD}(h:l.length≤2000000):Oq l=some l:=by
 unfold Oq;rw[Cr (show DE 40 _=true from Afa (by simp;omega))];rfl
theorem Yv {l:List Ad}(h:l.length≤2000000):Or l=some l:=by
 unfold Or;rw[Cr (show DE 56 _=true from Afa (by simp;omega))];rfl
structure ItA (l:List B3):Prop where
 len:l.length≤2000000
 v:∀x∈l,Gh MB x.fValue
def ZT (l:List B3)(i:Nat):Int:=
 bif !Nu (Ao l (i:Int)).fKey then 4 else Qg (EU (Ao l (i:Int)).fValue) (bif decide ((Ao l (i:Int)).fVersion<1) then 2 else
  bif decide (0<(i:Int))&&(Do (Ao l (i:Int)).fKey (Ao l ((i:Int)-1)).fKey||decide ((Ao l (i:Int)).fKey=(Ao l ((i:Int)-1)).fKey)) then 11 else 0)
def ZP (l:List B3):Int:=bif decide (256<(l.length:Int)) then 3 else DX (ZT l) 0 l.length
theorem RE {l:List B3}(h:ItA l):Oh FB l=some (ZP l):=by
 have h0:=h.len;unfold Oh ZP JP;rw[I6 (R:=Unit) (N:=l.length) (g:=ZT l) (K:=some 0) (by show l.length<5000000;omega) (λi hi=>by
  unfold Im ZT;have hk2:imp (decide (0<(i:Int))) (BM .i64 ((i:Int)-1))=true:=by rw[JI (by omega) (by omega)];exact CZ _
  have hk3:imp (decide (0<(i:Int))) (Cn ((i:Int)-1) (l.length:Int))=true:=by
   by_cases h3:0<(i:Int)
   ·rw[Qx (by omega) (by omega)];exact CZ _
   ·rw[AeZ h3];rfl
  have hv:Gh MB (Ao l (i:Int)).fValue:=by rw[BU hi];exact h.v _ (List.getElem_mem hi)
  rw[Bo (Afa (by omega)),Bh (by omega) (by omega),Pf hv,AY,hk2,hk3,CA,CA,AX (by omega) (by omega)]
  cases Nu (Ao l (i:Int)).fKey with
  | false=>rfl
  | true=>
   simp only[Afe,B7,Afc];unfold Qg
   cases hz:decide (EU (Ao l (i:Int)).fValue=0) with
   | false=>simp only[Afn,Cg,Afc,hz]
   | true=>
    simp only[Afe,B7,Afi]
    cases decide ((Ao l (i:Int)).fVersion<1) with
    | true=>rfl
    | false=>
     simp only[B7,Afc]
     cases(decide (0<(i:Int))&&(Do (Ao l (i:Int)).fKey (Ao l ((i:Int)-1)).fKey||decide ((Ao l (i:Int)).fKey=(Ao l ((i:Int)-1)).fKey)))<;>rfl) (by unfold Im;rw[Bg (AeZ (by omega))])]
 cases decide (256<(l.length:Int)) with
 | true=>rfl
 | false=>
  rw[B7,Afc]
  cases hz:decide (DX (ZT l) 0 l.length=0) with
  | true=>rw[AfC hz];rfl
  | false=>rfl
def Uu (l:List B3):List (Ah×List Ab):=l.foldl (λm x=>GP m x.fKey x.fValue) []
def S2 (a:AT)(l:List B3):Int:=Qg (Y1 a) (ZP l)
def Dt (a:AT)(l:List B3):Az:=⟨true,a,Uu l,(),0,[],[],[]⟩
theorem Na {α β R:Type}(f:β→α→β):∀(l:List α) (i:Nat) (a:β),PV (R:=R) (λ_ acc x=>.go (f acc x)) i a l = .go (l.foldl f a)
 | [],i,a=>rfl
 | x::l,i,a=>by
  show PV (R:=R) (λ_ acc x=>.go (f acc x)) (i+1) (f a x) l=_;rw[Na f l];rfl
theorem Zr {R:Type}{l:List Ad}(hl:l.length≤2000000)(h:∀x∈l,Rg x){body:Int×List Ad→Option (Stp (Int×List Ad) (Out R (List Ad)))}
  (hb:∀(i:Nat) (acc:List Ad),body ((i:Int),acc)=B0 (decide ((i:Int)<(l.length:Int))) (Bl (Cn (i:Int) (acc.length:Int))<|Bs (HK ((Ao acc (i:Int)).fActions)) λhd=>Bs (HK ((Ao acc (i:Int)).fResources)) λhe=>Bl (Cn (i:Int) ((List.set acc (Int.toNat (i:Int)) (Ad.mk ((Ao acc (i:Int)).fAllow) hd ((Ao acc (i:Int)).fResources))).length:Int))<|Bl (BM .i64 ((i:Int)+1))<|some (.next ((i:Int)+1,List.set (List.set acc (Int.toNat (i:Int)) (Ad.mk ((Ao acc (i:Int)).fAllow) hd ((Ao acc (i:Int)).fResources))) (Int.toNat (i:Int)) (Ad.mk ((Ao (List.set acc (Int.toNat (i:Int)) (Ad.mk ((Ao acc (i:Int)).fAllow) hd ((Ao acc (i:Int)).fResources))) (i:Int)).fAllow) ((Ao (List.set acc (Int.toNat (i:Int)) (Ad.mk ((Ao acc (i:Int)).fAllow) hd ((Ao acc (i:Int)).fResources))) (i:Int)).fActions) he)))) (some (.out (.go acc)))) :
  Cj body FB (0,l)=some (.go l):=by
 have hr:=(No (l:=l) (mk:=λi acc=>((i:Int),acc)) (body:=body) (fin:=λacc:List Ad=>acc) (λ_ acc _=>(.go acc:Out R (List Ad))) (λ_ acc=>acc=l) (λi hi acc hP=>by
  subst hP;refine⟨?_,λb hb=>by cases hb;rfl⟩;have hx:=h _ (List.getElem_mem hi);have e1:List.set acc (Int.toNat (i:Int)) (Ad.mk ((Ao acc (i:Int)).fAllow) ((Ao acc (i:Int)).fActions) ((Ao acc (i:Int)).fResources))=acc:=by
   rw[show Int.toNat (i:Int)=i from by omega,BU hi];exact List.set_getElem_self hi
  rw[hb,Bo (Afa (by omega)),Bh (by omega) (by omega),Oo (by rw[BU hi];exact hx.a),AY,Oo (by rw[BU hi];exact hx.r),AY,e1,Bh (by omega) (by omega),AX (by omega) (by omega),e1];rfl) (λacc hP=>by rw[hb,Bg (AeZ (by omega))]) (F:=FB) (by show l.length<5000000;omega) (a:=l) rfl).1
 rw[show Cj body FB (0,l)=_ from hr,show(λ(_:Nat) (acc:List Ad) (_:Ad)=>(.go acc:Out R (List Ad)))=λ_ acc x=>.go ((λacc _=>acc) acc x) from rfl,Na];show some (Out.go _)=_
 congr 2
 generalize l=acc;have:∀(m:List Ad) (a:List Ad),m.foldl (λacc _=>acc) a=a:=by
  intro m
  induction m with
  | nil=>intro a;rfl
  | cons x m ih=>intro a;exact ih a
 exact this _ _
theorem ZR {R:Type}{l:List B3}(h:ItA l){body:Int×List (Ah×List Ab)→Option (Stp (Int×List (Ah×List Ab)) (Out R (List (Ah×List Ab))))}
  (hb:∀(i:Nat) (m:List (Ah×List Ab)),body ((i:Int),m)=B0 (decide ((i:Int)<(l.length:Int))) (Bl (Cn (i:Int) (l.length:Int))<|Bs (E3 ((Ao l (i:Int)).fValue)) λhd=>Bl (BM .i64 ((i:Int)+1))<|some (.next ((i:Int)+1,GP m ((Ao l (i:Int)).fKey) hd))) (some (.out (.go m)))) :
  Cj body FB (0,[])=some (.go (Uu l)):=by
 have hl:=h.len;have hr:=(No (l:=l) (mk:=λi acc=>((i:Int),acc)) (body:=body) (fin:=λacc:List (Ah×List Ab)=>acc) (λ_ acc x=>(.go (GP acc x.fKey x.fValue):Out R (List (Ah×List Ab)))) (λ_ acc=>True) (λi hi acc hP=>by
  refine⟨?_,λ_ _=>trivial⟩;have hv:=h.v _ (List.getElem_mem hi);have hvl:l[i].fValue.length≤1048576:=hv.hv;rw[hb,Bo (Afa (by omega)),Bh (by omega) (by omega),BU hi,Ez (by omega),AY,AX (by omega) (by omega)];rfl) (λacc hP=>by rw[hb,Bg (AeZ (by omega))]) (F:=FB) (by show l.length<5000000;omega) (a:=[]) trivial).1
 rw[show Cj body FB (0,[])=_ from hr,Na (λm (x:B3)=>GP m x.fKey x.fValue)];rfl
theorem Aaa {a:AT}{l:List B3}(ha:Y6 a)(hl:ItA l):Lm FB a l=bif decide (S2 a l=0) then some (Dt a l,()) else none:=by
 unfold Lm S2 Qg;rw[M4 ha,AY,RE hl]
 cases hz:decide (Y1 a=0) with
 | false=>rw[Afn,Cg,Afc,hz];rfl
 | true=>
  rw[Afe,B7,AY,Afi]
  cases hy:decide (ZP l=0) with
  | false=>rfl
  | true=>
   rw[Afe,B7,Oo ha.o,AY,Yu ha.n,AY,Yv ha.p,AY,Zr (body:=λσ=>Ll a.fPolicy σ.1 σ.2) ha.p ha.st (λi acc=>rfl),AY];show JO FB a l a.fOps a.fNet a.fPolicy=_;unfold JO;rw[ZR (body:=λσ=>Lk l σ.1 σ.2) hl (λi m=>rfl),AY];rfl
theorem U6 {a:AT}{l:List B3}(ha:Y6 a)(hl:ItA l)(hn:S2 a l≠0):Q3 FB a l=some ((),S2 a l):=by
 unfold S2 Qg at hn;unfold Q3 S2 Qg;rw[M4 ha,AY,RE hl]
 cases hz:decide (Y1 a=0) with
 | false=>rfl
 | true=>
  rw[hz,Afi] at hn;rw[Afe,B7,AY,Afi,Bo (by rw[AeZ hn];rfl)]
def Nm:List Ab:=[⟨1,0,[],0⟩]
theorem MN:KL=some Nm:=rfl
def Mm (key:Ah)(x:A9):Bool:=decide (x.fKey=key)&&(decide (x.fKind=1)||decide (x.fKind=2))
def Un (l:List A9)(key:Ah):Option A9:=l.reverse.find? (Mm key)
def Yn (o:Az)(key:Ah):List Ab:=match Un o.fEffects key with
 | some x=>bif decide (x.fKind=1) then x.fValue else Nm
 | none=>bif Gc o.fItems key then Gp o.fItems key [] else Nm
def AbN (o:Az)(key:Ah):Az:=match Un o.fEffects key with
 | some _=>o
 | none=>{ o with fReads:=o.fReads++[key] }
theorem Aag {o:Az}{key:Ah}(hl:o.fEffects.length≤2000000)(hv:∀x∈o.fEffects,x.fValue.length≤2000000):∀(k n:Nat),k≤o.fEffects.length→k<n→
  Cj (λσ=>G1 o key σ) n ((k:Int)-1)=some (match ((o.fEffects.take k).reverse.find? (Mm key)) with | some x=>.ret ((bif decide (x.fKind=1) then x.fValue else Nm),o) | none=>.go ()):=by
 intro k
 induction k with
 | zero=>
  intro n hk hn;obtain⟨n,rfl⟩:∃m,n=m+1:=⟨n-1,by omega⟩
  rw[S7 (body:=λσ=>G1 o key σ) (o:=.go ()) (by show G1 o key _=_;unfold G1;rw[Bg (AeZ (by omega))])];rfl
 | succ k ih=>
  intro n hk hn;obtain⟨n,rfl⟩:∃m,n=m+1:=⟨n-1,by omega⟩
  have hi:k<o.fEffects.length:=by omega
  rw[show((k+1:Nat):Int)-1=(k:Int) from by omega];have ht:(o.fEffects.take (k+1)).reverse=o.fEffects[k]::(o.fEffects.take k).reverse:=by
   rw[List.take_succ_eq_append_getElem hi,List.reverse_append];rfl
  have hx:=hv _ (List.getElem_mem hi);have hj:Km (k:Int)=some (.next ((k:Int)-1)):=by unfold Km;rw[AX (by omega) (by omega)]
  have hbody:G1 o key (k:Int)=bif Mm key o.fEffects[k] then some (.out (.ret ((bif decide (o.fEffects[k].fKind=1) then o.fEffects[k].fValue else Nm),o))) else some (.next ((k:Int)-1)):=by
   unfold G1 Mm;rw[Bo (Afa (by omega)),Bh (by omega) (by omega),BU hi,hj]
   cases decide (o.fEffects[k].fKey=key) with
   | false=>rfl
   | true=>
    rw[Afe,B7,Ez hx,AY,MN,AY,Afo]
    cases decide (o.fEffects[k].fKind=1) with
    | true=>rfl
    | false=>cases decide (o.fEffects[k].fKind=2)<;>rfl
  rw[ht,List.find?_cons]
  cases hp:Mm key o.fEffects[k] with
  | true=>
   rw[hp,Afi] at hbody;exact S7 (body:=λσ=>G1 o key σ) hbody
  | false=>
   rw[hp,Afc] at hbody;rw[ZF (body:=λσ=>G1 o key σ) hbody];exact ih n (by omega) (by omega)
theorem AbI {o:Az}{key:Ah}(hl:o.fEffects.length≤2000000)(hv:∀x∈o.fEffects,x.fValue.length≤2000000)(hr:o.fReads.length≤2000000)(hm:(Gp o.fItems key ([]:List Ab)).length≤2000000):VH FB o key=some (Yn o key,AbN o key):=by
 have h:=Aag (key:=key) hl hv o.fEffects.length FB (Afy _) (by show o.fEffects.length<5000000;omega);rw[AfR] at h;unfold VH Yn AbN Un;rw[AX (by omega) (by omega),h,AY]
 cases o.fEffects.reverse.find? (Mm key) with
 | some x=>rfl
 | none=>
  show LC o key=_;unfold LC;rw[Cr (show DE 16 _=true from Afa (by simp;omega)),Ez hm,AY,MN,AY]
  cases Gc o.fItems key<;>rfl
theorem Lo {o:Az}(hl:o.fEffects.length≤1000000)(hv:∀x∈o.fEffects,x.fValue.length≤2000000):CH FB o=some o.fEffects:=by
 unfold CH;have hr:=(No (l:=o.fEffects) (mk:=λi acc=>(acc,(i:Int))) (body:=λσ=>Du o σ.1 σ.2) (fin:=λacc:List A9=>acc) (λ_ acc x=>(.go ((λ(acc:List A9) x=>acc++[x]) acc x):Out (List A9) (List A9))) (λi acc=>acc.length=i) (λi hi acc hP=>by
  refine⟨?_,λb hb=>by cases hb;simp[hP]⟩;show Du o acc (i:Int)=_;unfold Du;rw[Bo (Afa (by omega)),Bh (by omega) (by omega),BU hi,Ez (hv _ (List.getElem_mem hi)),AY,Cr (show DE 56 _=true from Afa (by simp;omega)),AX (by omega) (by omega)];rfl) (λacc hP=>by show Du o acc _=_;unfold Du;rw[Bg (AeZ (by omega))]) (F:=FB) (by show o.fEffects.length<5000000;omega) (a:=[]) rfl).1
 rw[show Cj (λσ=>Du o σ.1 σ.2) FB (([]:List A9),0)=_ from hr,Na,AY];show some (o.fEffects.foldl (λacc x=>acc++[x]) [])=_;have:∀(m a:List A9),m.foldl (λacc x=>acc++[x]) a=a++m:=by
  intro m
  induction m with
  | nil=>intro a;simp
  | cons x m ih=>intro a;rw[List.foldl_cons,ih];simp
 rw[this];rfl
def Abm (y:Ab):Bool:=(BM .i64) y.fKind&&(BM .i64) y.fInt&&Hg y.fStr&&(BM .i64) y.fN
def Abl (y:Ad):Bool:=(λ_=>true) y.fAllow&&(λys:(List Ah)=>ys.all Hg&&decide (ys.length≤1048576)) y.fActions&&(λys:(List Ah)=>ys.all Hg&&decide (ys.length≤1048576)) y.fResources
def AdJ (y:AD):Bool:=(λ_=>true) y.fAllow&&(BM .i64) y.fAddr&&(BM .i64) y.fBits&&(BM .i64) y.fLow&&(BM .i64) y.fHigh
def AcJ (y:AT):Bool:=Hg y.fTenant&&Hg y.fFunction&&(λys:(List Ah)=>ys.all Hg&&decide (ys.length≤1048576)) y.fOps&&(λys:(List Ad)=>ys.all Abl&&decide (ys.length≤1048576)) y.fPolicy&&(λys:(List AD)=>ys.all AdJ&&decide (ys.length≤1048576)) y.fNet&&(BM .i64) y.fNow
def AcI (y:B3):Bool:=Hg y.fKey&&(λys:(List Ab)=>ys.all Abm&&decide (ys.length≤1048576)) y.fValue&&(BM .i64) y.fVersion
def AcH (y:AR):Bool:=Hg y.fOp&&(λys:(List (List Ab))=>ys.all (λys:(List Ab)=>ys.all Abm&&decide (ys.length≤1048576))&&decide (ys.length≤1048576)) y.fArgs
theorem J7 {s:Ah}(h:Hg s=true):s.length≤1048576:=AfC h
theorem Gh.ofB {v:List Ab}(h:(v.all Abm&&decide (v.length≤1048576))=true):Gh MB v:=by
 simp only[Afb,AeX,Af8] at h;refine⟨by decide,h.2,λc hc=>?_⟩;have:=h.1 c hc;unfold Abm at this;simp only[Afb] at this;exact⟨J7 this.1.2,this.1.1.2,(IW this.2).2⟩
theorem PL {l:List Ah}(h:(l.all Hg&&decide (l.length≤1048576))=true):l.length≤2000000∧∀x∈l,x.length≤1000000000:=by
 simp only[Afb,AeX,Af8] at h;exact⟨by omega,λx hx=>by have:=J7 (h.1 x hx);omega⟩
theorem Rg.ofB {s:Ad}(h:Abl s=true):Rg s:=by
 unfold Abl at h;rw[Afb,Afb] at h;have h1:=PL h.1.2;have h2:=PL h.2;exact⟨h1.1,h2.1,h1.2,h2.2⟩
theorem Y6.ofB {a:AT}(h:AcJ a=true):Y6 a∧BM .i64 a.fNow=true:=by
 unfold AcJ at h;rw[Afb,Afb,Afb,Afb,Afb] at h;obtain⟨⟨⟨⟨⟨h1,h2⟩,h3⟩,h4⟩,h5⟩,h6⟩:=h;have h4':a.fPolicy.all Abl=true∧a.fPolicy.length≤1048576:=by simpa[Afb] using h4
 have h5':a.fNet.all AdJ=true∧a.fNet.length≤1048576:=by simpa[Afb] using h5
 exact⟨⟨by have:=J7 h1;omega,(PL h3).1,by omega,λx hx=>Rg.ofB (List.all_eq_true.1 h4'.1 x hx),by omega⟩,h6⟩
theorem ItA.ofB {l:List B3}(h:(l.all AcI&&decide (l.length≤1048576))=true):ItA l:=by
 rw[Afb] at h;refine⟨by have:=AfC h.2;omega,λx hx=>?_⟩;have:=List.all_eq_true.1 h.1 x hx;unfold AcI at this;rw[Afb,Afb] at this;exact Gh.ofB this.1.2
theorem RS.ofB {q:AR}(h:AcH q=true):RS q:=by
 unfold AcH at h;rw[Afb] at h;have h2:=h.2;rw[Afb] at h2;exact⟨by have:=AfC h2.2;omega,λv hv=>Gh.ofB (List.all_eq_true.1 h2.1 v hv)⟩
theorem KU {T:Type}:∀{xs:List (Ah×T)} {k:Ah} {v:T},Ha xs k=some v→∃k',(k',v)∈xs
 | [],k,v,h=>by cases h
 | p::r,k,v,h=>by
  rw[Ha] at h
  cases hd:decide (p.1=k) with
  | true=>rw[hd] at h;simp only[Afi,Option.some.injEq] at h;subst h;exact⟨p.1,by simp⟩
  | false=>
   rw[hd] at h;obtain⟨k',hk⟩:=KU (xs:=r) h;exact⟨k',List.mem_cons_of_mem _ hk⟩
theorem Ud {T:Type}{xs:List (Ah×T)}{k:Ah}{v:T}{p:Ah×T}(h:p∈GP xs k v):p∈xs∨p.2=v:=by
 unfold GP at h
 cases hh:Gc xs k with
 | false=>
  rw[hh] at h;rcases List.mem_cons.1 ((Oa k v xs).mem_iff.1 h) with rfl | h
  ·exact .inr rfl
  ·exact .inl h
 | true=>
  rw[hh] at h;obtain⟨q,hq,e⟩:=List.mem_map.1 (show p∈xs.map _ from h)
  cases hd:decide (q.1=k) with
  | true=>rw[hd] at e;subst e;exact .inr rfl
  | false=>rw[hd] at e;subst e;exact .inl hq
theorem Uc {T:Type}{xs:List (Ah×T)}{k:Ah}{z:T}(h:Gc xs k=true):∃k',(k',Gp xs k z)∈xs:=by
 unfold Gc at h;unfold Gp
 cases hg:Ha xs k with
 | none=>rw[hg] at h;cases h
 | some v=>exact KU hg
structure SX (v:Bk) (vp:List AQ):Prop where
 ix:∀p∈v.fSecrets,0≤p.2∧p.2<(vp.length:Int)
 tx:∀e∈vp,e.fText.length≤1048576∧e.fBefore.length≤1048576
theorem SX.at {v:Bk}{vp:List AQ}(h:SX v vp){i:Int}(h0:0≤i)(h1:i<(vp.length:Int)):(Ao vp i).fText.length≤1048576∧(Ao vp i).fBefore.length≤1048576:=by
 have hi:i.toNat<vp.length:=by omega
 have e:i=(i.toNat:Int):=by omega
 rw[e,BU hi];exact h.tx _ (List.getElem_mem hi)
theorem SX.val {v:Bk}{vp:List AQ}(h:SX v vp){n:Ah}(hh:Gc v.fSecrets n=true):0≤Gp v.fSecrets n (-1)∧Gp v.fSecrets n (-1)<(vp.length:Int):=by
 obtain⟨k',hk⟩:=Uc (z:=(-1:Int)) hh;exact h.ix _ hk
theorem NM (v:Bk)(vp:List AQ)(n:Ah):Mp v vp n=some (bif Gc v.fSecrets n then(Gp v.fSecrets n (-1),0) else(-1,5)):=by
 unfold Mp
 cases Gc v.fSecrets n<;>rfl
theorem Ry {v:Bk}{vp:List AQ}(h:SX v vp)(n f:Ah):∃r,Mo v vp n f=some r∧r.1.length≤1048576:=by
 unfold Mo;rw[NM,AY]
 cases hh:Gc v.fSecrets n with
 | false=>exact⟨_,rfl,by simp⟩
 | true=>
  obtain⟨h0,h1⟩:=h.val hh;simp only[Afi,decide_true,Afe,B7];rw[Bh h0 h1]
  cases Gp (Ao vp (Gp v.fSecrets n (-1))).fBound f false with
  | false=>exact⟨_,rfl,by simp⟩
  | true=>exact⟨_,rfl,(h.at h0 h1).1⟩
theorem Vs {s:Ah}(hs:s.length≤2000000):∃b,MY FB s=some b:=by
 have e:IX FB (Gi s)=some ((Gi s).any λc=>decide (c<33)||decide (126<c)):=by
  have hl:(Gi s).length=s.length:=by simp[Gi]
  unfold IX SB JH;rw[Oc (l:=Gi s) (p:=λc=>decide (c<33)||decide (126<c)) (F:=FB) (body:=Hj (Gi s)) (by show(Gi s).length<5000000;omega) (λi h=>by
   unfold Hj MX;rw[Bo (Afa (by omega)),Bh (by omega) (by omega),BU h,AY,AX (by omega) (by omega)]) (by unfold Hj;rw[Bg (AeZ (by omega))]),AY,ES]
 unfold MY;rw[e,show DE 1 s.length=true from Afa (by omega)];simp only[Option.isSome_some,CZ,CA];exact⟨_,rfl⟩
theorem Zg {v:Bk}{vp:List AQ}(h:SX v vp){n t:Ah}(ht:t.length≤1048576):∃e v' vp',PQ FB v vp n t=some (e,v',vp')∧SX v' vp':=by
 obtain⟨b,hb⟩:=Vs (s:=t) (by omega);unfold PQ;rw[NM,AY,hb,AY];have fin:SX ⟨GP v.fSecrets n (vp.length:Int)⟩ (vp++[(AQ.mk t ([]:Ah) 1 0 0 ([]:List (Ah×Bool)))]):=by
  refine⟨λp hp=>?_,λe he=>?_⟩
  ·rcases Ud hp with hp | hp
   ·have:=h.ix p hp;simp only[Afg,Af2];omega
   ·rw[hp];simp only[Afg,Af2];omega
  ·rcases List.mem_append.1 he with he | he
   ·exact h.tx e he
   ·simp only[Af1] at he;subst he;exact⟨ht,by simp⟩
 have key:∀(r:Int×Int),∃e v' vp',(B0 (decide (r.2=10)) (some (r.2,v,vp)) (B0 (!(CK n)) (some (4,v,vp)) (B0 (!b) (some (1,v,vp)) (B0 (decide (r.2=0)) (some (6,v,vp)) (B0 (decide (256≤(v.fSecrets.length:Int))) (some (3,v,vp)) (some (0,(Bk.mk (GP v.fSecrets n (vp.length:Int))),vp++[(AQ.mk t ([]:Ah) 1 0 0 ([]:List (Ah×Bool)))])))))):Option (Int×Bk×List AQ))=some (e,v',vp')∧SX v' vp':=by
  intro r
  cases decide (r.2=10) with
  | true=>exact⟨_,_,_,rfl,h⟩
  | false=>
   cases CK n with
   | false=>exact⟨_,_,_,rfl,h⟩
   | true=>
    cases b with
    | false=>exact⟨_,_,_,rfl,h⟩
    | true=>
     cases decide (r.2=0) with
     | true=>exact⟨_,_,_,rfl,h⟩
     | false=>
      cases decide (256≤(v.fSecrets.length:Int)) with
      | true=>exact⟨_,_,_,rfl,h⟩
      | false=>exact⟨_,_,_,rfl,fin⟩
 exact key _
theorem XF {v:Bk}{vp:List AQ}(h:SX v vp)(n f:Ah):∃e v' vp',Mq v vp n f=some (e,v',vp')∧SX v' vp':=by
 unfold Mq;rw[NM,AY]
 cases hh:Gc v.fSecrets n with
 | false=>exact⟨_,_,_,rfl,h⟩
 | true=>
  obtain⟨h0,h1⟩:=h.val hh;simp only[Afi,decide_true,Afe,B7]
  cases CK f with
  | false=>exact⟨_,_,_,rfl,h⟩
  | true=>
   rw[Afe,B7,Bh h0 h1];generalize Gp v.fSecrets n (-1)=i at h0 h1
   cases Gp (Ao vp i).fBound f false with
   | true=>exact⟨_,_,_,rfl,h⟩
   | false=>
    cases decide (32≤((Ao vp i).fBound.length:Int)) with
    | true=>exact⟨_,_,_,rfl,h⟩
    | false=>
     refine⟨_,_,_,rfl,λp hp=>by rw[List.length_set];exact h.ix p hp,λe he=>?_⟩;rcases List.mem_or_eq_of_mem_set he with he | he
     ·exact h.tx e he
     ·subst he;exact h.at h0 h1
def PM (s:Ah)(n:Int)(t:Ah):Int:=bif Li s t then max n (t.length:Int) else n
def wT (s t:Ah):Int:=bif Li s t then(t.length:Int) else 0
def wR (s:Ah)(vp:List AQ)(i:Int):Int:=max (wT s (Ao vp i).fText) (wT s (Ao vp i).fBefore)
theorem Wj (s t:Ah):0≤wT s t∧wT s t≤(s.length:Int):=by
 unfold wT
 cases h:Li s t with
 | false=>exact⟨Afz _,by simp⟩
 | true=>
  unfold Li at h;simp only[Afb,AeX] at h;rw[Afi];omega
theorem Rv (s:Ah){n:Int}(hn:0≤n)(t:Ah):PM s n t=max n (wT s t):=by
 unfold PM wT
 cases Li s t with
 | false=>rw[Afc,Afc];omega
 | true=>rfl
theorem AcC {v:Bk}{vp:List AQ}(h:SX v vp)(s x:Ah){i n:Int}(h0:0≤i)(h1:i<(vp.length:Int))(hn:0≤n):EH FB vp s x i n=some (.next (max n (wR s vp i))):=by
 unfold EH;rw[Bh h0 h1];have hr:=(No (l:=[(Ao vp i).fText,(Ao vp i).fBefore]) (mk:=λk acc=>(acc,(k:Int))) (body:=λσ=>Ds vp s i σ.1 σ.2) (fin:=λacc:Int=>(acc,(2:Int),false)) (λ_ acc t=>(.go (PM s acc t):Out _ Int)) (λ_ acc=>True) (λk hk acc _=>by
  refine⟨?_,λ_ _=>trivial⟩;have hk2:k<2:=hk;show Ds vp s i acc (k:Int)=_;unfold Ds;rw[Bo (Afa (by omega)),Bh (by omega) (by omega),BU hk,Mc,Option.isSome_some,CA,AX (by omega) (by omega),Es];rfl) (λacc _=>by show Ds vp s i acc _=_;unfold Ds;rw[Bg (AeZ (by omega))];rfl) (F:=FB) (by show 2<5000000;omega) (a:=n) trivial).1
 rw[show Cj (λσ=>Ds vp s i σ.1 σ.2) FB (n,0)=_ from hr,AY,Na (PM s)];show GL (PM s (PM s n (Ao vp i).fText) (Ao vp i).fBefore) 2 false=_;have e1:=Rv s hn (Ao vp i).fText;have b1:=Wj s (Ao vp i).fText;have e2:=Rv s (n:=PM s n (Ao vp i).fText) (by rw[e1];omega) (Ao vp i).fBefore;rw[e2,e1];unfold GL wR
 congr 2
 omega
def Np (s:Ah)(vp:List AQ)(l:List (Ah×Int))(n:Int):Int:=l.foldl (λn p=>max n (wR s vp p.2)) n
theorem V9 (s:Ah)(vp:List AQ){l l':List (Ah×Int)}(h:l.Perm l'):∀n,Np s vp l n=Np s vp l' n:=by
 induction h with
 | nil=>intro n;rfl
 | cons p _ ih=>intro n;exact ih _
 | swap a b l=>
  intro n;show Np s vp l (max (max n (wR s vp b.2)) (wR s vp a.2))=Np s vp l (max (max n (wR s vp a.2)) (wR s vp b.2))
  congr 1
  omega
 | trans _ _ ih1 ih2=>intro n;rw[ih1,ih2]
theorem Uk (s:Ah)(vp:List AQ):∀(l:List (Ah×Int)) (n:Int),0≤n→n≤(s.length:Int)→0≤Np s vp l n∧Np s vp l n≤(s.length:Int)
 | [],n,h0,h1=>⟨h0,h1⟩
 | p::l,n,h0,h1=>by
  have b1:=Wj s (Ao vp p.2).fText;have b2:=Wj s (Ao vp p.2).fBefore;exact Uk s vp l (max n (wR s vp p.2)) (by unfold wR;omega) (by unfold wR;omega)
theorem Wv {v:Bk}{vp:List AQ}(h:SX v vp)(s:Ah):∀(l:List (Ah×Int)) (n:Int),(∀p∈l,p∈v.fSecrets)→0≤n→Yh (λpe τ=>EH FB vp s pe.1 pe.2 τ) l n=some (.go (Np s vp l n))
 | [],n,_,_=>rfl
 | p::l,n,hl,hn=>by
  have hp:=h.ix p (hl p (by simp));rw[Yh,AcC h s p.1 hp.1 hp.2 hn];have b1:=Wj s (Ao vp p.2).fText;exact Wv h s l _ (λq hq=>hl q (List.mem_cons_of_mem _ hq)) (by omega)
theorem AcD {v:Bk}{vp:List AQ}(h:SX v vp){s out:Ah}(hs:s≠[])(ho:out.length≤100000000)(hl:s.length≤100000000):∃s' out',DI FB v vp s out=some (.next (s',out'))∧s'.length<s.length∧out.length<out'.length∧out'.length+3*s'.length≤out.length+3*s.length:=by
 have hp:0<s.length:=List.length_pos_iff.2 hs;obtain⟨b0,b1⟩:=Uk s vp v.fSecrets 0 (Afz _) (by omega);have hk:∃s' out',Eh s out (Np s vp v.fSecrets 0)=some (.next (s',out'))∧s'.length<s.length∧out.length<out'.length∧out'.length+3*s'.length≤out.length+3*s.length:=by
  generalize Np s vp v.fSecrets 0=N at b0 b1;unfold Eh
  by_cases hN:N=0
  ·have hbat:=Ads s 0;rw[Bo (Afa hN),Bh (by omega) (by omega),Cr (show DE 1 _=true from Afa (by omega)),HL hbat.1 hbat.2,QD,Df (by omega) (by omega)];exact⟨_,_,rfl,by rw[AfJ];omega,by simp,by rw[AfJ];simp;omega⟩
  ·rw[Bg (AeZ hN),Cr (show DE 1 _=true from Afa (by simp;omega)),QD,Df (by omega) (by omega)];exact⟨_,_,rfl,by rw[AfJ];omega,by simp,by rw[AfJ];simp;omega⟩
 obtain⟨s',out',e,h1⟩:=hk;refine⟨s',out',?_,h1⟩;unfold DI;rw[Bo (by simp[hs])];refine AcS λord hperm=>?_;rw[Wv h s ord 0 (λp hp=>hperm.mem_iff.1 hp) (Afz _),AY,V9 s vp hperm];exact e
theorem T2 {v:Bk}{vp:List AQ}(h:SX v vp){s:Ah}(hs:s≠[])(hl:s.length≤2000000):∃r,Ix FB v vp s=some r∧r.length≤3*s.length:=by
 have hp:0<s.length:=List.length_pos_iff.2 hs;obtain⟨o,h1,h2⟩:=G0 (body:=λσ=>DI FB v vp σ.1 σ.2) (λσ=>σ.1.length≤s.length∧σ.2.length+3*σ.1.length≤3*s.length∧(σ.1.length<s.length→0<σ.2.length)) (λσ=>σ.1.length) (λo=>∃r:Ah,o = .go r∧0<r.length∧r.length≤3*s.length) (λσ hI=>by
  obtain⟨x,out⟩:=σ;obtain⟨i1,i2,i3⟩:=hI;simp only at i1 i2 i3
  by_cases hx:x=[]
  ·refine .inr ⟨.go out,?_,out,rfl,i3 (by rw[hx];exact hp),by omega⟩;show DI FB v vp x out=_;unfold DI;rw[Bg (by simp[hx])]
  ·obtain⟨s',out',e,q1,q2,q3⟩:=AcD h hx (out:=out) (by omega) (by omega);exact .inl ⟨(s',out'),e,⟨by show s'.length≤_;omega,by show out'.length+3*s'.length≤_;omega,λ_=>by show 0<out'.length;omega⟩,q1⟩) FB (s,[]) ⟨Afy _,by simp,λh=>by simp at h⟩ (by show s.length<5000000;omega)
 obtain⟨r,rfl,h3,h4⟩:=h2;refine⟨r,?_,h4⟩;unfold Ix;rw[h1,AY];show GM r=_;unfold GM;rw[Cr (Afa h3)]
theorem Ws {R:Type}{N:Nat}{p:Int→Bool}{body:Int→Option (Stp Int (Out R Int))}(hN:N≤2000000)(hb:∀i,body i=(Bl (imp (decide (i<(N:Int))) (Cn i (N:Int)))<|B0 (decide (i<(N:Int))&&p i) (Bl (BM .i64 (i+1))<|some (.next (i+1))) (some (.out (.go i))))):∃i:Int,Cj body FB 0=some (.go i)∧0≤i∧i≤(N:Int):=by
 obtain⟨o,h1,h2⟩:=G0 (body:=body) (λi=>0≤i∧i≤(N:Int)) (λi=>((N:Int)-i).toNat) (λo=>∃i:Int,o = .go i∧0≤i∧i≤(N:Int)) (λi hI=>by
  rw[hb i]
  by_cases hi:i<(N:Int)
  ·rw[Qx hI.1 hi,CZ,CA,Afa hi,Afo]
   cases hp:p i with
   | true=>
    refine .inl ⟨i+1,?_,by omega,by omega⟩;rw[Cg,AX (by omega) (by omega)]
   | false=>exact .inr ⟨_,rfl,i,rfl,hI.1,hI.2⟩
  ·rw[AeZ hi];exact .inr ⟨_,rfl,i,rfl,hI.1,hI.2⟩) FB 0 ⟨by omega,by omega⟩ (by show((N:Int)-0).toNat<5000000;omega)
 obtain⟨i,rfl,h3⟩:=h2;exact⟨i,h1,h3⟩
structure SY (k:Nat) (w:Be):Prop where
 len:w.fSecrets.length≤k
 bd:∀s∈w.fSecrets,s.fBound.length≤32
theorem WO {i:Int}{N:Nat}(h0:0≤i):imp (decide (i<(N:Int))) (Cn i (N:Int))=true:=by
 by_cases h:i<(N:Int)
 ·rw[Qx h0 h];exact CZ _
 ·rw[AeZ h];rfl
theorem Tx {w:Be}{k:Nat}(h:SY k w)(hk:k≤1000)(n:Ah):∃i b,Rr FB w n=some (i,b)∧0≤i∧i≤(w.fSecrets.length:Int)∧(b=true→i<(w.fSecrets.length:Int)):=by
 have hl:=h.len;obtain⟨i,h1,h2,h3⟩:=Ws (R:=Int×Bool) (N:=w.fSecrets.length) (p:=λx=>Do ((Ao w.fSecrets x).fName) n) (body:=Jx w n) (by omega) (λi=>rfl);unfold Rr;rw[show Cj (λσ=>Jx w n σ) FB 0=_ from h1,AY];refine⟨i,decide (i<(w.fSecrets.length:Int))&&decide ((Ao w.fSecrets i).fName=n),?_,h2,h3,λhb=>?_⟩
 ·show Jw w n i=_;unfold Jw;rw[WO h2,CA]
 ·simp only[Afb,AeX] at hb;exact hb.1
theorem X5 {l:List Ah}(hl:l.length≤1000)(n:Ah):∃i b,PG FB l n=some (i,b)∧0≤i∧i≤(l.length:Int):=by
 obtain⟨i,h1,h2,h3⟩:=Ws (R:=Int×Bool) (N:=l.length) (p:=λx=>Do (Ao l x) n) (body:=Ie l n) (by omega) (λi=>rfl);unfold PG;rw[show Cj (λσ=>Ie l n σ) FB 0=_ from h1,AY];refine⟨i,decide (i<(l.length:Int))&&decide (Ao l i=n),?_,h2,h3⟩;show Id l n i=_;unfold Id;rw[WO h2,CA]
theorem Vk {s:Ah}(hs:s.length≤2000000):∃b,MR FB s=some b:=by
 unfold MR;rw[V7 (N:=s.length) (p:=λi:Nat=>decide (Cs s (i:Int)<33)||decide (126<Cs s (i:Int))) (c:=false) (u:=()) (body:=G6 s) (by show s.length<5000000;omega) (λi hi=>by
  unfold G6;rw[Bo (Afa (by omega)),Bh (by omega) (by omega),AX (by omega) (by omega)]) (by unfold G6;rw[Bg (AeZ (by omega))]),AY]
 cases(List.range s.length).any λi:Nat=>decide (Cs s (i:Int)<33)||decide (126<Cs s (i:Int)) with
 | true=>exact⟨_,rfl⟩
 | false=>exact⟨_,rfl⟩
theorem Jh {α:Type}{P:α→Prop}{p:Bool}{x:α}{y:Option α}(hx:P x)(hy:p=false→∃r,y=some r∧P r):∃r,B0 p (some x) y=some r∧P r:=by
 cases p with
 | true=>exact⟨x,rfl,hx⟩
 | false=>exact hy rfl
theorem AaP {w:Be}{k:Nat}(h:SY k w)(hk:k≤1000){n t:Ah}(hn:n.length≤2000000)(ht:t.length≤2000000):∃r,X3 FB w n t=some r∧SY (k+1) r.2:=by
 have hl:=h.len;have h':SY (k+1) w:=⟨by omega,h.bd⟩
 obtain⟨b,hb⟩:=Vk ht;obtain⟨i,c,hf,h0,h1,_⟩:=Tx h hk n;unfold X3;rw[Cr (show DE 1 n.length=true from Afa (by omega)),hb,AY,hf,AY];refine Jh (P:=λr:Int×Be=>SY (k+1) r.2) h' λ_=>Jh (P:=λr:Int×Be=>SY (k+1) r.2) h' λ_=>Jh (P:=λr:Int×Be=>SY (k+1) r.2) h' λ_=>Jh (P:=λr:Int×Be=>SY (k+1) r.2) h' λ_=>Jh (P:=λr:Int×Be=>SY (k+1) r.2) h' λ_=>?_;simp only;rw[Df h0 h1,Cr (show DE 104 _=true from Afa (by simp;omega)),Cr (show DE 104 _=true from Afa (by simp;omega)),Cr (show DE 104 _=true from Afa (by simp;omega))];refine⟨_,rfl,by simp;omega,λs hs=>?_⟩;simp only[AfV,List.mem_append,Af1] at hs;rcases hs with(hs | hs) | hs
 ·exact h.bd s (List.mem_of_mem_take hs)
 ·subst hs;simp
 ·exact h.bd s (List.mem_of_mem_drop hs)
theorem YW {w:Be}{k:Nat}(h:SY k w)(hk:k≤1000){n f:Ah}(hf:f.length≤2000000):∃r,Ru FB w n f=some r∧SY k r.2:=by
 have hl:=h.len;obtain⟨i,c,he,h0,h1,h2⟩:=Tx h hk n;unfold Ru;rw[he,AY,Cr (show DE 1 f.length=true from Afa (by omega))];refine Jh (P:=λr:Int×Be=>SY k r.2) h λ_=>Jh (P:=λr:Int×Be=>SY k r.2) h λhc=>Jh (P:=λr:Int×Be=>SY k r.2) h λ_=>?_;simp only at hc ⊢;have hi:i<(w.fSecrets.length:Int):=h2 (by simpa using hc);have hb:(Ao w.fSecrets i).fBound.length≤32:=by
  rw[show i=(i.toNat:Int) from by omega,BU (by omega)];exact h.bd _ (List.getElem_mem _)
 obtain⟨j,d,hp,j0,j1⟩:=X5 (l:=(Ao w.fSecrets i).fBound) (by omega) f;rw[Bh h0 hi,hp,AY];refine Jh (P:=λr:Int×Be=>SY k r.2) h λ_=>Jh (P:=λr:Int×Be=>SY k r.2) h λhd=>?_;have h32':(Ao w.fSecrets i).fBound.length≠32:=by
  have:=of_decide_eq_false hd;omega
 simp only;rw[Df j0 j1,Cr (show DE 16 _=true from Afa (by simp;omega)),Cr (show DE 16 _=true from Afa (by simp;omega)),Cr (show DE 16 _=true from Afa (by simp;omega)),QD];refine⟨_,rfl,by simpa using hl,λs hs=>?_⟩;rcases List.mem_or_eq_of_mem_set hs with hs | hs
 ·exact h.bd s hs
 ·subst hs;simp;omega
structure SeA (x:Cl):Prop where
 n:x.fName.length≤2000000
 t:x.fText.length≤1048576
 f:x.fFunction.length≤2000000
theorem Uo {x:B1}(hx:x.fNone=false)(hs:∀s∈x.fSecrets,SeA s):∃r,KZ FB x=some r∧SX r.1.1 r.1.2:=by
 obtain⟨o,h1,h2⟩:=G0 (body:=λσ:Int×Bool×List AZ×List (Ah×Int)×List AQ=>DM FB x σ.1 σ.2.1 σ.2.2.1 σ.2.2.2.1 σ.2.2.2.2) (λσ=>0≤σ.1∧σ.1≤20∧SY σ.1.toNat ⟨σ.2.1,σ.2.2.1⟩∧SX ⟨σ.2.2.2.1⟩ σ.2.2.2.2) (λσ=>(20-σ.1).toNat) (λo=>∃b l m e,o = .go (b,l,m,e)∧SX ⟨m⟩ e) (λσ hI=>by
  obtain⟨i,b,l,m,e⟩:=σ;obtain⟨i0,i1,i2,i3⟩:=hI;simp only at i0 i1 i2 i3;show(∃s',DM FB x i b l m e=some (.next s')∧_)∨∃o,DM FB x i b l m e=some (.out o)∧_;unfold DM
  cases hc:(decide (i<(x.fSecrets.length:Int))&&decide (i<20)) with
  | false=>exact .inr ⟨_,rfl,b,l,m,e,rfl,i3⟩
  | true=>
   simp only[Afb,AeX] at hc;have hm:SeA (Ao x.fSecrets i):=by
    rw[show i=(i.toNat:Int) from by omega,BU (by omega)];exact hs _ (List.getElem_mem _)
   obtain⟨e1,v1,p1,q1,k1⟩:=Zg i3 (n:=(Ao x.fSecrets i).fName) hm.t;obtain⟨r2,q2,k2⟩:=AaP i2 (by omega) hm.n (Nat.le_trans hm.t (by decide));obtain⟨e3,v3,p3,q3,k3⟩:=XF k1 (Ao x.fSecrets i).fName (Ao x.fSecrets i).fFunction;obtain⟨r4,q4,k4⟩:=YW k2 (by omega) (n:=(Ao x.fSecrets i).fName) hm.f;rw[Cg,Bh i0 hc.1,q1,AY,q2,AY];simp only;rw[q3,AY,q4,AY,AX (by omega) (by omega)];refine .inl ⟨_,rfl,⟨by show 0≤i+1;omega,by show i+1≤20;omega,?_,k3⟩,by show(20-(i+1)).toNat<(20-i).toNat;omega⟩;show SY (i+1).toNat r4.2;rw[show(i+1).toNat=i.toNat+1 from by omega];exact k4) FB (0,true,[],[],[]) ⟨by decide,by decide,⟨by simp,by simp⟩,⟨by simp,by simp⟩⟩ (by decide)
 obtain⟨b,l,m,e,rfl,h3⟩:=h2;refine⟨((⟨m⟩,e),⟨b,l⟩),?_,h3⟩;unfold KZ;rw[Bg hx];show Bs (Cj (λσ:Int×Bool×List AZ×List (Ah×Int)×List AQ=>DM FB x σ.1 σ.2.1 σ.2.2.1 σ.2.2.2.1 σ.2.2.2.2) FB (0,true,[],[],[])) _=_;rw[h1,AY];rfl
def AbL (rdF:Ah→Ah→Option (Ah×Int×Int))(rxF:Ah→Option Ah)(F:Nat)(o:Az)(q:AR):Option (BV×Az):=
 B0 (!o.fMade) (Bs (BZ ([]:List Ab) 10) λr5=>some (r5,(Az.mk o.fMade o.fA o.fItems () o.fCalls o.fEffects o.fReads o.fLog))) (B0 (decide (32≤o.fCalls)) (Bs (BZ ([]:List Ab) 3) λhj=>some (hj,(Az.mk o.fMade o.fA o.fItems () o.fCalls o.fEffects o.fReads o.fLog))) (Bl (BM .i64 (o.fCalls+1))<|Bs (ET F o.fA q) λhf=>B0 (!decide (hf=0)) (Bs (BZ ([]:List Ab) hf) λhk=>some (hk,(Az.mk o.fMade o.fA o.fItems () (o.fCalls+1) o.fEffects o.fReads o.fLog))) (Bs (Kn q) λhd=>B0 (hd.2) (Bl (DE 56 (o.fEffects.length+([hd.1]:List A9).length))<|Bs (KL) λhl=>Bs (BZ hl 0) λhm=>some (hm,(Az.mk o.fMade o.fA o.fItems () (o.fCalls+1) (o.fEffects++([hd.1]:List A9)) o.fReads o.fLog))) (B0 (decide (q.fOp=([103,101,116]:Ah))) (Bl (Cn 0 (q.fArgs.length:Int))<|Bs (IK (Ao q.fArgs 0)) λhn=>Bs (VH F (Az.mk o.fMade o.fA o.fItems () (o.fCalls+1) o.fEffects o.fReads o.fLog) hn.1) λhb=>Bs (BZ hb.1 0) λhp=>some (hp,(Az.mk hb.2.fMade hb.2.fA hb.2.fItems () hb.2.fCalls hb.2.fEffects hb.2.fReads hb.2.fLog))) (B0 (decide (q.fOp=([115,101,99,114,101,116]:Ah))) (Bl (Cn 0 (q.fArgs.length:Int))<|Bs (IK (Ao q.fArgs 0)) λhq=>Bs (rdF hq.1 o.fA.fFunction) λhe=>B0 (!decide (he.2.2=0)) (Bs (BZ ([]:List Ab) he.2.2) λhr=>some (hr,(Az.mk o.fMade o.fA o.fItems () (o.fCalls+1) o.fEffects o.fReads o.fLog))) (Bs (X2 F he.1) λhg=>Bs (BZ hg.1 hg.2) λhs=>some (hs,(Az.mk o.fMade o.fA o.fItems () (o.fCalls+1) o.fEffects o.fReads o.fLog)))) (B0 (decide (q.fOp=([102,101,116,99,104]:Ah))) (Bl (Cn 1 (q.fArgs.length:Int))<|Bs (E3 (Ao q.fArgs 1)) λht=>Bs (BZ ht 0) λhu=>some (hu,(Az.mk o.fMade o.fA o.fItems () (o.fCalls+1) o.fEffects o.fReads o.fLog))) (B0 (decide (q.fOp=([110,111,119]:Ah))) (Bs (X6 F o.fA.fNow) λhh=>Bs (BZ hh.1 hh.2) λhw=>some (hw,(Az.mk o.fMade o.fA o.fItems () (o.fCalls+1) o.fEffects o.fReads o.fLog))) (Bl (Cn 0 (q.fArgs.length:Int))<|Bs (JW F (Ao q.fArgs 0)) λhx=>Bs (rxF hx.1) λhi=>Bl (DE 16 (o.fLog.length+([hi]:List Ah).length))<|Bs (KL) λhy=>Bs (BZ hy 0) λhz=>some (hz,(Az.mk o.fMade o.fA o.fItems () (o.fCalls+1) o.fEffects o.fReads (o.fLog++([hi]:List Ah))))))))))))
theorem Adh (F:Nat)(o:Az)(v:Bk)(vp:List AQ)(q:AR):Oi F o v vp q=AbL (Mo v vp) (Ix F v vp) F o q:=rfl
theorem Adj (F:Nat)(o:Az)(q:AR):Aae F o q=AbL L2 IN F o q:=rfl
def TA (v:List Ab):BV:=bif decide (EU v=0) then⟨0,v⟩ else⟨EU v,[]⟩
def Rc (q:AR):Option A9:=
 bif decide (q.fOp=[112,117,116]) then some ⟨1,Ek q,Ao q.fArgs 1,0⟩ else bif decide (q.fOp=[100,101,108,101,116,101]) then some ⟨2,Ek q,[],0⟩ else bif decide (q.fOp=[115,101,110,100]) then some ⟨3,Ek q,Ao q.fArgs 1,0⟩ else
 bif decide (q.fOp=[116,105,109,101,114]) then some ⟨4,Ek q,Ao q.fArgs 2,(Ao (Ao q.fArgs 1) 0).fInt⟩ else bif decide (q.fOp=[115,105,103,110,97,108]) then some ⟨5,Ek q,Ao q.fArgs 1,0⟩ else none
def doS (rd:Ah→Ah→Ah×Int×Int)(rx:Ah→Ah)(o:Az)(q:AR):BV×Az:=
 bif decide (32≤o.fCalls) then(⟨3,[]⟩,o) else
 bif !decide (KC o.fA q=0) then(⟨KC o.fA q,[]⟩,{ o with fCalls:=o.fCalls+1 }) else
 match Rc q with
 | some x=>(⟨0,Nm⟩,{ o with fCalls:=o.fCalls+1,fEffects:=o.fEffects++[x] })
 | none=>bif decide (q.fOp=[103,101,116]) then(⟨0,Yn o (Ek q)⟩,AbN { o with fCalls:=o.fCalls+1 } (Ek q)) else
  bif decide (q.fOp=[115,101,99,114,101,116]) then((bif decide ((rd (Ek q) o.fA.fFunction).2.2=0) then TA [⟨4,0,(rd (Ek q) o.fA.fFunction).1,0⟩] else⟨(rd (Ek q) o.fA.fFunction).2.2,[]⟩),{ o with fCalls:=o.fCalls+1 }) else
  bif decide (q.fOp=[102,101,116,99,104]) then(⟨0,Ao q.fArgs 1⟩,{ o with fCalls:=o.fCalls+1 }) else
  bif decide (q.fOp=[110,111,119]) then(TA [⟨3,o.fA.fNow,[],0⟩],{ o with fCalls:=o.fCalls+1 }) else
  (⟨0,Nm⟩,{ o with fCalls:=o.fCalls+1,fLog:=o.fLog++[rx (UJ (Ao q.fArgs 0)).1] })
structure HoA (o:Az):Prop where
 made:o.fMade=true
 a:Y6 o.fA
 now:BM .i64 o.fA.fNow=true
 c:0≤o.fCalls∧o.fCalls≤1000
 e:o.fEffects.length≤1000
 ev:∀x∈o.fEffects,x.fValue.length≤1048576
 r:o.fReads.length≤1000
 l:o.fLog.length≤1000
 it:∀k,(Gp o.fItems k ([]:List Ab)).length≤1048576
theorem Gh.one1 {c:Ab}(h1:c.fStr.length≤MB)(h2:BM .i64 c.fInt=true)(h3:c.fN=0):Gh MB [c]:=⟨by decide,by show 1≤1048576;decide,λd hd=>by
 obtain rfl:d=c:=by simpa using hd
 exact⟨h1,h2,by rw[h3];decide⟩⟩
theorem Kl (v:List Ab):BZ v 0=some ⟨0,v⟩:=rfl
theorem IY {v:List Ab}{e:Int}(h:e≠0):BZ v e=some ⟨e,[]⟩:=by unfold BZ;rw[AeZ h];rfl
theorem LJ {a:AT}{q:AR}(h:KC a q=0):∃s,(Iv q.fOp).1=some s∧q.fArgs.length=s.length∧(∀v∈q.fArgs,EU v=0)∧PX s q.fArgs=true∧U4 a.fOps q.fOp=true∧((Iv q.fOp).2=true→Abe a q=true):=by
 obtain⟨_,h⟩:=Qf h
 cases ht:(Iv q.fOp).1 with
 | none=>rw[ht] at h;exact absurd (show(4:Int)=0 from h) (by decide)
 | some s=>
  rw[ht] at h;simp only at h
  cases hh:U4 a.fOps q.fOp with
  | false=>rw[hh] at h;exact absurd (show(12:Int)=0 from h) (by decide)
  | true=>
   rw[hh] at h;simp only[Afe,Afc] at h
   cases hb:AbZ q s with
   | true=>rw[hb] at h;exact absurd (show(7:Int)=0 from h) (by decide)
   | false=>
    rw[hb,Afc] at h;unfold AbZ at hb;simp only[AfF,AfT,AeX] at hb;obtain⟨h1,h2,h3⟩:=hb;refine⟨s,rfl,by omega,λv hv=>?_,h3,rfl,λhn=>?_⟩
    ·rw[List.any_eq_false] at h2;simpa using h2 v hv
    ·rw[hn] at h
     cases hp:Abe a q with
     | true=>rfl
     | false=>rw[hp] at h;exact absurd (show(12:Int)=0 from h) (by decide)
theorem Q5 {q:AR}{x:A9}(h:Rc q=some x):(Iv q.fOp).2=true:=by
 unfold Rc at h
 by_cases h1:q.fOp=[112,117,116]
 ·rw[h1];decide
 by_cases h2:q.fOp=[100,101,108,101,116,101]
 ·rw[h2];decide
 by_cases h3:q.fOp=[115,101,110,100]
 ·rw[h3];decide
 by_cases h4:q.fOp=[116,105,109,101,114]
 ·rw[h4];decide
 by_cases h5:q.fOp=[115,105,103,110,97,108]
 ·rw[h5];decide
 rw[AeZ h1,AeZ h2,AeZ h3,AeZ h4,AeZ h5] at h
 cases h
theorem NB {q:AR}(hq:RS q){i:Nat}(hi:i<q.fArgs.length):(Ao q.fArgs (i:Int)).length≤1048576:=(hq.at hi).hv
theorem VI {a:AT}{q:AR}(hq:RS q)(h:KC a q=0):Kn q=some (match Rc q with | some x=>(x,true) | none=>(⟨0,[],[],0⟩,false)):=by
 obtain⟨s,h1,h2,h3,h4,_⟩:=LJ h;have hp:∀i:Nat,i<q.fArgs.length→0<(Ao q.fArgs (i:Int)).length:=λi hi=>Lp (h3 _ (by rw[BU hi];exact List.getElem_mem hi));have hstr:0<q.fArgs.length→IK (Ao q.fArgs 0)=some (Ek q,decide ((Ao (Ao q.fArgs 0) 0).fKind=4)):=λh0=>Nw (by simpa using hp 0 h0);unfold Kn Rc
 by_cases e1:q.fOp=[112,117,116]
 ·have hs:s=[88,0]:=by rw[e1] at h1;cases h1;rfl
  subst hs;have hl:q.fArgs.length=2:=h2;rw[Afa e1,Cg,Bh (by omega) (by omega),Bh (by omega) (by omega),hstr (by omega),AY,Ez (by have:=NB hq (i:=1) (by omega);simpa using Nat.le_trans this (by decide)),AY];rfl
 rw[AeZ e1,B7,Afc]
 by_cases e2:q.fOp=[100,101,108,101,116,101]
 ·have hs:s=[88]:=by rw[e2] at h1;cases h1;rfl
  subst hs;have hl:q.fArgs.length=1:=h2;rw[Afa e2,Cg,Bh (by omega) (by omega),hstr (by omega),AY,Ez (by simp),AY];rfl
 rw[AeZ e2,B7,Afc]
 by_cases e3:q.fOp=[115,101,110,100]
 ·have hs:s=[89,0]:=by rw[e3] at h1;cases h1;rfl
  subst hs;have hl:q.fArgs.length=2:=h2;rw[Afa e3,Cg,Bh (by omega) (by omega),Bh (by omega) (by omega),hstr (by omega),AY,Ez (by have:=NB hq (i:=1) (by omega);simpa using Nat.le_trans this (by decide)),AY];rfl
 rw[AeZ e3,B7,Afc]
 by_cases e4:q.fOp=[116,105,109,101,114]
 ·have hs:s=[89,90,0]:=by rw[e4] at h1;cases h1;rfl
  subst hs;have hl:q.fArgs.length=3:=h2;have h0:=hp 1 (by omega);rw[Afa e4,Cg,Bh (by omega) (by omega),Bh (by omega) (by omega),Bh (by omega) (by simpa using h0),Bh (by omega) (by omega),hstr (by omega),AY,Ez (by have:=NB hq (i:=2) (by omega);simpa using Nat.le_trans this (by decide)),AY];rfl
 rw[AeZ e4,B7,Afc]
 by_cases e5:q.fOp=[115,105,103,110,97,108]
 ·have hs:s=[88,91]:=by rw[e5] at h1;cases h1;rfl
  subst hs;have hl:q.fArgs.length=2:=h2;rw[Afa e5,Cg,Bh (by omega) (by omega),Bh (by omega) (by omega),hstr (by omega),AY,Ez (by have:=NB hq (i:=1) (by omega);simpa using Nat.le_trans this (by decide)),AY];rfl
 rw[AeZ e5];rfl
theorem AbQ {v:List Ab}(h:EU v=0):(UJ v).1≠[]∧(UJ v).1.length≤4000:=by
 unfold EU at h;unfold UJ
 cases hw:whole v with
 | none=>rw[hw] at h;exact absurd (show(1:Int)=0 from h) (by decide)
 | some f=>
  rw[hw] at h;obtain⟨_,h2,h3⟩:=Mj hw;have h':Pa f=0:=h;simp only[h',decide_true,Afi];refine⟨List.length_pos_iff.1 (Wm h2 h3),?_⟩;unfold Pa at h'
  cases hb:(f.flat.any KP) with
  | true=>rw[hb] at h';exact absurd (show(2:Int)=0 from h') (by decide)
  | false=>
   rw[hb,Afc] at h'
   cases hc:(f.flat.any JF||(decide (200<f.flat.length)||(decide (8<f.dep)||decide (4000<(f.txt true).length)))) with
   | true=>rw[hc] at h';exact absurd (show(3:Int)=0 from h') (by decide)
   | false=>
    simp only[AfF,AeY] at hc;omega
theorem Abk {op:Ah}{s:List Nat}(h:(Iv op).1=some s):op=[103,101,116]∨op=[100,101,108,101,116,101]∨op=[112,117,116]∨op=[115,101,110,100]∨op=[116,105,109,101,114]∨op=[115,105,103,110,97,108]∨op=[115,101,99,114,101,116]∨op=[102,101,116,99,104]∨op=[110,111,119]∨op=[108,111,103]:=by
 by_cases h1:op=[103,101,116]
 ·simp[h1]
 by_cases h2:op=[100,101,108,101,116,101]
 ·simp[h2]
 by_cases h3:op=[112,117,116]
 ·simp[h3]
 by_cases h4:op=[115,101,110,100]
 ·simp[h4]
 by_cases h5:op=[116,105,109,101,114]
 ·simp[h5]
 by_cases h6:op=[115,105,103,110,97,108]
 ·simp[h6]
 by_cases h7:op=[115,101,99,114,101,116]
 ·simp[h7]
 by_cases h8:op=[102,101,116,99,104]
 ·simp[h8]
 by_cases h9:op=[110,111,119]
 ·simp[h9]
 by_cases hb:op=[108,111,103]
 ·simp[hb]
 exfalso;unfold Iv at h;rw[AeZ h1,AeZ h2,AeZ h3,AeZ h4,AeZ h5,AeZ h6,AeZ h7,AeZ h8,AeZ h9,AeZ hb] at h
 cases h
theorem WS {rdF:Ah→Ah→Option (Ah×Int×Int)}{rxF:Ah→Option Ah}{rd:Ah→Ah→Ah×Int×Int}{rx:Ah→Ah}{o:Az}{q:AR}(h:HoA o)(hq:RS q)
  (hr:∀n f,rdF n f=some (rd n f)∧(rd n f).1.length≤1048576) (hx:∀s,s≠[]→s.length≤4000→rxF s=some (rx s)):AbL rdF rxF FB o q=some (doS rd rx o q):=by
 obtain⟨md,a,it,u,c,ef,rs,lg⟩:=o;obtain rfl:md=true:=h.made;have hc:0≤c∧c≤1000:=h.c;have he:ef.length≤1000:=h.e;have hl:lg.length≤1000:=h.l;have hrl:rs.length≤1000:=h.r;have hA:Y6 a:=h.a;have hN:BM .i64 a.fNow=true:=h.now;unfold AbL doS;dsimp only;rw[Afe,B7]
 cases hd:decide (32≤c) with
 | true=>rfl
 | false=>
  rw[B7,AX (by omega) (by omega),OM hA hq,AY]
  by_cases ha:KC a q=0
  ·rw[Afa ha,Afe,B7,Afc,Afc,VI hq ha,AY];obtain⟨s,h1,h2,h3,h4,_⟩:=LJ ha;have hp:∀i:Nat,i<q.fArgs.length→0<(Ao q.fArgs (i:Int)).length:=λi hi=>Lp (h3 _ (by rw[BU hi];exact List.getElem_mem hi));have hstr:0<q.fArgs.length→IK (Ao q.fArgs 0)=some (Ek q,decide ((Ao (Ao q.fArgs 0) 0).fKind=4)):=λh0=>Nw (by simpa using hp 0 h0)
   cases hef:Rc q with
   | some x=>
    simp only;rw[Cg,Cr (show DE 56 _=true from Afa (by simp;omega)),MN,AY,Kl,AY]
   | none=>
    simp only;rw[B7]
    by_cases e1:q.fOp=[103,101,116]
    ·have hs:s=[88]:=by rw[e1] at h1;cases h1;rfl
     subst hs;have hl1:q.fArgs.length=1:=h2;rw[Afa e1,Cg,Afi,Bh (by omega) (by omega),hstr (by omega),AY];simp only;rw[AbI (o:=⟨true,a,it,(),c+1,ef,rs,lg⟩) (by show ef.length≤_;omega) (λx hx=>Nat.le_trans (h.ev x hx) (by decide)) (by show rs.length≤_;omega) (Nat.le_trans (h.it _) (by decide)),AY,Kl,AY];rfl
    rw[AeZ e1,B7,Afc]
    by_cases e2:q.fOp=[115,101,99,114,101,116]
    ·have hs:s=[89]:=by rw[e2] at h1;cases h1;rfl
     subst hs;have hl1:q.fArgs.length=1:=h2;rw[Afa e2,Cg,Afi,Bh (by omega) (by omega),hstr (by omega),AY];simp only;obtain⟨hr1,hr2⟩:=hr (Ek q) a.fFunction;rw[hr1,AY]
     by_cases e3:(rd (Ek q) a.fFunction).2.2=0
     ·rw[Afa e3,Afe,B7,Afi];unfold X2;have hk:Gh MB [(⟨4,0,(rd (Ek q) a.fFunction).1,0⟩:Ab)]:=Gh.one1 hr2 (show BM .i64 0=true from by decide) rfl;have hv:∀{β:Type} (K:BV→Option β),(Bs (Bs (H9 FB [(⟨4,0,(rd (Ek q) a.fFunction).1,0⟩:Ab)]) λr2=>some (r2.1,r2.2)) λhb=>Bs (BZ hb.1 hb.2) K)=K (TA [⟨4,0,(rd (Ek q) a.fFunction).1,0⟩]):=λK=>by
       unfold H9 TA;rw[Pf hk,AY]
       by_cases hz:EU [(⟨4,0,(rd (Ek q) a.fFunction).1,0⟩:Ab)]=0
       ·rw[Afa hz];rfl
       ·rw[AeZ hz,Afn,Cg,AY,AY];simp only;rw[IY hz,AY];rfl
      rw[hv]
     ·rw[AeZ e3,Afn,Cg,Afc,IY e3,AY]
    rw[AeZ e2,B7,Afc]
    by_cases e3:q.fOp=[102,101,116,99,104]
    ·have hs:s=[92,0]:=by rw[e3] at h1;cases h1;rfl
     subst hs;have hl1:q.fArgs.length=2:=h2;rw[Afa e3,Cg,Afi,Bh (by omega) (by omega),Ez (by have:=NB hq (i:=1) (by omega);simpa using Nat.le_trans this (by decide)),AY,Kl,AY]
    rw[AeZ e3,B7,Afc]
    by_cases e4:q.fOp=[110,111,119]
    ·rw[Afa e4,Cg,Afi];unfold X6;have hk:Gh MB [(⟨3,a.fNow,[],0⟩:Ab)]:=Gh.one1 (by simp) hN rfl;have hv:∀{β:Type} (K:BV→Option β),(Bs (Bs (H9 FB [(⟨3,a.fNow,[],0⟩:Ab)]) λr2=>some (r2.1,r2.2)) λhb=>Bs (BZ hb.1 hb.2) K)=K (TA [⟨3,a.fNow,[],0⟩]):=λK=>by
      unfold H9 TA;rw[Pf hk,AY]
      by_cases hz:EU [(⟨3,a.fNow,[],0⟩:Ab)]=0
      ·rw[Afa hz];rfl
      ·rw[AeZ hz,Afn,Cg,AY,AY];simp only;rw[IY hz,AY];rfl
     rw[hv]
    rw[AeZ e4,B7,Afc];have e5:q.fOp=[108,111,103]:=by
     unfold Rc at hef;rcases Abk h1 with e | e | e | e | e | e | e | e | e | e
     ·exact absurd e e1
     ·rw[e] at hef;cases hef
     ·rw[e] at hef;cases hef
     ·rw[e] at hef;cases hef
     ·rw[e] at hef;cases hef
     ·rw[e] at hef;cases hef
     ·exact absurd e e2
     ·exact absurd e e3
     ·exact absurd e e4
     ·exact e
    have hs:s=[0]:=by rw[e5] at h1;cases h1;rfl
    subst hs;have hl1:q.fArgs.length=1:=h2;have hz:EU (Ao q.fArgs 0)=0:=h3 _ (by rw[show(0:Int)=((0:Nat):Int) from rfl,BU (by omega)];exact List.getElem_mem _);obtain⟨hn1,hn2⟩:=AbQ hz;rw[Bh (by omega) (by omega),Vj (M:=MB) (v:=Ao q.fArgs 0) (hq.at (i:=0) (by omega)) (by decide) (by decide),AY];show(Bs (rxF (UJ (Ao q.fArgs 0)).1) _)=_;rw[hx _ hn1 hn2,AY,Cr (show DE 16 _=true from Afa (by simp;omega)),MN,AY,Kl,AY]
  ·rw[AeZ ha,Afn,Cg,Afc,Afi,IY ha,AY]
def opK (k:Int):Ah:=bif decide (k=1) then[112,117,116] else bif decide (k=2) then[100,101,108,101,116,101] else bif decide (k=3) then[115,101,110,100] else bif decide (k=4) then[116,105,109,101,114] else[115,105,103,110,97,108]
theorem OV (k:Int):Gd k=some (opK k):=by
 unfold Gd opK;simp only[Kr]
structure EOK (a:AT) (x:A9):Prop where
 v:Gh MB x.fValue
 k:x.fKey.length≤1048576
 p:x.fKind=1→EU x.fValue=0
 o:U4 a.fOps (opK x.fKind)=true
 d:(Abf a.fPolicy (opK x.fKind) (AcB a.fTenant (opK x.fKind) x.fKey)).fAllowed=true
theorem Gh.nil:Gh MB ([]:List Ab):=⟨by decide,by simp,λc hc=>by cases hc⟩
theorem Gh.null:Gh MB Nm:=Gh.one1 (by decide) (by decide) rfl
theorem LF:EU Nm=0:=by decide
theorem AbJ {a:AT}{q:AR}{x:A9}(hq:RS q)(ha:KC a q=0)(h:Rc q=some x):EOK a x:=by
 obtain⟨s,h1,h2,h3,_,h5,h6⟩:=LJ ha;have h6':=h6 (Q5 h);have hn:0<s.length:=PK h1 (.inl (Q5 h));have hk:(Ek q).length≤1048576:=(hq.at (i:=0) (by omega)).str (by
  have:=Lp (h3 _ (by rw[BU (i:=0) (by omega)];exact List.getElem_mem (by omega)):EU (Ao q.fArgs ((0:Nat):Int))=0);exact this)
 have he:∀i:Nat,i<q.fArgs.length→EU (Ao q.fArgs (i:Int))=0:=λi hi=>h3 _ (by rw[BU hi];exact List.getElem_mem hi);unfold Abe at h6';unfold Rc at h
 by_cases e1:q.fOp=[112,117,116]
 ·rw[Afa e1,Afi] at h;have hs:s=[88,0]:=by rw[e1] at h1;cases h1;rfl
  subst hs;have hl:q.fArgs.length=2:=h2
  cases h
  exact⟨hq.at (i:=1) (by omega),hk,λ_=>he 1 (by omega),by rw[e1] at h5;exact h5,by rw[e1] at h6';exact h6'⟩
 rw[AeZ e1,Afc] at h
 by_cases e2:q.fOp=[100,101,108,101,116,101]
 ·rw[Afa e2,Afi] at h
  cases h
  exact⟨Gh.nil,hk,λh=>absurd (show(2:Int)=1 from h) (by decide),by rw[e2] at h5;exact h5,by rw[e2] at h6';exact h6'⟩
 rw[AeZ e2,Afc] at h
 by_cases e3:q.fOp=[115,101,110,100]
 ·rw[Afa e3,Afi] at h;have hs:s=[89,0]:=by rw[e3] at h1;cases h1;rfl
  subst hs;have hl:q.fArgs.length=2:=h2
  cases h
  exact⟨hq.at (i:=1) (by omega),hk,λh=>absurd (show(3:Int)=1 from h) (by decide),by rw[e3] at h5;exact h5,by rw[e3] at h6';exact h6'⟩
 rw[AeZ e3,Afc] at h
 by_cases e4:q.fOp=[116,105,109,101,114]
 ·rw[Afa e4,Afi] at h;have hs:s=[89,90,0]:=by rw[e4] at h1;cases h1;rfl
  subst hs;have hl:q.fArgs.length=3:=h2
  cases h
  exact⟨hq.at (i:=2) (by omega),hk,λh=>absurd (show(4:Int)=1 from h) (by decide),by rw[e4] at h5;exact h5,by rw[e4] at h6';exact h6'⟩
 rw[AeZ e4,Afc] at h
 by_cases e5:q.fOp=[115,105,103,110,97,108]
 ·rw[Afa e5,Afi] at h;have hs:s=[88,91]:=by rw[e5] at h1;cases h1;rfl
  subst hs;have hl:q.fArgs.length=2:=h2
  cases h
  exact⟨hq.at (i:=1) (by omega),hk,λh=>absurd (show(5:Int)=1 from h) (by decide),by rw[e5] at h5;exact h5,by rw[e5] at h6';exact h6'⟩
 rw[AeZ e5] at h
 cases h
structure CI (a:AT) (i:Nat) (g:Int) (o:Az):Prop where
 made:o.fMade=true
 ha:Y6 a
 now:BM .i64 a.fNow=true
 acc:o.fA=a
 calls:o.fCalls=min (i:Int) 32
 effs:(o.fEffects.length:Int)≤g
 good:0≤g∧g≤i
 ef:∀x∈o.fEffects,EOK a x
 it:∀k,Gh MB (Gp o.fItems k ([]:List Ab))∧(Gc o.fItems k=true→EU (Gp o.fItems k ([]:List Ab))=0)
 rds:o.fReads.length≤i
 lgs:o.fLog.length≤i
theorem CI.ho {a:AT}{i:Nat}{g:Int}{o:Az}(h:CI a i g o)(hi:i≤60):HoA o:=by
 have h1:=h.effs;have h2:=h.good;have h3:=h.rds;have h4:=h.lgs;have h5:=h.calls;exact⟨h.made,by rw[h.acc];exact h.ha,by rw[h.acc];exact h.now,by omega,by omega,λx hx=>(h.ef x hx).v.hv,by omega,by omega,λk=>(h.it k).1.hv⟩
theorem AbM {a:AT}{i:Nat}{g:Int}{o:Az}(h:CI a i g o)(k:Ah):Gh MB (Yn o k)∧EU (Yn o k)=0:=by
 unfold Yn Un
 cases hf:o.fEffects.reverse.find? (Mm k) with
 | some x=>
  have hx:x∈o.fEffects:=by have:=List.mem_of_find?_eq_some hf;simpa using this
  have he:=h.ef x hx;simp only
  cases hd:decide (x.fKind=1) with
  | true=>exact⟨he.v,he.p (AfC hd)⟩
  | false=>exact⟨Gh.null,LF⟩
 | none=>
  simp only
  cases hm:Gc o.fItems k with
  | true=>exact⟨(h.it k).1,(h.it k).2 hm⟩
  | false=>exact⟨Gh.null,LF⟩
theorem CI.upd {a:AT}{i:Nat}{g g':Int}{o o':Az}(h:CI a i g o)(hg:g≤g'∧g'≤g+1)(h1:o'.fMade=true)(h2:o'.fA=o.fA)(h3:o'.fItems=o.fItems)(h4:o'.fCalls=min ((i+1:Nat):Int) 32)(h5:(o'.fEffects.length:Int)≤g')(h6:∀x∈o'.fEffects,EOK a x)(h7:o'.fReads.length≤i+1)(h8:o'.fLog.length≤i+1):CI a (i+1) g' o':=by
 have hg0:=h.good;exact⟨h1,h.ha,h.now,by rw[h2,h.acc],h4,h5,by omega,h6,λk=>by rw[h3];exact h.it k,h7,h8⟩
def Aa6 (a:AT)(i:Nat)(g:Int)(o:Az)(q:AR)(r:BV×Az):Prop:=
 (r.1.fErr=0→Gh MB r.1.fValue∧EU r.1.fValue=0∧CI a (i+1) (g+1) r.2)∧(r.1.fErr≠0→r.1.fValue=[]∧r.2.fEffects=o.fEffects∧r.2.fReads=o.fReads∧CI a (i+1) g r.2)∧(32≤i→r.1.fErr=3)∧(i<32→KC a q≠0→r.1.fErr=KC a q)
theorem Iw {a:AT}{i:Nat}{g:Int}{o o':Az}{q:AR}{v:List Ab}(hi:i<32)(ha:KC a q=0)(h1:Gh MB v)(h2:EU v=0)(h3:CI a (i+1) (g+1) o'):Aa6 a i g o q (⟨0,v⟩,o'):=
 ⟨λ_=>⟨h1,h2,h3⟩,λh=>absurd rfl h,λh=>absurd h (by omega),λ_ h=>absurd ha h⟩
theorem CI.step {a:AT}{i:Nat}{g:Int}{o:Az}(h:CI a i g o){q:AR}(hq:RS q){rd:Ah→Ah→Ah×Int×Int}(hr:∀n f,(rd n f).1.length≤1048576)(rx:Ah→Ah):Aa6 a i g o q (doS rd rx o q):=by
 have hc:=h.calls;have he:=h.effs;have hg:=h.good;have hrl:=h.rds;have hll:=h.lgs;obtain rfl:=h.acc;unfold doS
 by_cases hb:32≤i
 ·rw[Afa (show(32:Int)≤o.fCalls by omega),Afi];exact⟨λhz=>absurd (show(3:Int)=0 from hz) (by decide),λ_=>⟨rfl,rfl,rfl,h.upd ⟨Afz _,by omega⟩ h.made rfl rfl (by show o.fCalls=_;omega) he h.ef (by show o.fReads.length≤_;omega) (by show o.fLog.length≤_;omega)⟩,λ_=>rfl,λhx=>absurd hx (by omega)⟩
 ·rw[AeZ (show ¬ (32:Int)≤o.fCalls by omega),Afc];have hc1:o.fCalls+1=min ((i+1:Nat):Int) 32:=by omega
  have same:CI o.fA (i+1) g { o with fCalls:=o.fCalls+1 }:=h.upd ⟨Afz _,by omega⟩ h.made rfl rfl hc1 he h.ef (by show o.fReads.length≤_;omega) (by show o.fLog.length≤_;omega);have more:CI o.fA (i+1) (g+1) { o with fCalls:=o.fCalls+1 }:=h.upd ⟨by omega,Afz _⟩ h.made rfl rfl hc1 (by show(o.fEffects.length:Int)≤_;omega) h.ef (by show o.fReads.length≤_;omega) (by show o.fLog.length≤_;omega);have res:∀v:List Ab,Gh MB v→KC o.fA q=0→Aa6 o.fA i g o q (TA v,{ o with fCalls:=o.fCalls+1 }):=λv hv ha=>by
   unfold TA
   by_cases hz:EU v=0
   ·rw[Afa hz,Afi];exact Iw (by omega) ha hv hz more
   ·rw[AeZ hz,Afc];exact⟨λh0=>absurd h0 hz,λ_=>⟨rfl,rfl,rfl,same⟩,λhx=>absurd hx (by omega),λ_ hx=>absurd ha hx⟩
  by_cases ha:KC o.fA q=0
  ·rw[Afa ha,Afe,Afc]
   cases hef:Rc q with
   | some x=>
    have hx:=AbJ hq ha hef;refine Iw (by omega) ha Gh.null LF (h.upd ⟨by omega,Afz _⟩ h.made rfl rfl hc1 ?_ ?_ (by show o.fReads.length≤_;omega) (by show o.fLog.length≤_;omega))
    ·show((o.fEffects++[x]).length:Int)≤g+1;simp only[Afg,Af2];omega
    ·intro y hy;rcases List.mem_append.1 (show y∈o.fEffects++[x] from hy) with hy | hy
     ·exact h.ef y hy
     ·rw[List.mem_singleton.1 hy];exact hx
   | none=>
    simp only
    cases decide (q.fOp=[103,101,116]) with
    | true=>
     obtain⟨g1,g2⟩:=AbM h (Ek q);refine Iw (by omega) ha g1 g2 ?_;unfold AbN
     cases Un ({ o with fCalls:=o.fCalls+1 }:Az).fEffects (Ek q) with
     | some _=>exact more
     | none=>
      refine h.upd ⟨by omega,Afz _⟩ h.made rfl rfl hc1 (by show(o.fEffects.length:Int)≤_;omega) h.ef ?_ (by show o.fLog.length≤_;omega);show(o.fReads++[Ek q]).length≤i+1;simp only[Afg,Af2];omega
    | false=>
     cases decide (q.fOp=[115,101,99,114,101,116]) with
     | true=>
      by_cases hz:(rd (Ek q) o.fA.fFunction).2.2=0
      ·rw[Afa hz];exact res _ (Gh.one1 (hr _ _) (show BM .i64 0=true from by decide) rfl) ha
      ·rw[AeZ hz];exact⟨λh0=>absurd h0 hz,λ_=>⟨rfl,rfl,rfl,same⟩,λhx=>absurd hx (by omega),λ_ hx=>absurd ha hx⟩
     | false=>
      cases hf:decide (q.fOp=[102,101,116,99,104]) with
      | true=>
       obtain⟨s,h1,h2,h3,_⟩:=LJ ha;have hs:s=[92,0]:=by rw[AfC hf] at h1;cases h1;rfl
       subst hs;have hl1:q.fArgs.length=2:=h2;exact Iw (by omega) ha (hq.at (i:=1) (by omega)) (h3 _ (by rw[show(1:Int)=((1:Nat):Int) from rfl,BU (by omega)];exact List.getElem_mem _)) more
      | false=>
       cases decide (q.fOp=[110,111,119]) with
       | true=>exact res _ (Gh.one1 (by simp) h.now rfl) ha
       | false=>
        refine Iw (by omega) ha Gh.null LF (h.upd ⟨by omega,Afz _⟩ h.made rfl rfl hc1 (by show(o.fEffects.length:Int)≤_;omega) h.ef (by show o.fReads.length≤_;omega) ?_);show(o.fLog++[rx (UJ (Ao q.fArgs 0)).1]).length≤i+1;simp only[Afg,Af2];omega
  ·rw[AeZ ha,Afn,Afi];exact⟨λh0=>absurd h0 ha,λ_=>⟨rfl,rfl,rfl,same⟩,λhx=>absurd hx (by omega),λ_ _=>rfl⟩
theorem ZS {l:List B3}:∀p∈Uu l,∃x∈l,p.2=x.fValue:=by
 have key:∀(l:List B3) (m:List (Ah×List Ab)) (P:List Ab→Prop),(∀p∈m,P p.2)→(∀x∈l,P x.fValue)→∀p∈l.foldl (λm x=>GP m x.fKey x.fValue) m,P p.2:=by
  intro l
  induction l with
  | nil=>intro m P hm _ p hp;exact hm p hp
  | cons y l ih=>
   intro m P hm hl p hp;refine ih (GP m y.fKey y.fValue) P (λp hp=>?_) (λx hx=>hl x (List.mem_cons_of_mem _ hx)) p hp;rcases Ud hp with hp | hp
   ·exact hm p hp
   ·rw[hp];exact hl y (by simp)
 exact key l [] (λv=>∃x∈l,v=x.fValue) (by simp) (λx hx=>⟨x,hx,rfl⟩)
theorem Abv {T:Type}{xs:List (Ah×T)}{k:Ah}{z:T}(h:Gc xs k=false):Gp xs k z=z:=by
 unfold Gc at h;unfold Gp
 cases hg:Ha xs k with
 | none=>rfl
 | some v=>rw[hg] at h;cases h
theorem CI.new {a:AT}{l:List B3}(ha:Y6 a)(hn:BM .i64 a.fNow=true)(hl:ItA l)(h:S2 a l=0):CI a 0 0 (Dt a l):=by
 obtain⟨_,h⟩:=Qf h;have hz:∀x∈l,EU x.fValue=0:=by
  unfold ZP at h
  cases hb:decide (256<(l.length:Int)) with
  | true=>rw[hb] at h;exact absurd (show(3:Int)=0 from h) (by decide)
  | false=>
   rw[hb,Afc] at h;intro x hx;obtain⟨i,hi,rfl⟩:=List.getElem_of_mem hx;have:=RH h i (AfE _) (by omega);unfold ZT at this
   cases hk:Nu (Ao l (i:Int)).fKey with
   | false=>rw[hk] at this;exact absurd (show(4:Int)=0 from this) (by decide)
   | true=>
    rw[hk,Afe,Afc] at this;have:=(Qf this).1
    rwa [BU hi] at this
 refine⟨rfl,ha,hn,rfl,(by show(0:Int)=min ((0:Nat):Int) 32;decide),by simp[Dt],by simp,by simp[Dt],λk=>?_,by simp[Dt],by simp[Dt]⟩;show Gh MB (Gp (Uu l) k [])∧(Gc (Uu l) k=true→EU (Gp (Uu l) k [])=0)
 cases hm:Gc (Uu l) k with
 | false=>rw[Abv hm];exact⟨Gh.nil,λh=>by cases h⟩
 | true=>
  obtain⟨k',hk⟩:=Uc (z:=([]:List Ab)) hm;obtain⟨x,hx,e⟩:=ZS _ hk;have e':Gp (Uu l) k []=x.fValue:=e;rw[e'];exact⟨hl.v x hx,λ_=>hz x hx⟩
set_option maxRecDepth 100000 in
theorem GV:D5 5000000=some true:=by decide +kernel
theorem ZX {l:List Ah}(hl:l.length≤2000000)(s:Ah):Gg FB l s=some (U4 l s):=by
 unfold Gg Lh U4;rw[JE (l:=l) (p:=λy=>decide (y=s)) (ret:=λ_=>true) (u:=()) (body:=IC l s) (by show l.length<5000000;omega) (λi h=>by
  unfold IC;rw[Bo (Afa (by omega)),Bh (by omega) (by omega),BU h,AX (by omega) (by omega)]) (by unfold IC;rw[Bg (AeZ (by omega))]),AY]
 have e:(λy=>decide (s=y))=λy:Ah=>decide (y=s):=by funext y;exact decide_eq_decide.2 eq_comm
 rw[e,← ES];unfold Uz
 cases l.findIdx? λy=>decide (y=s) with
 | none=>rfl
 | some j=>show some true=_;rw[Afa (Int.natCast_nonneg j)]
theorem Y0 {N:Nat}:(List.range N).any (λ_=>false)=false:=by
 rw[List.any_eq_false];intro x _;simp
theorem Mz {R U:Type}{N:Nat}{body:Int→Option (Stp Int (Out R U))}{u:U}{F:Nat}(c:R)(hF:N<F)(hb:∀i:Nat,i<N→body (i:Int)=some (.next ((i:Int)+1)))(he:body (N:Int)=some (.out (.go u))):Cj body F 0=some (.go u):=by
 rw[V7 (p:=λ_=>false) (c:=c) hF (λi hi=>by rw[hb i hi];rfl) he,Y0];rfl
theorem OW {l:List A9}(hl:l.length≤2000000)(hv:∀x∈l,x.fValue.length≤2000000):GA FB l l=some true:=by
 unfold GA Gt;rw[Bg (by simp),Mz (F:=FB) (N:=l.length) (body:=DW FB l l) (u:=()) false (by show l.length<5000000;omega) (λi hi=>by
  unfold DW;have hx:=hv _ (List.getElem_mem hi);rw[Bo (Afa (by omega)),Bh (by omega) (by omega),Bh (by omega) (by omega),BU hi,Vv (v:=l[i].fValue) (by show _<5000000;omega) (by omega)];rw[Afa (rfl:l[i].fKind=l[i].fKind),Afa (rfl:l[i].fKey=l[i].fKey),Afa (rfl:l[i].fDelay=l[i].fDelay),Option.isSome_some,CZ,CZ,CZ,CA,Es,AX (by omega) (by omega)];rfl) (by unfold DW;rw[Bg (AeZ (by omega))]),AY];rfl
theorem U2 {l:List Ah}(hl:l.length≤2000000):Lg FB l l=some true:=by
 unfold Lg JK;rw[Bg (by simp),Mz (F:=FB) (N:=l.length) (body:=Hk l l) (u:=()) false (by show l.length<5000000;omega) (λi hi=>by
  unfold Hk;rw[Bo (Afa (by omega)),Bh (by omega) (by omega),Bh (by omega) (by omega),BU hi];rw[Afa (rfl:l[i]=l[i]),AX (by omega) (by omega)];rfl) (by unfold Hk;rw[Bg (AeZ (by omega))]),AY];rfl
theorem RD {o:Az}(h:o.fReads.length≤2000000):Gk o=some (GR o.fReads):=by
 unfold Gk;rw[Cr (show DE 16 _=true from Afa (by omega))]
theorem T1 (l:List Ah)(h:l.length≤1000):(GR l).length≤2000000:=by
 have h1:(GR l).length≤l.length:=by
  unfold GR;exact Nat.le_trans (Lib.compact_length_le _) (by simp)
 omega
theorem Abb {v:List Ab}(h:Gh MB v):Mu FB v=some (EU v):=XR h (by decide) (by decide)
def UM (dof:Az→AR→Option (BV×Az))(F:Nat)(x:B1)(g i:Int)(o:Az):Option (Stp (Int×Int×Bool×Ah×Ah×(List Ah)×(List Ad)×(List AD)×Int×Int×(List A9)×(List Ah)×(List Ah)×(List (Ah×(List Ab)))) (Out (Bool) (Int×Bool×Ah×Ah×(List Ah)×(List Ad)×(List AD)×Int×Int×(List A9)×(List Ah)×(List Ah)×(List (Ah×(List Ab)))))):=
 B0 (decide (i<(x.fL.length:Int))) (Bs (CH F o) λhe=>Bs (Gk o) λhf=>Bl (Cn i (x.fL.length:Int))<|Bs (dof o (Ao x.fL i)) λhb=>Bs (ET F x.fA (Ao x.fL i)) λhd=>B0 ((bif decide (32≤i) then((!decide (hb.1.fErr=3))||((decide (i<32))&&((!decide (hd=0))&&(!decide (hb.1.fErr=hd))))) else((decide (i<32))&&((!decide (hd=0))&&(!decide (hb.1.fErr=hd)))))) (some (.out (.ret false))) (B0 (!decide (hb.1.fErr=0)) (B0 (!decide ((hb.1.fValue.length:Int)=0)) (Cv i F g hb true) (Bs (CH F (Az.mk hb.2.fMade hb.2.fA hb.2.fItems () hb.2.fCalls hb.2.fEffects hb.2.fReads hb.2.fLog)) λhg=>Bs (GA F he hg) λhh=>B0 (!hh) (Cv i F g hb true) (Bs (Gk (Az.mk hb.2.fMade hb.2.fA hb.2.fItems () hb.2.fCalls hb.2.fEffects hb.2.fReads hb.2.fLog)) λhi=>Bs (Lg F hf hi) λhj=>Cv i F g hb (!hj)))) (Cv i F g hb false))) (some (.out (.go (g,o.fMade,o.fA.fTenant,o.fA.fFunction,o.fA.fOps,o.fA.fPolicy,o.fA.fNet,o.fA.fNow,o.fCalls,o.fEffects,o.fReads,o.fLog,o.fItems))))
def cst (g:Int)(i:Nat)(o:Az):Int×Int×Bool×Ah×Ah×(List Ah)×(List Ad)×(List AD)×Int×Int×(List A9)×(List Ah)×(List Ah)×(List (Ah×(List Ab))):=(g,(i:Int),o.fMade,o.fA.fTenant,o.fA.fFunction,o.fA.fOps,o.fA.fPolicy,o.fA.fNet,o.fA.fNow,o.fCalls,o.fEffects,o.fReads,o.fLog,o.fItems)
def cgo (g:Int)(o:Az):Int×Bool×Ah×Ah×(List Ah)×(List Ad)×(List AD)×Int×Int×(List A9)×(List Ah)×(List Ah)×(List (Ah×(List Ab))):=(g,o.fMade,o.fA.fTenant,o.fA.fFunction,o.fA.fOps,o.fA.fPolicy,o.fA.fNet,o.fA.fNow,o.fCalls,o.fEffects,o.fReads,o.fLog,o.fItems)
theorem Acp {i:Nat}(hi:i≤60)(g:Int)(o:Az):DV (i:Int) g o.fMade o.fA.fTenant o.fA.fFunction o.fA.fOps o.fA.fPolicy o.fA.fNet o.fA.fNow o.fCalls o.fEffects o.fReads o.fLog o.fItems=some (.next (cst g (i+1) o)):=by
 unfold DV cst;rw[AX (by omega) (by omega),show((i:Int)+1)=((i+1:Nat):Int) from rfl]
theorem VO {dof:Az→AR→Option (BV×Az)}{rd:Ah→Ah→Ah×Int×Int}{rx:Ah→Ah}(hd:∀o q,HoA o→RS q→dof o q=some (doS rd rx o q))(hr:∀n f,(rd n f).1.length≤1048576){x:B1}(hq:∀q∈x.fL,RS q)(hl:x.fL.length≤50){i:Nat}{g:Int}{o:Az}(h:CI x.fA i g o)(hi:i<x.fL.length) :
  ∃g' o',UM dof FB x g (i:Int) o=some (.next (cst g' (i+1) o'))∧CI x.fA (i+1) g' o':=by
 have hqi:RS (Ao x.fL (i:Int)):=by rw[BU hi];exact hq _ (List.getElem_mem hi)
 have hho:=h.ho (by omega);have hs:=h.step hqi hr rx;have hg:=h.good;have he1:CH FB o=some o.fEffects:=Lo (by have:=hho.e;omega) (λx hx=>Nat.le_trans (hho.ev x hx) (by decide));have hr1:Gk o=some (GR o.fReads):=RD (by have:=hho.r;omega);unfold UM;rw[Bo (Afa (by omega)),he1,AY,hr1,AY,Bh (by omega) (by omega),hd o _ hho hqi,AY,OM h.ha hqi,AY];generalize doS rd rx o (Ao x.fL (i:Int))=r at hs;obtain⟨s1,s2,s3,s4⟩:=hs;have hcond:(bif decide (32≤(i:Int)) then((!decide (r.1.fErr=3))||((decide ((i:Int)<32))&&((!decide (KC x.fA (Ao x.fL (i:Int))=0))&&(!decide (r.1.fErr=KC x.fA (Ao x.fL (i:Int))))))) else((decide ((i:Int)<32))&&((!decide (KC x.fA (Ao x.fL (i:Int))=0))&&(!decide (r.1.fErr=KC x.fA (Ao x.fL (i:Int)))))))=false:=by
  by_cases hb:32≤i
  ·rw[Afa (show(32:Int)≤i by omega),AeZ (show ¬ (i:Int)<32 by omega),Afa (s3 hb)];rfl
  ·rw[AeZ (show ¬ (32:Int)≤i by omega),Afa (show(i:Int)<32 by omega),Afc]
   by_cases ha:KC x.fA (Ao x.fL (i:Int))=0
   ·rw[Afa ha];rfl
   ·rw[Afa (s4 (by omega) ha)];simp
 rw[hcond,B7]
 by_cases hz:r.1.fErr=0
 ·obtain⟨q1,q2,q3⟩:=s1 hz;refine⟨g+1,r.2,?_,q3⟩;rw[Afa hz,Afe,B7];unfold Cv;rw[B7,Afa hz,Cg,AX (by omega) (by omega),Abb q1,AY,q2,show(!decide ((0:Int)=0))=false from rfl,B7];exact Acp (i:=i) (by omega) (g+1) r.2
 ·obtain⟨q1,q2,q3,q4⟩:=s2 hz;refine⟨g,r.2,?_,q4⟩;have e2:CH FB r.2=some o.fEffects:=by
   rw[← q2];exact Lo (by rw[q2];have:=hho.e;omega) (λx hx=>by rw[q2] at hx;exact Nat.le_trans (hho.ev x hx) (by decide))
  have r2:Gk r.2=some (GR o.fReads):=by rw[RD (by rw[q3];have:=hho.r;omega),q3]
  rw[AeZ hz,Afn,Cg,q1];rw[show(!decide ((([]:List Ab).length:Int)=0))=false from rfl,B7];rw[show CH FB (Az.mk r.2.fMade r.2.fA r.2.fItems () r.2.fCalls r.2.fEffects r.2.fReads r.2.fLog)=CH FB r.2 from rfl,e2,AY,OW (by have:=hho.e;omega) (λx hx=>Nat.le_trans (hho.ev x hx) (by decide)),AY,Afe,B7];rw[show Gk (Az.mk r.2.fMade r.2.fA r.2.fItems () r.2.fCalls r.2.fEffects r.2.fReads r.2.fLog)=Gk r.2 from rfl,r2,AY,U2 (T1 _ hho.r),AY,Afe];unfold Cv;rw[B7,AeZ hz,B7];exact Acp (i:=i) (by omega) g r.2
theorem Aas {dof:Az→AR→Option (BV×Az)}{x:B1}{i:Nat}{g:Int}{o:Az}(hi : ¬ i<x.fL.length):UM dof FB x g (i:Int) o=some (.out (.go (cgo g o))):=by
 unfold UM;rw[Bg (AeZ (by omega))];rfl
theorem RM {dof:Az→AR→Option (BV×Az)}{rd:Ah→Ah→Ah×Int×Int}{rx:Ah→Ah}(hd:∀o q,HoA o→RS q→dof o q=some (doS rd rx o q))(hr:∀n f,(rd n f).1.length≤1048576){x:B1}(hq:∀q∈x.fL,RS q)(hl:x.fL.length≤50)
  {body:(Int×Int×Bool×Ah×Ah×(List Ah)×(List Ad)×(List AD)×Int×Int×(List A9)×(List Ah)×(List Ah)×(List (Ah×(List Ab))))→Option (Stp (Int×Int×Bool×Ah×Ah×(List Ah)×(List Ad)×(List AD)×Int×Int×(List A9)×(List Ah)×(List Ah)×(List (Ah×(List Ab)))) (Out (Bool) (Int×Bool×Ah×Ah×(List Ah)×(List Ad)×(List AD)×Int×Int×(List A9)×(List Ah)×(List Ah)×(List (Ah×(List Ab))))))}
  (hb:∀(g:Int) (i:Nat) (o:Az),body (cst g i o)=UM dof FB x g (i:Int) o) {o:Az} (h:CI x.fA 0 0 o) :
  ∃i g o',Cj body FB (cst 0 0 o)=some (.go (cgo g o'))∧CI x.fA i g o'∧i≤50:=by
 obtain⟨r,h1,h2⟩:=G0 (body:=body) (λσ=>∃g i o,σ=cst g i o∧CI x.fA i g o∧i≤x.fL.length) (λσ=>((x.fL.length:Int)-σ.2.1).toNat) (λr=>∃g o' i,r = .go (cgo g o')∧CI x.fA i g o'∧i≤50) (λσ hI=>by
  obtain⟨g,i,o,rfl,hc,hi⟩:=hI;rw[hb]
  by_cases hlt:i<x.fL.length
  ·obtain⟨g',o',e,hc'⟩:=VO hd hr hq hl hc hlt;refine .inl ⟨_,e,⟨g',i+1,o',rfl,hc',by omega⟩,?_⟩;show((x.fL.length:Int)-((i+1:Nat):Int)).toNat<((x.fL.length:Int)-(i:Int)).toNat;omega
  ·exact .inr ⟨_,Aas hlt,g,o,i,rfl,hc,by omega⟩) FB (cst 0 0 o) ⟨0,0,o,rfl,h,AfE _⟩ (by show((x.fL.length:Int)-((0:Nat):Int)).toNat<5000000;omega)
 obtain⟨g,o',i,rfl,h3,h4⟩:=h2;exact⟨i,g,o',h1,h3,h4⟩
set_option maxRecDepth 100000 in
theorem Aar {x:B1}{i:Nat}{g:Int}{o:Az}(h:CI x.fA i g o)(hi:i≤50):Ey FB x g o.fMade o.fA.fTenant o.fA.fFunction o.fA.fOps o.fA.fPolicy o.fA.fNet o.fA.fNow o.fCalls o.fEffects o.fReads o.fLog o.fItems=some true:=by
 have hho:=h.ho (by omega);have he:=hho.e;have hle:=h.effs;have he1:CH FB o=some o.fEffects:=Lo (by omega) (λx hx=>Nat.le_trans (hho.ev x hx) (by decide));unfold Ey;rw[show CH FB (Az.mk o.fMade (AT.mk o.fA.fTenant o.fA.fFunction o.fA.fOps o.fA.fPolicy o.fA.fNet o.fA.fNow) o.fItems () o.fCalls o.fEffects o.fReads o.fLog)=CH FB o from rfl,he1,AY];rw[Mz (F:=FB) (N:=o.fEffects.length) (body:=λσ=>De FB x o.fEffects σ) (u:=()) false (by show o.fEffects.length<5000000;omega) (λj hj=>by
  have hx:=h.ef _ (List.getElem_mem hj);have ha:=h.ha;show De FB x o.fEffects (j:Int)=_;unfold De;have hop:(opK o.fEffects[j].fKind).length≤2000000:=by
   unfold opK
   repeat' (refine Lq (λl:Ah=>l.length≤2000000) ?_ ?_)
   all_goals decide
  rw[Bo (Afa (by omega)),Bh (by omega) (by omega),BU hj,OV,AY,ZX ha.o,Nx ha.t hop (Nat.le_trans hx.k (by decide)),Es,OD ha.p ha.st];rw[Es,Es,hx.o,hx.d,Option.isSome_some,Option.isSome_some,Option.isSome_some,CZ,CA,CA,CA,AX (by omega) (by omega)];rfl) (by show De FB x o.fEffects _=_;unfold De;rw[Bg (AeZ (by omega))]),AY]
 show Ex FB g o.fEffects=_;unfold Ex;rw[GV,Option.isSome_some,CZ,CA,Afa hle];rfl
structure Ace (x:B1):Prop where
 a:Y6 x.fA
 now:BM .i64 x.fA.fNow=true
 it:ItA x.fItems
 se:∀s∈x.fSecrets,SeA s
 q:∀q∈x.fL,RS q
theorem Qu {x:B1}(h:Ace x):I8 FB x=some true:=by
 have hT:=Aaa h.a h.it;have conf:∀(dof:Az→AR→Option (BV×Az)) (rd:Ah→Ah→Ah×Int×Int) (rx:Ah→Ah),(∀o q,HoA o→RS q→dof o q=some (doS rd rx o q))→(∀n f,(rd n f).1.length≤1048576)→True:=λ_ _ _ _ _=>trivial;unfold I8
 cases hN:x.fNone with
 | false=>
  obtain⟨r4,e4,hv⟩:=Uo hN h.se;rw[Afn,Cg,e4,AY]
  by_cases hz:S2 x.fA x.fItems=0
  ·rw[Afa hz,Afi] at hT;rw[hT,Option.isSome_some,Cg,AY]
   by_cases hl:50<x.fL.length
   ·rw[Bo (Afa (by omega)),GV];rfl
   ·rw[Bg (AeZ (by omega))];obtain⟨i,g,o',e1,hc,hi⟩:=RM (dof:=λo q=>Oi FB o r4.1.1 r4.1.2 q) (rd:=λn f=>(Mo r4.1.1 r4.1.2 n f).getD default) (rx:=λs=>(Ix FB r4.1.1 r4.1.2 s).getD default) (λo q ho hq=>by
     rw[Adh];refine WS ho hq (λn f=>?_) (λs hs hl=>?_)
     ·obtain⟨r,q1,q2⟩:=Ry hv n f;rw[q1];exact⟨rfl,q2⟩
     ·obtain⟨r,q1,q2⟩:=T2 hv hs (by omega);rw[q1];rfl) (λn f=>by
     obtain⟨r,q1,q2⟩:=Ry hv n f;rw[q1];exact q2) h.q (by omega) (body:=λσ=>Gs FB x r4 σ.1 σ.2.1 σ.2.2.1 σ.2.2.2.1 σ.2.2.2.2.1 σ.2.2.2.2.2.1 σ.2.2.2.2.2.2.1 σ.2.2.2.2.2.2.2.1 σ.2.2.2.2.2.2.2.2.1 σ.2.2.2.2.2.2.2.2.2.1 σ.2.2.2.2.2.2.2.2.2.2.1 σ.2.2.2.2.2.2.2.2.2.2.2.1 σ.2.2.2.2.2.2.2.2.2.2.2.2.1 σ.2.2.2.2.2.2.2.2.2.2.2.2.2) (λg i o=>rfl) (CI.new h.a h.now h.it hz)
    rw[show(0,0,(Dt x.fA x.fItems,()).1.fMade,(Dt x.fA x.fItems,()).1.fA.fTenant,(Dt x.fA x.fItems,()).1.fA.fFunction,(Dt x.fA x.fItems,()).1.fA.fOps,(Dt x.fA x.fItems,()).1.fA.fPolicy,(Dt x.fA x.fItems,()).1.fA.fNet,(Dt x.fA x.fItems,()).1.fA.fNow,(Dt x.fA x.fItems,()).1.fCalls,(Dt x.fA x.fItems,()).1.fEffects,(Dt x.fA x.fItems,()).1.fReads,(Dt x.fA x.fItems,()).1.fLog,(Dt x.fA x.fItems,()).1.fItems)=cst 0 0 (Dt x.fA x.fItems) from rfl,e1,AY];exact Aar hc hi
  ·rw[AeZ hz,Afc] at hT;rw[hT,Option.isSome_none,B7,U6 h.a h.it hz,AY];rw[Cr (by simp[hz]),GV];rfl
 | true=>
  rw[Afe,B7];have eN:La FB x=some ((),()):=by unfold La;rw[hN];rfl
  rw[eN,AY]
  by_cases hz:S2 x.fA x.fItems=0
  ·rw[Afa hz,Afi] at hT;rw[hT,Option.isSome_some,Cg,AY]
   by_cases hl:50<x.fL.length
   ·rw[Bo (Afa (by omega)),GV];rfl
   ·rw[Bg (AeZ (by omega))];obtain⟨i,g,o',e1,hc,hi⟩:=RM (dof:=λo q=>Aae FB o q) (rd:=λn f=>([],0,10)) (rx:=λs=>s) (λo q ho hq=>by
     rw[Adj];exact WS ho hq (λn f=>⟨rfl,by simp⟩) (λs hs hl=>rfl)) (λn f=>by simp) h.q (by omega) (body:=λσ=>Gr FB x σ.1 σ.2.1 σ.2.2.1 σ.2.2.2.1 σ.2.2.2.2.1 σ.2.2.2.2.2.1 σ.2.2.2.2.2.2.1 σ.2.2.2.2.2.2.2.1 σ.2.2.2.2.2.2.2.2.1 σ.2.2.2.2.2.2.2.2.2.1 σ.2.2.2.2.2.2.2.2.2.2.1 σ.2.2.2.2.2.2.2.2.2.2.2.1 σ.2.2.2.2.2.2.2.2.2.2.2.2.1 σ.2.2.2.2.2.2.2.2.2.2.2.2.2) (λg i o=>rfl) (CI.new h.a h.now h.it hz)
    rw[show(0,0,(Dt x.fA x.fItems,()).1.fMade,(Dt x.fA x.fItems,()).1.fA.fTenant,(Dt x.fA x.fItems,()).1.fA.fFunction,(Dt x.fA x.fItems,()).1.fA.fOps,(Dt x.fA x.fItems,()).1.fA.fPolicy,(Dt x.fA x.fItems,()).1.fA.fNet,(Dt x.fA x.fItems,()).1.fA.fNow,(Dt x.fA x.fItems,()).1.fCalls,(Dt x.fA x.fItems,()).1.fEffects,(Dt x.fA x.fItems,()).1.fReads,(Dt x.fA x.fItems,()).1.fLog,(Dt x.fA x.fItems,()).1.fItems)=cst 0 0 (Dt x.fA x.fItems) from rfl,e1,AY];exact Aar hc hi
  ·rw[AeZ hz,Afc] at hT;rw[hT,Option.isSome_none,B7,U6 h.a h.it hz,AY];rw[Cr (by simp[hz]),GV];rfl
def AdI (y:Cl):Bool:=Hg y.fName&&Hg y.fText&&Hg y.fFunction
def AdH (y:B1):Bool:=AcJ y.fA&&(λys:(List B3)=>ys.all AcI&&decide (ys.length≤1048576)) y.fItems&&(λys:(List Cl)=>ys.all AdI&&decide (ys.length≤1048576)) y.fSecrets&&(λ_=>true) y.fNone&&(λys:(List AR)=>ys.all AcH&&decide (ys.length≤1048576)) y.fL
theorem Ace.ofB {x:B1}(h:AdH x=true):Ace x:=by
 unfold AdH at h;rw[Afb,Afb,Afb,Afb] at h;obtain⟨⟨⟨⟨h1,h2⟩,h3⟩,_⟩,h5⟩:=h;have h3':=h3;rw[Afb] at h3';have h5':=h5;rw[Afb] at h5';refine⟨(Y6.ofB h1).1,(Y6.ofB h1).2,ItA.ofB h2,λs hs=>?_,λq hq=>RS.ofB (List.all_eq_true.1 h5'.1 q hq)⟩;have:=List.all_eq_true.1 h3'.1 s hs;unfold AdI at this;rw[Afb,Afb] at this;exact⟨by have:=J7 this.1.1;omega,J7 this.1.2,by have:=J7 this.2;omega⟩
end Go.Proofs.YtmjlemhondjfhaaGreatDoor
namespace Go.Proofs.YtmjlemhondjfhaaGreatDoor.lawHostConfines
open Go
set_option linter.unusedVariables false
theorem law:Law:=λx h=>⟨FB,Qu (Ace.ofB h)⟩
end Go.Proofs.YtmjlemhondjfhaaGreatDoor.lawHostConfines
