/-
  Texts of the proof, put together: LdK, LtA, LrB, LtB, LtD, LsB, LsC, LsD, PN, PO, LkA, LkB, LkC, LkD, LkE, LkF, LsE, LsF, LsG, LsH, LwReplays.
-/
import Derived.Test.YtjfnokmpfekniaaGreatDoorKP4
import Derived.Sort.Walk0
namespace Go.Proofs.YtjfnokmpfekniaaGreatDoor
open Go
set_option linter.unusedVariables false
set_option linter.unusedSimpArgs false
def IP (K:Nat)(c:Aa):Prop:=c.fStr.length≤K∧B7 .i64 c.fInt=true∧c.fN≤(K:Int)
theorem IP.mono {K K':Nat}{c:Aa}(h:IP K c)(hk:K≤K'):IP K' c:=⟨by have:=h.1;omega,h.2.1,by have:=h.2.2;omega⟩
theorem Oj (b:Bool):∀(n:Nat) (s t u:Ag),s.length=n→C8 b s=some (t,u)→t.length≤s.length:=by
 intro n
 induction n using Nat.strongRecOn with
 | ind n ih=>
  intro s t u hn h
  cases s with
  | nil=>cases h
  | cons c r=>
   simp only[Abl] at hn ⊢;rw[Dq] at h
   cases h1:decide (c=34) with
   | true=>rw[h1] at h;cases h;simp
   | false=>
    rw[h1] at h;simp only[Abk] at h
    cases h2:(b&&!J1 c) with
    | true=>rw[h2] at h;cases h
    | false=>
     rw[h2] at h;simp only[Abk] at h
     cases h3:decide (c=92) with
     | true=>
      rw[h3] at h
      cases r with
      | nil=>cases h
      | cons d r'=>
       simp only[Abr] at h
       cases h4:(decide (d=34)||decide (d=92)) with
       | false=>rw[h4] at h;cases h
       | true=>
        rw[h4] at h;simp only[Abr] at h
        cases h5:C8 b r' with
        | none=>rw[h5] at h;cases h
        | some q=>
         obtain⟨t',u'⟩:=q;rw[h5] at h;cases h;simp only[Abl] at hn ⊢;have:=ih r'.length (by omega) r' t' u rfl h5;omega
     | false=>
      rw[h3] at h;simp only[Abk] at h
      cases h5:C8 b r with
      | none=>rw[h5] at h;cases h
      | some q=>
       obtain⟨t',u'⟩:=q;rw[h5] at h;cases h;have:=ih r.length (by omega) r t' u rfl h5;simp only[Abl];omega
theorem Uh {b m:Bool}{last:Option Ag}{s u:Ag}{t:Ag}(h:Ef b m last s=some (some t,u)):t.length≤s.length:=by
 unfold Ef at h
 cases m with
 | false=>cases h
 | true=>
  simp only[Abr] at h
  cases s with
  | nil=>cases h
  | cons c r=>
   simp only at h
   cases h1:decide (c=34) with
   | false=>rw[h1] at h;cases h
   | true=>
    rw[h1] at h;simp only[Abr] at h
    cases h2:C8 b r with
    | none=>rw[h2] at h;cases h
    | some q=>
     obtain⟨k,w⟩:=q;have:=Oj b _ r k w rfl h2;rw[h2] at h;simp only at h
     cases h3:(b&&!Bp true last (some k)) with
     | true=>rw[h3] at h;cases h
     | false=>
      rw[h3] at h;simp only[Abk] at h
      cases w with
      | nil=>cases h
      | cons d w'=>
       simp only at h
       cases h4:decide (d=58) with
       | false=>rw[h4] at h;cases h
       | true=>rw[h4] at h;cases h;simp only[Abl];omega
theorem Wx (neg:Bool){d:Ag}(hd:d.all BM=true):B7 .i64 (J3 neg d)=true:=by
 unfold J3
 cases ha:decide (18<d.length) with
 | true=>
  cases neg with
  | true=>exact(by decide:B7 .i64 (-2000000000000)=true)
  | false=>exact(by decide:B7 .i64 2000000000000=true)
 | false=>
  simp only[Abi] at ha;have hb:=XZ hd (by omega)
  cases neg with
  | true=>exact IG (by simp only[Abk,Abr];omega) (by simp only[Abk,Abr];omega)
  | false=>exact IG (by simp only[Abk];omega) (by simp only[Abk];omega)
theorem VV {m:Bool}{g:Fo}{K:Nat}(hg:∀c∈g.flat,IP K c)(hl:g.flat.length≤K):∀c∈(nd m g).flat,IP K c:=λc hc=>by
 rw[Jl _ _ Ii] at hc;have hcf:=BS g;rcases List.mem_cons.1 hc with rfl | hc
 ·exact⟨AbS _,(by decide:B7 .i64 0=true),by show(g.cnt:Int)≤K;omega⟩
 ·exact hg c hc
theorem S6 {f r:Fo}{K:Nat}{key:Option Ag}(ho:f.one=true)(hf:∀c∈f.flat,IP K c)(hr:∀c∈r.flat,IP K c)(hk:∀t,key=some t→t.length≤K):∀c∈(f.put key r).flat,IP K c:=λc hc=>by
 rw[Et ho] at hc;rcases List.mem_append.1 hc with h | h
 ·cases key with
  | none=>cases h
  | some t=>
   have:c=⟨4,0,t,0⟩:=by simpa[Bd] using h
   subst this;exact⟨hk t rfl,(by decide:B7 .i64 0=true),by show(0:Int)≤K;omega⟩
 ·rcases List.mem_append.1 h with h | h
  ·exact hf c h
  ·exact hr c h
theorem Lq (b:Bool)(K:Nat):∀F:Nat,(∀s f u,s.length≤K→EE b F s=some (f,u)→∀c∈f.flat,IP K c)∧(∀m last s g u,s.length≤K→Do b F m last s=some (g,u)→∀c∈g.flat,IP K c)
 | 0=>⟨(λs f u _ h=>by rw[EE.eq_def] at h;cases h),(λm last s g u _ h=>by rw[Do.eq_def] at h;cases h)⟩
 | F+1=>by
  obtain⟨ih1,ih2⟩:=Lq b K F;have lfc:∀k i t,t.length≤K→B7 .i64 i=true→∀c∈(lf k i t).flat,IP K c:=λk i t ht hi c hc=>by
   have:c=⟨k,i,t,0⟩:=by simpa[lf,Fo.flat,Bd] using hc
   subst this;exact⟨ht,hi,by show(0:Int)≤K;omega⟩
  constructor
  ·intro s f u hs h;rw[Dn] at h
   cases h1:pre [110,117,108,108] s with
   | some r=>rw[h1] at h;cases h;exact lfc _ _ _ (AbS _) (by decide)
   | none=>
   rw[h1] at h;simp only at h
   cases h2:pre [116,114,117,101] s with
   | some r=>rw[h2] at h;cases h;exact lfc _ _ _ (AbS _) (by decide)
   | none=>
   rw[h2] at h;simp only at h
   cases h3:pre [102,97,108,115,101] s with
   | some r=>rw[h3] at h;cases h;exact lfc _ _ _ (AbS _) (by decide)
   | none=>
   rw[h3] at h;simp only at h
   cases s with
   | nil=>cases h
   | cons c r=>
   simp only[Abl] at hs;simp only at h
   cases h4:decide (c=34) with
   | true=>
    rw[h4] at h;simp only[Abr] at h
    cases h5:C8 b r with
    | none=>rw[h5] at h;cases h
    | some q=>
     obtain⟨t,w⟩:=q;rw[h5] at h;cases h;have:=Oj b _ r t u rfl h5;exact lfc _ _ _ (by omega) (by decide)
   | false=>
   rw[h4] at h;simp only[Abk] at h
   cases h5:(decide (c=91)||decide (c=123)) with
   | false=>
    rw[h5] at h;simp only[Abk] at h;unfold HF at h;simp only at h
    cases hc:Eo (decide ((c::r).head? =some 45)) (Cs (bif decide ((c::r).head? =some 45) then(c::r).tail else c::r)).1 with
    | false=>rw[hc] at h;cases h
    | true=>
     rw[hc] at h;cases h;exact lfc 3 _ [] (AbS _) (Wx _ (KZ _))
   | true=>
   rw[h5] at h;simp only[Abr] at h
   cases r with
   | nil=>cases h
   | cons d r'=>
   simp only at h
   cases h6:decide (d=BJ (decide (c=123))) with
   | true=>rw[h6] at h;cases h;exact VV (λc hc=>by cases hc) (AbS _)
   | false=>
   rw[h6] at h;simp only[Abk] at h
   cases h7:Do b F (decide (c=123)) none (d::r') with
   | none=>rw[h7] at h;cases h
   | some q=>
    obtain⟨g,w⟩:=q;rw[h7] at h;cases h;have:=(H8 b F).2 _ _ _ _ _ h7;exact VV (ih2 _ _ _ _ _ (by omega) h7) (by omega)
  ·intro m last s g u hs h;rw[CX] at h
   cases h1:Ef b m last s with
   | none=>rw[h1] at h;cases h
   | some q=>
   obtain⟨key,s1⟩:=q;have l1:=QI h1;have hkt:∀t,key=some t→t.length≤K:=λt e=>by subst e;have:=Uh h1;omega
   rw[h1] at h;simp only at h
   cases h2:EE b F s1 with
   | none=>rw[h2] at h;cases h
   | some q=>
   obtain⟨f,s2⟩:=q;obtain⟨l2,o2⟩:=(Ea b F).1 _ _ _ h2;have hf:=ih1 _ _ _ (by omega) h2;rw[h2] at h;simp only at h
   cases s2 with
   | nil=>cases h
   | cons c s3=>
   simp only[Abl] at l2;simp only at h
   cases h3:decide (c=BJ m) with
   | true=>rw[h3] at h;cases h;exact S6 o2 hf (λc hc=>by cases hc) hkt
   | false=>
   rw[h3] at h;simp only[Abk] at h
   cases h4:decide (c=44) with
   | false=>rw[h4] at h;cases h
   | true=>
   rw[h4] at h;simp only[Abr] at h
   cases h5:Do b F m key s3 with
   | none=>rw[h5] at h;cases h
   | some q=>
    obtain⟨g',w⟩:=q;rw[h5] at h;cases h;exact S6 o2 hf (ih2 _ _ _ _ _ (by omega) h5) hkt
theorem WA:∀l:List Aa,l.any BG=false→l.map Cz=l
 | [],_=>rfl
 | c::l,h=>by
  simp only[List.any_cons,Ab8] at h;simp only[AbR,WA l h.2,Cz,h.1,Abk]
def L4 (s:Ag):Option (List Aa×Int):=
 bif decide (4000<s.length) then some ([],3) else match EE true 10000 s with
  | some (f,[])=>some (bif decide (EL f=0) then(f.flat,0) else([],EL f))
  | _=>some ([],1)
theorem NN (s:Ag):Ak.mk s 0 [] false=CY s s [] false:=by simp[CY]
theorem WI {f:Fo}(h:f.flat.any BG=true):EL f=2:=by unfold EL;rw[h];rfl
theorem PW {F:Nat}(hF:20000≤F){s:Ag}:Ks F s=L4 s:=by
 unfold Ks L4;have a1:decide ((4000:Int)<(s.length:Int))=decide (4000<s.length):=by rw[Abz];simp;omega
 rw[a1]
 cases h4:decide (4000<s.length) with
 | true=>rfl
 | false=>
  simp only[Abi] at h4;rw[As rfl,NN];simp only[Abk];rcases Ru (S:=s) (by omega) (F:=F) (P:=10000) (by omega) (by omega) with⟨f,w,q1,q2,q3⟩ | ⟨q1,q',q2⟩
  ·rw[q3,q1,A8 rfl,As (p:=!true) rfl];obtain⟨_,hone⟩:=(Ea true 10000).1 _ _ _ q1;have hwl:=q2.len;have hcells:=(Lq true 4000 10000).1 _ _ _ (by omega) q1;have hfl:=(H8 true 10000).1 _ _ _ q1;unfold EA;have hat:(true,CY s w ([]++f.flat.map Cz) (false||f.flat.any BG)).2.fAt=(s.length:Int)-w.length:=rfl;rw[hat]
   cases w with
   | cons c w'=>
    have hd:decide ((s.length:Int)-(c::w').length=(s.length:Int))=false:=Abj (by simp only[Abl];omega);rw[hd];rfl
   | nil=>
    have hd:decide ((s.length:Int)-([]:Ag).length=(s.length:Int))=true:=Abm (by simp);rw[hd,As (p:=!true) rfl]
    change _=some (bif decide (EL f=0) then(f.flat,0) else([],EL f))
    have hgr:(true,CY s [] ([]++f.flat.map Cz) (false||f.flat.any BG)).2.fGreat=f.flat.any BG:=rfl;have hce:(true,CY s [] ([]++f.flat.map Cz) (false||f.flat.any BG)).2.fCells=f.flat.map Cz:=rfl;rw[hgr,hce]
    cases ho:f.flat.any BG with
    | true=>rw[WI ho];rfl
    | false=>
     rw[As rfl,WA _ ho];have hA:HQ 4000 f.flat:=⟨by decide,by omega,λc hc=>by obtain⟨c1,c2,c3⟩:=hcells c hc;exact⟨c1,c2,by omega⟩⟩
     have hwf:f.wf false none=true:=by
      have:=((Pm 10000).1 s).1;rw[q1] at this
      cases hp:EE false 10000 s with
      | none=>rw[hp] at this;cases this
      | some q=>
       obtain⟨f',u'⟩:=q;rw[hp] at this;simp only at this
       cases hw:f'.wf false none with
       | false=>rw[hw] at this;cases this
       | true=>rw[hw] at this;cases this;exact hw
     have hev:HK f.flat=EL f:=by unfold HK;rw[MF hone hwf]
     unfold Ku;rw[H0 hA (by decide) (by omega),A8 rfl,hev]
     cases decide (EL f=0)<;>rfl
  ·rw[q2,q1];rfl
theorem Jj {x:Nat}(h:x<10):(UInt8.ofNat (48+x)).toNat=48+x:=by simp;omega
theorem OD {x:Nat}(h:x<10):BM (UInt8.ofNat (48+x))=true:=by
 unfold BM;rw[Jj h];simp;omega
theorem O2 (d:Ag)(c:UInt8)(a:Nat):Cq a (d++[c])=10*Cq a d+(c.toNat-48):=by simp[Cq]
theorem P3 {u:Nat}(h:u<10):Lib.decDigits u=[UInt8.ofNat (48+u)]:=by rw[Lib.decDigits,dif_pos h]
theorem WW {u:Nat}(h : ¬ u<10):Lib.decDigits u=Lib.decDigits (u/10)++[UInt8.ofNat (48+u % 10)]:=by
 rw[Lib.decDigits,dif_neg h]
theorem ON:∀u:Nat,(Lib.decDigits u).all BM=true∧Lib.decDigits u≠[]∧Cq 0 (Lib.decDigits u)=u∧((Lib.decDigits u).head? =some 48→u=0):=by
 intro u
 induction u using Nat.strongRecOn with
 | ind u ih=>
  by_cases h:u<10
  ·rw[P3 h];refine⟨by simp only[AbH,List.all_nil,OD h,Bool.and_self],by simp,?_,?_⟩
   ·show 10*0+((UInt8.ofNat (48+u)).toNat-48)=u;rw[Jj h];omega
   ·intro e;simp only[List.head?_cons,Option.some.injEq] at e;have:=congrArg UInt8.toNat e;rw[Jj h] at this;have ha:(48:UInt8).toNat=48:=rfl;omega
  ·obtain⟨a,b,c,d⟩:=ih (u/10) (by omega);rw[WW h];refine⟨by simp only[List.all_append,a,AbH,List.all_nil,OD (show u % 10<10 by omega),Bool.and_self],by simp,?_,?_⟩
   ·rw[O2,c,Jj (by omega)];omega
   ·intro e
    cases hd:Lib.decDigits (u/10) with
    | nil=>exact absurd hd b
    | cons x r=>
     rw[hd] at e;have:=d (by rw[hd];simpa using e);omega
theorem NC:∀(n:Nat) (d:Ag),d.length=n→d.all BM=true→d≠[]→(d.head? =some 48→d.length=1)→Lib.decDigits (Cq 0 d)=d:=by
 intro n
 induction n with
 | zero=>intro d hn _ hne;exact absurd (Ab7 hn) hne
 | succ n ih=>
  intro d hn ha hne hh;obtain⟨d',c,rfl⟩:∃d' c,d=d'++[c]:=⟨d.dropLast,d.getLast hne,(List.dropLast_concat_getLast hne).symm⟩
  rw[List.all_append] at ha;simp only[AbH,List.all_nil,AbA,Abp] at ha;have hc:48≤c.toNat∧c.toNat≤57:=by have:=ha.2;simp[BM] at this;omega
  have ec:UInt8.ofNat (48+(c.toNat-48))=c:=by rw[show 48+(c.toNat-48)=c.toNat from by omega];simp
  rw[O2]
  cases hd:d' with
  | nil=>
   show Lib.decDigits (10*0+(c.toNat-48))=[c];rw[P3 (by omega),show 48+(10*0+(c.toNat-48))=48+(c.toNat-48) from by omega,ec]
  | cons x r=>
   rw[← hd];have hne':d'≠[]:=by rw[hd];simp
   have h1:d'.head?≠some 48:=λe=>by
    have:=hh (by rw[hd] at e ⊢;simpa using e);rw[hd] at this;simp at this
   have ih':=ih d' (by simp at hn;omega) ha.1 hne' (λe=>absurd e h1);have hpos:1≤Cq 0 d':=by
    rw[hd];show 1≤Cq (10*0+(x.toNat-48)) r;have hx:48≤x.toNat∧x.toNat≤57:=by have:=ha.1;rw[hd] at this;simp[BM] at this;omega
    have hx2:x.toNat≠48:=λe=>h1 (by rw[hd];simp;rw[← Acf];exact e);exact Nat.le_trans (by omega) (HA r _)
   rw[WW (by omega),show(10*Cq 0 d'+(c.toNat-48))/10=Cq 0 d' from by omega,show(10*Cq 0 d'+(c.toNat-48)) % 10=c.toNat-48 from by omega,ih',ec]
theorem NB:∀(d w:Ag),d.all BM=true→(∀c r,w=c::r→BM c=false)→Cs (d++w)=(d,w)
 | [],w,_,hw=>by
  cases w with
  | nil=>rfl
  | cons c r=>simp[Cs,hw c r rfl]
 | c::d,w,ha,hw=>by
  simp only[AbH,Abp] at ha;simp[Cs,ha.1,NB d w ha.2 hw]
theorem Ut {n:Int}{w:Ag}(h0 : -1000000000000≤n)(h1:n≤1000000000000)(hw:∀c r,w=c::r→BM c=false):HF (Lib.itoa n++w)=some (.cell none ⟨3,n,[],0⟩ .nil,w):=by
 have key:∀(u:Nat) (neg:Bool),u≤1000000000000→(neg=true→1≤u)→HF (Gm neg (Lib.decDigits u)++w)=some (.cell none ⟨3,bif neg then -(u:Int) else u,[],0⟩ .nil,w):=λu neg hu hneg=>by
  obtain⟨a,b,c,d⟩:=ON u;have hl:(Lib.decDigits u).length≤18:=by
   cases hdd:Lib.decDigits u with
   | nil=>simp
   | cons x r=>
    by_cases ha:(x::r).length≤18
    ·exact ha
    ·exfalso;have hx:48≤x.toNat∧x.toNat≤57:=by rw[hdd] at a;simp[BM] at a;omega
     have hr:18≤r.length:=by simp only[Abl] at ha;omega
     by_cases hb:x=48
     ·have:=d (by rw[hdd,hb];rfl);subst this;have e0:Lib.decDigits 0=[UInt8.ofNat 48]:=P3 (by omega);rw[e0] at hdd;cases hdd;simp at hr
     ·have hx2:x.toNat≠48:=λe=>hb (by rw[← Acf];exact e);rw[hdd] at c;have c':Cq (10*0+(x.toNat-48)) r=u:=c;have:=Q4 r (10*0+(x.toNat-48)) (by omega);have h2:10 ^ 18≤10 ^ r.length:=Nat.pow_le_pow_right (by omega) hr;omega
  have hhead:∀(x:UInt8) (r:Ag),Lib.decDigits u=x::r→x≠45:=λx r e=>by
   rw[e] at a;intro e2;subst e2;simp[BM] at a
  have hcan:Eo neg (Lib.decDigits u)=true:=by
   unfold Eo;have e1:decide (Lib.decDigits u=[])=false:=Abj b;rw[e1]
   by_cases hh:(Lib.decDigits u).head? =some 48
   ·have hu0:=d hh;subst hu0;have:neg=false:=by cases neg with
     | false=>rfl
     | true=>have:=hneg rfl;omega
    subst this;rw[P3 (by omega)];rfl
   ·rw[Abj hh];rfl
  have hv:J3 neg (Lib.decDigits u)=bif neg then -(u:Int) else u:=by
   have hn:NU (Lib.decDigits u)=(u:Int):=by
    have:=IC (Lib.decDigits u) 0 a;rw[c] at this;exact this
   unfold J3;rw[Abj (by omega),hn];rfl
  unfold HF Gm
  cases neg with
  | true=>
   have e1:decide ((45::(Lib.decDigits u++w)).head? =some 45)=true:=rfl;simp only[Abr,AbP,e1,List.tail_cons,NB _ _ a hw,hcan,hv]
  | false=>
   have e1:decide ((((bif false then 45::Lib.decDigits u else Lib.decDigits u)++w).head?)=some 45)=false:=by
    cases hdd:Lib.decDigits u with
    | nil=>exact absurd hdd b
    | cons x r=>simp[hhead x r hdd]
   simp only[Abk] at e1;simp only[Abk,e1,NB _ _ a hw,hcan,hv,Abr]
 by_cases hneg:n<0
 ·have e:Lib.itoa n=Gm true (Lib.decDigits n.natAbs):=by
   have:=Lib.itoa_neg n.natAbs (by omega);rw[show -(n.natAbs:Int)=n from by omega] at this;rw[this];rfl
  have:=key n.natAbs true (by omega) (λ_=>by omega);rw[e,this];show some (Fo.cell none ⟨3,-(n.natAbs:Int),[],0⟩ .nil,w)=_;rw[show -(n.natAbs:Int)=n from by omega]
 ·have e:Lib.itoa n=Gm false (Lib.decDigits n.natAbs):=by
   have:=Lib.itoa_nonneg n.natAbs;rw[show(n.natAbs:Int)=n from by omega] at this;rw[this];rfl
  have:=key n.natAbs false (by omega) (λh=>by cases h);rw[e,this];show some (Fo.cell none ⟨3,(n.natAbs:Int),[],0⟩ .nil,w)=_;rw[show(n.natAbs:Int)=n from by omega]
theorem Uu {s u:Ag}{f:Fo}(h:HF s=some (f,u)):∃n,f = .cell none ⟨3,n,[],0⟩ .nil∧(BG ⟨3,n,[],0⟩=false→s=Lib.itoa n++u):=by
 unfold HF at h;simp only at h;have key:∀(neg:Bool) (r:Ag),s=(bif neg then 45::r else r)→Eo neg (Cs r).1=true→BG ⟨3,J3 neg (Cs r).1,[],0⟩=false→s=Lib.itoa (J3 neg (Cs r).1)++(Cs r).2:=λneg r es hcan hout=>by
  have hd:=KZ r;have he:=M6 r;generalize(Cs r).1=d at *;generalize(Cs r).2=w at *;unfold Eo at hcan;simp only[Abp,Ab0,Abi] at hcan;obtain⟨hne,hz⟩:=hcan;have hl:d.length≤18:=by
   by_cases ha:d.length≤18
   ·exact ha
   ·exfalso;unfold J3 at hout;rw[Abm (by omega)] at hout
    cases neg<;>simp[BG] at hout
  have hn:J3 neg d=bif neg then -(Cq 0 d:Int) else(Cq 0 d:Int):=by
   have:=IC d 0 hd;unfold J3;rw[Abj (by omega)];show(bif neg then -(NU d) else NU d)=_;rw[show NU d=(Cq 0 d:Int) from this]
  have hback:=NC d.length d rfl hd hne (λe=>by
   cases h1:decide (1<d.length) with
   | true=>rw[Abm e,h1] at hz;simp at hz
   | false=>
    simp only[Abi] at h1
    cases d with
    | nil=>exact absurd rfl hne
    | cons x y=>simp only[Abl] at h1 ⊢;omega)
  rw[hn]
  cases neg with
  | true=>
   have hpos:1≤Cq 0 d:=by
    cases d with
    | nil=>exact absurd rfl hne
    | cons x y=>
     have hx:48≤x.toNat∧x.toNat≤57:=by simp[BM] at hd;omega
     have hx2:x.toNat≠48:=λe=>by
      have:x=48:=by rw[← Acf];exact e
      rw[this] at hz;simp at hz
     show 1≤Cq (10*0+(x.toNat-48)) y;exact Nat.le_trans (by omega) (HA y _)
   have:=Lib.itoa_neg (Cq 0 d) hpos;simp only[Abr] at es ⊢;rw[this,hback,es,AbP,← he]
  | false=>
   have:=Lib.itoa_nonneg (Cq 0 d);simp only[Abk] at es ⊢;rw[this,hback,es,← he]
 cases hneg:decide (s.head? =some 45) with
 | true=>
  rw[hneg] at h;simp only[Abr] at h
  cases hcan:Eo true (Cs s.tail).1 with
  | false=>rw[hcan] at h;cases h
  | true=>
   rw[hcan] at h;simp only[Abr,Option.some.injEq,Prod.mk.injEq] at h;obtain⟨rfl,rfl⟩:=h;refine⟨_,rfl,λhout=>key true s.tail ?_ hcan hout⟩
   cases s with
   | nil=>simp at hneg
   | cons c r=>
    simp at hneg;subst hneg;rfl
 | false=>
  rw[hneg] at h;simp only[Abk] at h
  cases hcan:Eo false (Cs s).1 with
  | false=>rw[hcan] at h;cases h
  | true=>
   rw[hcan] at h;simp only[Abr,Option.some.injEq,Prod.mk.injEq] at h;obtain⟨rfl,rfl⟩:=h;exact⟨_,rfl,λhout=>key false s rfl hcan hout⟩
theorem MQ:∀(s w:Ag),s.all J1=true→C8 true (DE s++34::w)=some (s,w)
 | [],w,_=>by
  show C8 true (34::w)=_;rw[Dq];rfl
 | c::s,w,ha=>by
  simp only[AbH,Abp] at ha;have ih:=MQ s w ha.2;have e:DE (c::s)=(bif (decide (c=34)||decide (c=92)) then[92,c] else[c])++DE s:=by simp[DE]
  rw[e]
  cases hq:(decide (c=34)||decide (c=92)) with
  | true=>
   simp only[Abr,AbP,AbJ];rw[Dq,show decide ((92:UInt8)=34)=false from by decide,show(true&&!J1 92)=false from by decide,show decide ((92:UInt8)=92)=true from by decide];simp only[Abk,Abr,hq,ih]
  | false=>
   simp only[Abk,AbP,AbJ];simp only[Ab8] at hq;rw[Dq,hq.1,ha.1,hq.2];simp only[Abw,AbF,Abk,ih]
theorem Ok:∀(n:Nat) (s t u:Ag),s.length=n→C8 true s=some (t,u)→s=DE t++34::u:=by
 intro n
 induction n using Nat.strongRecOn with
 | ind n ih=>
  intro s t u hn h
  cases s with
  | nil=>cases h
  | cons c r=>
   simp only[Abl] at hn;rw[Dq] at h
   cases h1:decide (c=34) with
   | true=>
    rw[h1] at h;cases h;rw[Abt h1];rfl
   | false=>
    rw[h1] at h;simp only[Abk] at h
    cases h2:(true&&!J1 c) with
    | true=>rw[h2] at h;cases h
    | false=>
     rw[h2] at h;simp only[Abk] at h
     cases h3:decide (c=92) with
     | true=>
      rw[h3] at h
      cases r with
      | nil=>cases h
      | cons d r'=>
       simp only[Abr] at h
       cases h4:(decide (d=34)||decide (d=92)) with
       | false=>rw[h4] at h;cases h
       | true=>
        rw[h4] at h;simp only[Abr] at h
        cases h5:C8 true r' with
        | none=>rw[h5] at h;cases h
        | some q=>
         obtain⟨t',u'⟩:=q;rw[h5] at h;cases h;simp only[Abl] at hn;have:=ih r'.length (by omega) r' t' u rfl h5;rw[Abt h3,this];simp[DE,h4]
     | false=>
      rw[h3] at h;simp only[Abk] at h
      cases h5:C8 true r with
      | none=>rw[h5] at h;cases h
      | some q=>
       obtain⟨t',u'⟩:=q;rw[h5] at h;cases h;have:=ih r.length (by omega) r t' u rfl h5;rw[this];simp only[Abi] at h1 h3;simp[DE,h1,h3]
theorem Qr {s:Ag}(h:BD s=0):Lib.itoa (Bm s)=s:=by
 unfold BD at h;unfold Bm
 cases hd:Kc s with
 | false=>rw[hd] at h;simp at h
 | true=>
  simp only[hd,Ach] at h ⊢;have hdec:=hd;simp only[Kc,Abp,Ab0,Ab8,Abi] at hdec;obtain⟨⟨hne,hz⟩,hall⟩:=hdec;rw[LC] at hall
  cases hs:s with
  | nil=>subst hs;exact absurd (show Hn []=[] by simp[Hn,MV]) hne
  | cons c r=>
   subst hs
   by_cases hc:c=45
   ·subst hc;have hdg:Hn (45::r)=r:=by simp[Hn,MV,Ba]
    rw[hdg] at hne hall hz;have he:Ba r 0≠48:=by
     intro e;rw[e] at hz;simp at hz
    rw[Lib.atoiAll_minus] at h ⊢;have hpm:Lib.parseMag r=Lib.parseUint10 0 r:=by unfold Lib.parseMag;rw[AbN hne]
    rw[hpm] at h ⊢;have hpos:1≤Cq 0 r:=by
     cases r with
     | nil=>exact absurd rfl hne
     | cons x y=>
      have hx:48≤x.toNat∧x.toNat≤57:=by simp[BM] at hall;omega
      have hx2:x.toNat≠48:=λe=>he (by show((x.toNat:Nat):Int)=48;omega);show 1≤Cq (10*0+(x.toNat-48)) y;exact Nat.le_trans (by omega) (HA y _)
    rcases Pk r 0 hall with e | ⟨e,_⟩
    ·rw[e] at h ⊢;simp only[Lib.signed] at h ⊢
     by_cases hbig:9223372036854775808<Cq 0 r
     ·rw[AbY hbig] at h;simp at h
     ·rw[AbN hbig] at h ⊢;simp only at h ⊢
      cases hv:D4 (-(Cq 0 r:Int)) with
      | false=>rw[hv] at h;simp at h
      | true=>
       rw[AbY rfl,Lib.itoa_neg _ hpos,NC r.length r rfl hall hne (λha=>?_)]
       cases r with
       | nil=>exact absurd rfl hne
       | cons x y=>
        simp only[List.head?_cons,Option.some.injEq] at ha;subst ha;exact absurd rfl he
    ·rw[e] at h;simp[Lib.signed] at h
   ·have hb : ¬ Ba (c::r) 0=45:=by
     intro e;exact hc (UInt8.toNat_inj.1 (by have:((c.toNat:Nat):Int)=45:=e;simp;omega))
    have hdg:Hn (c::r)=c::r:=by simp[Hn,MV,hb]
    rw[hdg] at hne hall hz;have hf:48≤c.toNat:=by simp[BM] at hall;omega
    rw[Lib.atoiAll_plain c r (by omega) (by omega)] at h ⊢;have hpm:Lib.parseMag (c::r)=Lib.parseUint10 0 (c::r):=by unfold Lib.parseMag;rw[AbN hne]
    rw[hpm] at h ⊢;rcases Pk (c::r) 0 hall with e | ⟨e,_⟩
    ·rw[e] at h ⊢;simp only[Lib.signless] at h ⊢
     by_cases hbig:9223372036854775808≤Cq 0 (c::r)
     ·rw[AbY hbig] at h;simp at h
     ·rw[AbN hbig] at h ⊢;simp only at h ⊢
      cases hv:D4 (Cq 0 (c::r):Int) with
      | false=>rw[hv] at h;simp at h
      | true=>
       rw[AbY rfl,Lib.itoa_nonneg];refine NC (c::r).length (c::r) rfl hall hne (λha=>?_);simp only[List.head?_cons,Option.some.injEq] at ha;subst ha;have:Ba (48::r) 0=48:=rfl;rw[this] at hz;simp only[decide_true,Aby,Bool.not_eq_false',Abh] at hz;rw[hz];rfl
    ·rw[e] at h;simp[Lib.signless] at h
theorem Jf {f:Fo}(h:f.one=true)(key:Option Ag)(r:Fo)(b:Bool):(f.put key r).txt b=Cv b++(E5 key++(f.txt true++r.txt false)):=by
 cases f with
 | nil=>cases h
 | cell k c s=>cases k with
  | some _=>cases h
  | none=>cases s with
   | nil=>simp[Fo.put,Fo.txt,Cv,E5]
   | _=>cases h
 | node k c kids s=>cases k with
  | some _=>cases h
  | none=>cases s with
   | nil=>simp[Fo.put,Fo.txt,Cv,E5]
   | _=>cases h
theorem Pi {f:Fo}(h:f.one=true)(key:Option Ag)(r:Fo):(f.put key r).flat.any BG=(f.flat.any BG||r.flat.any BG):=by
 rw[Et h,List.any_append,List.any_append,Nt,Ab5]
theorem Sj {m:Bool}{last:Option Ag}{g:Fo}(hw:g.wf m last=true):g = .nil∨∃ (k:Option Ag) (f r:Fo),g=f.put k r∧f.one=true∧f.wf false none=true∧Bp m last k=true∧r.wf m k=true:=by
 cases g with
 | nil=>exact .inl rfl
 | cell k c r=>
  simp only[Fo.wf,Abp,Ab0] at hw;obtain⟨⟨⟨w1,w2⟩,w3⟩,w4⟩:=hw;exact .inr ⟨k,.cell none c .nil,r,rfl,rfl,Mq w2 w3,w1,w4⟩
 | node k c kids r=>
  simp only[Fo.wf,Abp,Abh] at hw;obtain⟨⟨⟨⟨⟨w1,w2⟩,w3⟩,w5⟩,w6⟩,w4⟩:=hw;exact .inr ⟨k,.node none c kids .nil,r,rfl,rfl,Mp w2 w3 w5 w6,w1,w4⟩
theorem Vj {m:Bool}{last:Option Ag}{g:Fo}(hw:g.wf m last=true)(hn:g≠.nil):g.txt false=44::g.txt true:=by
 rcases Sj hw with h | ⟨k,f,r,rfl,h1,_⟩
 ·exact absurd h hn
 ·rw[Jf h1,Jf h1];rfl
theorem Wn {m:Bool}{last k:Option Ag}{w:Ag}(h:Bp m last k=true):Ef true m last (E5 k++w)=some (k,w):=by
 cases k with
 | none=>
  have:m=false:=by simpa[Bp] using h
  subst this;rfl
 | some s=>
  have h':=h;simp only[Bp,Abp] at h;obtain⟨⟨h1,h2⟩,h3⟩:=h;subst h1;have e:E5 (some s)++w=34::(DE s++34::(58::w)):=by simp[E5,DB]
  rw[e];unfold Ef;simp only[Abr,decide_true,MQ s (58::w) h2,h',Abw,AbF,Abk]
theorem O9 {m:Bool}{last k:Option Ag}{s w:Ag}(h:Ef true m last s=some (k,w)):s=E5 k++w:=by
 unfold Ef at h
 cases m with
 | false=>cases h;rfl
 | true=>
  simp only[Abr] at h
  cases s with
  | nil=>cases h
  | cons c r=>
   simp only at h
   cases h1:decide (c=34) with
   | false=>rw[h1] at h;cases h
   | true=>
    rw[h1] at h;simp only[Abr] at h
    cases h2:C8 true r with
    | none=>rw[h2] at h;cases h
    | some q=>
     obtain⟨t,u⟩:=q;have:=Ok _ r t u rfl h2;rw[h2] at h;simp only at h
     cases h3:(true&&!Bp true last (some t)) with
     | true=>rw[h3] at h;cases h
     | false=>
      rw[h3] at h;simp only[Abk] at h
      cases u with
      | nil=>cases h
      | cons d u'=>
       simp only at h
       cases h4:decide (d=58) with
       | false=>rw[h4] at h;cases h
       | true=>
        rw[h4] at h;cases h;rw[Abt h1,this,Abt h4];simp[E5,DB]
def okH (c:UInt8):Prop:=c=110∨c=116∨c=102∨c=34∨c=91∨c=123∨c=45∨BM c=true
theorem Oy {c:UInt8}(h:okH c)(m:Bool):decide (c=BJ m)=false:=by
 refine Abj λe=>?_;subst e
 cases m<;>revert h<;>unfold okH BM BJ<;>decide
theorem OC (n:Int):∃c r,Lib.itoa n=c::r∧(c=45∨BM c=true):=by
 obtain⟨a,b,_,_⟩:=ON n.natAbs
 by_cases hneg:n<0
 ·have:=Lib.itoa_neg n.natAbs (by omega);rw[show -(n.natAbs:Int)=n from by omega] at this;exact⟨45,_,this,.inl rfl⟩
 ·have:=Lib.itoa_nonneg n.natAbs;rw[show(n.natAbs:Int)=n from by omega] at this
  cases hd:Lib.decDigits n.natAbs with
  | nil=>exact absurd hd b
  | cons x r=>
   rw[hd] at a;simp only[AbH,Abp] at a;exact⟨x,r,by rw[this,hd],.inr a.1⟩
theorem RN {c:Aa}:∃x r,CZ c=x::r∧okH x:=by
 unfold CZ
 cases decide (c.fKind=1) with
 | true=>exact⟨_,_,rfl,.inl rfl⟩
 | false=>
 cases decide (c.fKind=2) with
 | true=>cases decide (c.fInt=1) with
  | true=>exact⟨_,_,rfl,.inr (.inl rfl)⟩
  | false=>exact⟨_,_,rfl,.inr (.inr (.inl rfl))⟩
 | false=>
 cases decide (c.fKind=3) with
 | true=>
  obtain⟨x,r,e,h⟩:=OC c.fInt;exact⟨x,r,e,by unfold okH;rcases h with h | h<;>simp[h]⟩
 | false=>
 cases decide (c.fKind=4) with
 | true=>exact⟨_,_,rfl,.inr (.inr (.inr (.inl rfl)))⟩
 | false=>cases decide (c.fKind=6) with
  | true=>exact⟨_,_,rfl,.inr (.inr (.inr (.inr (.inr (.inl rfl)))))⟩
  | false=>exact⟨_,_,rfl,.inr (.inr (.inr (.inr (.inl rfl))))⟩
theorem VF {f:Fo}(h:f.one=true):∃x r,f.txt true=x::r∧okH x:=by
 cases f with
 | nil=>cases h
 | cell k c s=>cases k with
  | some _=>cases h
  | none=>cases s with
   | nil=>
    obtain⟨x,r,e,ho⟩:=RN (c:=c);exact⟨x,r,by simp[Fo.txt,Cv,E5,e],ho⟩
   | _=>cases h
 | node k c kids s=>cases k with
  | some _=>cases h
  | none=>cases s with
   | nil=>
    simp only[Fo.txt,Cv,E5,Abr,AbJ,AbK];unfold Ma
    cases decide (c.fKind=6) with
    | true=>exact⟨_,_,rfl,.inr (.inr (.inr (.inr (.inr (.inl rfl)))))⟩
    | false=>exact⟨_,_,rfl,.inr (.inr (.inr (.inr (.inl rfl))))⟩
   | _=>cases h
theorem Vk {m:Bool}{last:Option Ag}{g:Fo}(hw:g.wf m last=true)(hn:g≠.nil):∃x r,g.txt true=x::r∧okH x:=by
 rcases Sj hw with h | ⟨k,f,r,rfl,h1,_⟩
 ·exact absurd h hn
 ·rw[Jf h1]
  cases k with
  | none=>
   obtain⟨x,y,e,ho⟩:=VF h1;exact⟨x,y++r.txt false,by simp[Cv,E5,e],ho⟩
  | some s=>exact⟨34,_,by simp[Cv,E5,DB];rfl,.inr (.inr (.inr (.inl rfl)))⟩
theorem RA {a b:UInt8}{x y:Ag}(h:a≠b):pre (a::x) (b::y)=none:=by
 rw[pre,Abj h];rfl
theorem Jh {F:Nat}{c:UInt8}{r:Ag}(h1:c≠110)(h2:c≠116)(h3:c≠102):EE true (F+1) (c::r) =
  bif decide (c=34) then(match C8 true r with
   | none=>none
   | some (t,u)=>some (lf 4 0 t,u)) else
  bif decide (c=91)||decide (c=123) then(match r with
   | []=>none
   | d::r'=>bif decide (d=BJ (decide (c=123))) then some (nd (decide (c=123)) .nil,r') else(match Do true F (decide (c=123)) none (d::r') with
    | none=>none
    | some (g,u)=>some (nd (decide (c=123)) g,u))) else
  HF (c::r):=by
 rw[Dn,RA (Ne.symm h1),RA (Ne.symm h2),RA (Ne.symm h3)];rfl
theorem VE {F:Nat}{c:Aa}{w:Ag}(hp:pl c=true)(hn:decide (0<c.fN)=false)(ho:BG c=false)(hw:∀x r,w=x::r→BM x=false):EE true (F+1) (CZ c++w)=some (.cell none c .nil,w):=by
 have hN:=VA hp;have h0:c.fN=0:=by simp only[Abi] at hn;omega
 cases c with
 | mk k n s N=>
 simp only at h0;subst h0;unfold CZ
 by_cases k1:k=1
 ·subst k1;simp[pl] at hp;obtain⟨rfl,rfl⟩:=hp;show EE true (F+1) ([110,117,108,108]++w)=_;rw[Dn,K7];rfl
 by_cases k2:k=2
 ·subst k2;simp[pl] at hp;obtain⟨hb,rfl⟩:=hp;rcases hb with rfl | rfl
  ·show EE true (F+1) ([102,97,108,115,101]++w)=_;rw[Dn,K7];rfl
  ·show EE true (F+1) ([116,114,117,101]++w)=_;rw[Dn,K7];rfl
 by_cases k3:k=3
 ·subst k3;simp[pl] at hp;subst hp;show EE true (F+1) (Lib.itoa n++w)=_;obtain⟨x,r,e,hx⟩:=OC n;have hx2:45≤x.toNat∧x.toNat≤57:=by
   rcases hx with rfl | hx
   ·decide
   ·simp[BM] at hx;omega
  have hne:∀y:UInt8,57<y.toNat∨y.toNat<45→x≠y:=λy hy e=>by subst e;omega
  rw[e,AbP,Jh (hne 110 (by decide)) (hne 116 (by decide)) (hne 102 (by decide)),Abj (hne 34 (by decide)),Abj (hne 91 (by decide)),Abj (hne 123 (by decide))];simp only[Bool.or_self,Abk];rw[← AbP,← e];simp[BG] at ho;exact Ut (by omega) (by omega) hw
 by_cases k4:k=4
 ·subst k4;simp[pl] at hp;obtain⟨rfl,hs⟩:=hp;have e:(bif decide ((4:Int)=1) then([110,117,108,108]:Ag) else bif decide ((4:Int)=2) then(bif decide ((0:Int)=1) then[116,114,117,101] else[102,97,108,115,101]) else bif decide ((4:Int)=3) then Lib.itoa 0 else bif decide ((4:Int)=4) then DB s else bif decide ((4:Int)=6) then[123,125] else[91,93])=DB s:=rfl;show EE true (F+1) (DB s++w)=_;have e2:DB s++w=34::(DE s++34::w):=by simp[DB]
  rw[e2,Jh (by decide) (by decide) (by decide),Abm rfl];simp only[Abr];rw[MQ s w (by rw[AbE];exact hs)];rfl
 by_cases k5:k=5
 ·subst k5;simp[pl] at hp;obtain⟨rfl,rfl⟩:=hp;show EE true (F+1) (91::93::w)=_;rw[Jh (by decide) (by decide) (by decide)];rfl
 by_cases k6:k=6
 ·subst k6;simp[pl] at hp;obtain⟨rfl,rfl⟩:=hp;show EE true (F+1) (123::125::w)=_;rw[Jh (by decide) (by decide) (by decide)];rfl
 exfalso;simp[pl,k1,k2,k3,k4,k5,k6] at hp
theorem U8 (m:Bool):BM (BJ m)=false:=by cases m<;>decide
theorem XI:∀n:Nat,(∀f:Fo,f.flat.length=n→f.one=true→f.wf false none=true→f.flat.any BG=false→∀(F:Nat) (w:Ag),2*n≤F→(∀x r,w=x::r→BM x=false)→EE true F (f.txt true++w)=some (f,w))∧
  (∀(g:Fo) (m:Bool) (last:Option Ag),g.flat.length=n→g≠.nil→g.wf m last=true→g.flat.any BG=false→∀(F:Nat) (w:Ag),2*n+1≤F→Do true F m last (g.txt true++BJ m::w)=some (g,w)):=by
 intro n
 induction n using Nat.strongRecOn with
 | ind n ih=>
  have hP:∀f:Fo,f.flat.length=n→f.one=true→f.wf false none=true→f.flat.any BG=false→∀(F:Nat) (w:Ag),2*n≤F→(∀x r,w=x::r→BM x=false)→EE true F (f.txt true++w)=some (f,w):=by
   intro f hn h1 hw ho F w hF hd;have hl:=KC h1;obtain⟨F,rfl⟩:∃K,F=K+1:=⟨F-1,by omega⟩
   cases f with
   | nil=>cases h1
   | cell k c s=>cases k with
    | some _=>cases h1
    | none=>cases s with
     | nil=>
      simp only[Fo.wf,Abp,Ab0] at hw;simp[Fo.flat,Bd] at ho;have e:(Fo.cell none c .nil).txt true=CZ c:=by simp[Fo.txt,Cv,E5]
      rw[e];exact VE hw.1.1.2 hw.1.2 ho hd
     | _=>cases h1
   | node k c kids s=>cases k with
    | some _=>cases h1
    | none=>cases s with
     | nil=>
      simp only[Fo.wf,Abp,Abh] at hw;obtain⟨⟨⟨⟨⟨w1,w2⟩,w3⟩,w5⟩,w6⟩,w4⟩:=hw;have hfl:(Fo.node none c kids .nil).flat=c::kids.flat:=by simp[Fo.flat,Bd]
      rw[hfl] at hn ho;simp only[Abl] at hn;simp only[List.any_cons,Ab8] at ho;have hne:kids≠.nil:=λe=>by subst e;simp[Fo.cnt] at w5;omega
      obtain⟨x,r,ex,hx⟩:=Vk w6 hne;obtain⟨ha,hi,hs⟩:=GZ w2 w3;have e:(Fo.node none c kids .nil).txt true=Ma c (kids.txt true):=by simp[Fo.txt,Cv,E5]
      have ih2:=(ih kids.flat.length (by omega)).2 kids (decide (c.fKind=6)) none rfl hne w6 ho.2 F w (by omega);have hnd:nd (decide (c.fKind=6)) kids = .node none c kids .nil:=by
       unfold nd;rw[Abj (by omega)]
       cases c with
       | mk a1 a2 a3 a4=>
        simp only at ha hi hs w5 ⊢;subst hi;subst hs;subst w5;rcases ha with rfl | rfl<;>rfl
      rw[e];unfold Ma
      cases hm:decide (c.fKind=6) with
      | true=>
       rw[hm] at ih2 hnd;have e3:(bif true then 123::(kids.txt true++[125]) else 91::(kids.txt true++[93]))++w=(bif true then(123:UInt8) else 91)::(x::(r++125::w)):=by simp[ex]
       have ih3:Do true F true none (x::(r++125::w))=some (kids,w):=by rw[ex] at ih2;exact ih2
       rw[e3,RD,Jy,Oy hx true,Abk,ih3];show some (nd true kids,w)=_;rw[hnd]
      | false=>
       rw[hm] at ih2 hnd;have e3:(bif false then 123::(kids.txt true++[125]) else 91::(kids.txt true++[93]))++w=(bif false then(123:UInt8) else 91)::(x::(r++93::w)):=by simp[ex]
       have ih3:Do true F false none (x::(r++93::w))=some (kids,w):=by rw[ex] at ih2;exact ih2
       rw[e3,RD,Jy,Oy hx false,Abk,ih3];show some (nd false kids,w)=_;rw[hnd]
     | _=>cases h1
  refine⟨hP,?_⟩;intro g m last hn hne hw ho F w hF;rcases Sj hw with h | ⟨k,f,r,rfl,h1,h2,h3,h4⟩
  ·exact absurd h hne
  obtain⟨F,rfl⟩:∃K,F=K+1:=⟨F-1,by omega⟩
  have hl:=KC h1;rw[Et h1,Abq,Abq] at hn;rw[Pi h1,Ab8] at ho;rw[Jf h1,CX];have e:(Cv true++(E5 k++(f.txt true++r.txt false)))++BJ m::w=E5 k++(f.txt true++(r.txt false++BJ m::w)):=by simp[Cv]
  rw[e,Wn h3];simp only;have hpar:∀v:Ag,(∀x y,v=x::y→BM x=false)→EE true F (f.txt true++v)=some (f,v):=λv hv=>by
   rcases Nat.lt_or_ge f.flat.length n with hlt | hge
   ·exact(ih f.flat.length hlt).1 f rfl h1 h2 ho.1 F v (by omega) hv
   ·exact hP f (by omega) h1 h2 ho.1 F v (by omega) hv
  by_cases hr:r = .nil
  ·subst hr;rw[hpar _ (λx y e=>by simp[Fo.txt] at e;rw[← e.1];exact U8 m)];simp[Fo.txt]
  ·rw[Vj h4 hr,AbP,hpar _ (λx y e=>by cases e;decide)];simp only;have hb:decide ((44:UInt8)=BJ m)=false:=by cases m<;>decide
   have:=(ih r.flat.length (by omega)).2 r m k rfl hr h4 ho.2 F w (by omega);rw[hb,this];rfl
theorem Qs:∀F:Nat,(∀s f u,EE true F s=some (f,u)→f.flat.any BG=false→s=f.txt true++u)∧(∀m last s g u,Do true F m last s=some (g,u)→g.flat.any BG=false→s=g.txt true++BJ m::u)
 | 0=>⟨(λs f u h=>by rw[EE.eq_def] at h;cases h),(λm last s g u h=>by rw[Do.eq_def] at h;cases h)⟩
 | F+1=>by
  obtain⟨ih1,ih2⟩:=Qs F;obtain⟨pl1,pl2⟩:=Ea true F;constructor
  ·intro s f u h ho;rw[Dn] at h
   cases h1:pre [110,117,108,108] s with
   | some r=>rw[h1] at h;cases h;rw[Dh h1];rfl
   | none=>
   rw[h1] at h;simp only at h
   cases h2:pre [116,114,117,101] s with
   | some r=>rw[h2] at h;cases h;rw[Dh h2];rfl
   | none=>
   rw[h2] at h;simp only at h
   cases h3:pre [102,97,108,115,101] s with
   | some r=>rw[h3] at h;cases h;rw[Dh h3];rfl
   | none=>
   rw[h3] at h;simp only at h
   cases s with
   | nil=>cases h
   | cons c r=>
    simp only at h
    cases h4:decide (c=34) with
    | true=>
     rw[h4] at h;simp only[Abr] at h
     cases h5:C8 true r with
     | none=>rw[h5] at h;cases h
     | some q=>
      obtain⟨t,u'⟩:=q;rw[h5] at h;cases h;rw[Abt h4,Ok _ r t _ rfl h5];simp[lf,Fo.txt,Cv,E5,CZ,DB]
    | false=>
    rw[h4] at h;simp only[Abk] at h
    cases h5:(decide (c=91)||decide (c=123)) with
    | true=>
     rw[h5] at h;simp only[Abr] at h;have hopen:∀x:Ag,(c::x)=(bif decide (c=123) then(123:UInt8) else 91)::x:=λx=>by
      cases h6:decide (c=123) with
      | true=>rw[Abt h6];rfl
      | false=>rw[h6,AbI] at h5;rw[Abt h5];rfl
     rw[hopen];generalize decide (c=123)=m at *
     cases r with
     | nil=>cases h
     | cons d r'=>
      simp only at h
      cases h6:decide (d=BJ m) with
      | true=>
       rw[h6] at h;cases h;rw[Abt h6]
       cases m<;>simp[nd,Fo.cnt,Fo.txt,Cv,E5,CZ,BJ]
      | false=>
       rw[h6] at h;simp only[Abk] at h
       cases h7:Do true F m none (d::r') with
       | none=>rw[h7] at h;cases h
       | some q=>
        obtain⟨g,u'⟩:=q;rw[h7] at h;cases h;have hc:=(pl2 _ _ _ _ _ h7).2;rw[Jl _ _ Ii,List.any_cons,Ab8] at ho;rw[ih2 _ _ _ _ _ h7 ho.2];unfold nd;rw[Abj (by omega)]
        cases m<;>simp[Fo.txt,Cv,E5,Ma,BJ]
    | false=>
     rw[h5] at h;simp only[Abk] at h;obtain⟨n,rfl,hb⟩:=Uu h;have ho':BG ⟨3,n,[],0⟩=false:=by simpa[Fo.flat,Bd] using ho
     rw[hb ho'];simp[Fo.txt,Cv,E5,CZ]
  ·intro m last s g u h ho;rw[CX] at h
   cases h1:Ef true m last s with
   | none=>rw[h1] at h;cases h
   | some q=>
    obtain⟨key,s1⟩:=q;rw[h1] at h;simp only at h
    cases h2:EE true F s1 with
    | none=>rw[h2] at h;cases h
    | some q=>
     obtain⟨f,s2⟩:=q;have hone:=(pl1 _ _ _ h2).2;rw[h2] at h;simp only at h
     cases s2 with
     | nil=>cases h
     | cons c s3=>
      simp only at h
      cases h3:decide (c=BJ m) with
      | true=>
       rw[h3] at h;cases h;rw[Pi hone,Ab8] at ho;rw[O9 h1,ih1 _ _ _ h2 ho.1,Jf hone,Abt h3];simp[Cv,Fo.txt]
      | false=>
       rw[h3] at h;simp only[Abk] at h
       cases h4:decide (c=44) with
       | false=>rw[h4] at h;cases h
       | true=>
        rw[h4] at h;simp only[Abr] at h
        cases h5:Do true F m key s3 with
        | none=>rw[h5] at h;cases h
        | some q=>
         obtain⟨g',w⟩:=q;rw[h5] at h;cases h;have hc:=(pl2 _ _ _ _ _ h5).2;rw[Pi hone,Ab8] at ho;have e5:=ih2 _ _ _ _ _ h5 ho.2;have e6:g'.txt false=44::g'.txt true:=by
          cases g' with
          | nil=>simp[Fo.cnt] at hc
          | cell k c r=>simp[Fo.txt,Cv]
          | node k c kids r=>simp[Fo.txt,Cv]
         rw[O9 h1,ih1 _ _ _ h2 ho.1,Jf hone,Abt h4,e5,e6];simp[Cv]
open Go Go.RowKit
theorem N6 {f:Fo}(h:EL f=0):f.flat.any BG=false∧f.flat.any GI=false∧f.flat.length≤200∧f.dep≤8∧(f.txt true).length≤4000:=by
 unfold EL at h
 cases h1:f.flat.any BG with
 | true=>rw[h1] at h;cases h
 | false=>
  rw[h1] at h
  cases h2:(f.flat.any GI||(decide (200<f.flat.length)||(decide (8<f.dep)||decide (4000<(f.txt true).length)))) with
  | true=>rw[h2] at h;cases h
  | false=>
   simp only[Ab8,Abi] at h2;exact⟨rfl,h2.1,by omega,by omega,by omega⟩
theorem Y2 {f:Fo}(h1:f.one=true)(hw:f.wf false none=true)(he:EL f=0):HK f.flat=0:=by
 unfold HK;rw[MF h1 hw];exact he
theorem Zm {F:Nat}{s u:Ag}{f:Fo}(h:EE true F s=some (f,u)):f.wf false none=true:=by
 have:=((Pm F).1 s).1;rw[h] at this
 cases h2:EE false F s with
 | none=>rw[h2] at this;cases this
 | some q=>
  obtain⟨g,w⟩:=q;rw[h2] at this;simp only at this
  cases hw:g.wf false none with
  | true=>rw[hw] at this;cases this;exact hw
  | false=>rw[hw] at this;cases this
theorem Y4 {v:List Aa}(h:(I0 v).2=0):L4 (I0 v).1=some (v,0):=by
 unfold I0 at h ⊢
 cases hw:whole v with
 | none=>rw[hw] at h;cases h
 | some f=>
  rw[hw] at h;simp only at h
  cases he:decide (EL f=0) with
  | false=>rw[he] at h;exact absurd h (Ab9 he)
  | true=>
   obtain⟨x1,x2,x3⟩:=JL hw;obtain⟨h1,h2,h3,h4,h5⟩:=N6 (Abt he);have hp:=(XI f.flat.length).1 f rfl x3 x2 h1 10000 [] (by omega) (λx r e=>by cases e);rw[AbK] at hp;simp only[he];show L4 (f.txt true)=_;unfold L4;rw[Abj (by omega),Abk,hp];simp only;rw[he,x1];rfl
theorem Tc {s:Ag}{r:List Aa×Int}(h:L4 s=some r)(h0:r.2=0):HQ 4000 r.1∧I0 r.1=(s,0)∧HK r.1=0:=by
 unfold L4 at h
 cases h4:decide (4000<s.length) with
 | true=>rw[h4] at h;cases h;cases h0
 | false=>
  rw[h4] at h;simp only[Abi] at h4;simp only[Abk] at h
  cases hp:EE true 10000 s with
  | none=>rw[hp] at h;cases h;cases h0
  | some q=>
   obtain⟨f,w⟩:=q;rw[hp] at h
   cases w with
   | cons _ _=>cases h;cases h0
   | nil=>
    simp only[Option.some.injEq] at h;subst h
    cases he:decide (EL f=0) with
    | false=>rw[he] at h0;exact absurd h0 (Ab9 he)
    | true=>
     have hf:=Abt he;have hw:=Zm hp;have hone:=((Ea true 10000).1 _ _ _ hp).2;have hcells:=(Lq true 4000 10000).1 _ _ _ (by omega) hp;have hfl:=(H8 true 10000).1 _ _ _ hp;obtain⟨h1,h2,h3,_⟩:=N6 hf;have hb:=(Qs 10000).1 _ _ _ hp h1;rw[AbK] at hb;refine⟨⟨by decide,by show f.flat.length≤4000;omega,λc hc=>?_⟩,?_,Y2 hone hw hf⟩
     ·obtain⟨a,b,c'⟩:=hcells c hc;exact⟨a,b,by omega⟩
     ·show I0 f.flat=_;unfold I0;rw[MF hone hw];simp only;rw[he,hb];rfl
theorem L3 (s:Ag):∃r,L4 s=some r:=by
 unfold L4
 cases decide (4000<s.length) with
 | true=>exact⟨_,rfl⟩
 | false=>
  simp only[Abk]
  split<;>exact⟨_,rfl⟩
section
variable {M : Nat} {v : List Aa}
end
def HL (c:Ae):Int:=
 bif !PB c.fKey then 4 else bif decide (c.fIfVersion<(-1))||decide (1000000000000<c.fIfVersion) then 2
 else bif c.fDelete&&decide (0<(c.fValue.length:Int)) then 7 else bif c.fDelete then 0 else HK c.fValue
def IK:List Ae→Int
 | []=>0
 | c::r=>bif decide (HL c=0) then IK r else HL c
def Iz (l:List Ae):Int:=bif decide (256<l.length) then 3 else IK l
theorem Lz:∀{l:List Ae},IK l=0→∀c∈l,HL c=0
 | [],_,c,hc=>by cases hc
 | d::r,h,c,hc=>by
  unfold IK at h
  cases hd:decide (HL d=0) with
  | false=>rw[hd] at h;exact absurd h (Ab9 hd)
  | true=>
   rw[hd] at h;rcases List.mem_cons.1 hc with rfl | hc
   ·exact Abt hd
   ·exact Lz h c hc
theorem N0:∀{l:List Ae},(∀c∈l,HL c=0)→IK l=0
 | [],_=>rfl
 | d::r,h=>by
  unfold IK;rw[Abm (h d (by simp))];exact N0 λc hc=>h c (by simp[hc])
def NX (c:Ae):List Ag:=[c.fKey,bif c.fDelete then[49] else[48],bif c.fDelete then[] else(I0 c.fValue).1,Lib.itoa c.fIfVersion]
def Eu (c:Ae):Ag:=KA (NX c)
def Kb (l:List Ae):Ag×Int:=bif decide (Iz l=0) then QM (l.map Eu) else([],Iz l)
theorem WM {v:List Aa}(h:HK v=0):(I0 v).1.length≤4000:=by
 unfold I0;unfold HK at h
 cases hw:whole v with
 | none=>rw[hw] at h;cases h
 | some f=>
  rw[hw] at h;simp only at h ⊢;rw[h];exact(N6 h).2.2.2.2
theorem N7 {c:Ae}(h:HL c=0):PB c.fKey=true∧-1≤c.fIfVersion∧c.fIfVersion≤1000000000000∧(c.fDelete=true→c.fValue=[])∧(c.fDelete=false→HK c.fValue=0):=by
 unfold HL at h
 cases h1:PB c.fKey with
 | false=>rw[h1] at h;cases h
 | true=>
  rw[h1] at h;simp only[Abw,Abk] at h
  cases h2:(decide (c.fIfVersion<(-1))||decide (1000000000000<c.fIfVersion)) with
  | true=>rw[h2] at h;cases h
  | false=>
   rw[h2] at h;simp only[Abk] at h;simp only[Ab8,Abi] at h2
   cases h3:c.fDelete with
   | true=>
    rw[h3] at h;simp only[Aby] at h
    cases h4:decide (0<(c.fValue.length:Int)) with
    | true=>rw[h4] at h;cases h
    | false=>
     simp only[Abi] at h4;exact⟨rfl,by omega,by omega,λ_=>Ab7 (by omega),λh=>(by cases h)⟩
   | false=>
    rw[h3] at h;exact⟨rfl,by omega,by omega,λh=>(by cases h),λ_=>h⟩
theorem Uv {s:Ag}(h:PB s=true):s.length≤64:=by
 unfold PB at h;simp only[Abp,Abh] at h;exact h.2
theorem Qx {c:Ae}(h:HL c=0):Xy (NX c)=true:=by
 obtain⟨h1,h2,h3,h4,h5⟩:=N7 h;have a1:=Uv h1;have a2:=Wv c.fIfVersion (by omega) (by omega);unfold Xy NX;simp only[Abl,AbX,AbH,List.all_nil,AbA,Abp,Abh];refine⟨by omega,by omega,?_,?_,by omega⟩
 ·cases c.fDelete<;>simp
 ·cases hd:c.fDelete with
  | true=>simp
  | false=>exact WM (h5 hd)
def zC:Ae:=Ae.mk [] false [] 0
def QR (l:List Ag):Bool:=decide ((l.length:Int)=4)&&((decide (Ap l 1=[48])||decide (Ap l 1=[49]))&&decide (BD (Ap l 3)=0))
def ofC (l:List Ag):Ae×Bool:=
 bif decide (Ap l 1=[49]) then(Ae.mk (Ap l 0) true [] (Bm (Ap l 3)),decide (Ap l 2=[]))
 else(Ae.mk (Ap l 0) false (ov (L4 (Ap l 2))).1 (Bm (Ap l 3)),decide ((ov (L4 (Ap l 2))).2=0))
def Lk (b:Ag):Ae×Bool:=bif decide ((Gl b).2=0)&&QR (Gl b).1 then ofC (Gl b).1 else(zC,false)
def LX (b:Ag):Bool:=(Lk b).2&&decide (HL (Lk b).1=0)
def J4 (s:Ag):Bool:=decide ((BA s.length s).2=s.length)&&(decide ((BA s.length s).1.length≤256)&&((BA s.length s).1.all LX&&decide (s.length≤262144)))
def ND (s:Ag):List Ae×Int:=bif J4 s then((BA s.length s).1.map λb=>(Lk b).1,0) else([],13)
theorem Ss {c:Ae}(h:HL c=0):Lk (Eu c)=(c,true):=by
 obtain⟨h1,h2,h3,h4,h5⟩:=N7 h;have hu:=Vg (Qx h);unfold Lk Eu;rw[hu];have e0:Ap (NX c) 0=c.fKey:=rfl;have e1:Ap (NX c) 1=bif c.fDelete then[49] else[48]:=rfl;have e2:Ap (NX c) 2=bif c.fDelete then[] else(I0 c.fValue).1:=rfl;have e3:Ap (NX c) 3=Lib.itoa c.fIfVersion:=rfl;have hp:BD (Lib.itoa c.fIfVersion)=0∧Bm (Lib.itoa c.fIfVersion)=c.fIfVersion:=by
  by_cases h0:0≤c.fIfVersion
  ·exact Us h0 h3
  ·have:c.fIfVersion = -1:=by omega
   rw[this];decide +kernel
 have hf:QR (NX c)=true:=by
  unfold QR;rw[e1,e3,hp.1]
  cases c.fDelete<;>rfl
 simp only[hf,decide_true,Bool.and_self,Abr];unfold ofC;rw[e0,e1,e2,e3,hp.2];obtain⟨k,d,v,iv⟩:=c
 cases d with
 | true=>
  have hv:v=[]:=h4 rfl;subst hv;rfl
 | false=>
  have hv:L4 (I0 v).1=some (v,0):=Y4 (by
   have:(I0 v).2=HK v:=by
    unfold I0 HK
    cases whole v with
    | none=>rfl
    | some f=>simp only;cases hh:decide (EL f=0) with
     | true=>rw[Abt hh];rfl
     | false=>rfl
   rw[this];exact h5 rfl)
  show(bif decide (([48]:Ag)=[49]) then _ else _)=_;rw[show decide (([48]:Ag)=[49])=false from by decide];simp only[Abk,hv,Ji,decide_true]
theorem Aa0 {l:List Ag}(h:(l.length:Int)=4):∃a b c d,l=[a,b,c,d]:=by
 match l,h with
 | [a,b,c,d],_=>exact⟨a,b,c,d,rfl⟩
 | [],h=>simp at h
 | [_],h=>simp at h
 | [_,_],h=>simp at h
 | [_,_,_],h=>simp at h
 | _::_::_::_::_::_,h=>simp at h;omega
theorem Su {b:Ag}(h:(Lk b).2=true):(Gl b).2=0∧QR (Gl b).1=true∧Lk b=ofC (Gl b).1:=by
 unfold Lk at h ⊢
 cases hc:(decide ((Gl b).2=0)&&QR (Gl b).1) with
 | false=>rw[hc] at h;cases h
 | true=>
  simp only[Abp,Abh] at hc;exact⟨hc.1,hc.2,rfl⟩
theorem XQ {b:Ag}(h:LX b=true):Eu (Lk b).1=b:=by
 unfold LX at h;simp only[Abp,Abh] at h;obtain⟨g1,g2⟩:=h;obtain⟨u1,u2,u3⟩:=Su g1;obtain⟨_,hpk⟩:=Qt (s:=b) (l:=(Gl b).1) (by rw[← u1]);rw[u3] at g1 g2 ⊢;generalize(Gl b).1=l at *;unfold QR at u2;simp only[Abp,AbQ,Abh] at u2;obtain⟨v1,v2,v3⟩:=u2;have hi:=Qr v3;obtain⟨k,f,t,m,rfl⟩:=Aa0 v1;have e0:Ap [k,f,t,m] 0=k:=rfl;have e1:Ap [k,f,t,m] 1=f:=rfl;have e2:Ap [k,f,t,m] 2=t:=rfl;have e3:Ap [k,f,t,m] 3=m:=rfl;rw[e3] at hi;unfold ofC at g1 g2 ⊢;rw[e1] at v2;simp only[e0,e1,e2,e3] at g1 g2 ⊢;unfold Eu
 cases hf:decide (f=[49]) with
 | true=>
  have hf':=Abt hf;rw[hf] at g1;have ht:t=[]:=Abt g1;subst hf' ht;show KA [k,[49],[],Lib.itoa (Bm m)]=b;rw[hi];exact hpk
 | false=>
  have hf':f=[48]:=by
   rcases v2 with v2 | v2
   ·exact v2
   ·exact absurd v2 (Ab9 hf)
  rw[hf] at g1;simp only[Abk] at g1 ⊢;obtain⟨r,hr⟩:=L3 t;rw[hr,Ji] at g1;obtain⟨_,d2,_⟩:=Tc hr (Abt g1);subst hf';show KA [k,[48],(I0 (ov (L4 t)).1).1,Lib.itoa (Bm m)]=b;rw[hr,Ji,d2,hi];exact hpk
theorem KS (l:List Ag):l.length≤(l.flatMap Ch).length:=by
 induction l with
 | nil=>simp
 | cons b l ih=>rw[Acb,Abq,DH,Abl];omega
theorem N8 {l:List Ae}(h:(Kb l).2=0):ND (Kb l).1=(l,0):=by
 unfold Kb at h ⊢
 cases he:decide (Iz l=0) with
 | false=>rw[he] at h;exact absurd h (Ab9 he)
 | true=>
  rw[he] at h;simp only[Abr] at h ⊢;unfold QM at h ⊢
  cases hj:decide (((l.map Eu).flatMap Ch).length≤262144) with
  | false=>rw[hj] at h;cases h
  | true=>
   simp only[Abr];have hlim:=Abt hj;have he':=Abt he;unfold Iz at he'
   cases ha:decide (256<l.length) with
   | true=>rw[ha] at he';cases he'
   | false=>
    rw[ha] at he';simp only[Abk] at he';have hall:=Lz he';have hb:∀b∈l.map Eu,b.length≤262136:=λb hb=>by have:=NY _ b hb;omega
    have hsp:=LO (l.map Eu) ((l.map Eu).flatMap Ch).length hb (KS _);have hmap:(l.map Eu).map (λb=>(Lk b).1)=l:=by
     rw[Ace]
     conv=>rhs;rw[← List.map_id l]
     exact List.map_congr_left λc hc=>by show(Lk (Eu c)).1=c;rw[Ss (hall c hc)]
    have hgood:(l.map Eu).all LX=true:=by
     rw[List.all_map,AbE];intro c hc;show LX (Eu c)=true;unfold LX;rw[Ss (hall c hc)];simp only[Aby];exact Abm (hall c hc)
    unfold ND J4;rw[hsp,hgood];simp only[Abi] at ha;rw[Abm rfl,Abm (by simp;omega),hj,hmap];rfl
theorem WY {s:Ag}(h:(ND s).2=0):Kb (ND s).1=(s,0):=by
 unfold ND at h ⊢
 cases hg:J4 s with
 | false=>rw[hg] at h;cases h
 | true=>
  simp only[Abr];unfold J4 at hg;simp only[Abp,Abh] at hg;obtain⟨g1,g2,g3,g4⟩:=hg;obtain⟨_,s2,_⟩:=Jc s.length s;rw[g1,Aca] at s2;generalize(BA s.length s).1=l at *;rw[AbE] at g3;have hall:∀c∈l.map (λb=>(Lk b).1),HL c=0:=λc hc=>by
   obtain⟨b,hb,rfl⟩:=List.mem_map.1 hc;have:=g3 b hb;unfold LX at this;simp only[Abp,Abh] at this;exact this.2
  have hp:Iz (l.map λb=>(Lk b).1)=0:=by
   unfold Iz;rw[Abj (by simp;omega)];exact N0 hall
  have hm:(l.map λb=>(Lk b).1).map Eu=l:=by
   rw[Ace]
   conv=>rhs;rw[← List.map_id l]
   exact List.map_congr_left λb hb=>XQ (g3 b hb)
  unfold Kb;rw[hp,hm];unfold QM;rw[← s2,Abm g4];rfl
def tb (i:Nat):Int:=nv (Rn 8 (BitVec.ofNat 32 i))
def Ix (x:Nat):List Int:=(List.range 256).map λi=>if i<x then tb i else 0
theorem I7 (x:Nat):(Ix x).length=256:=by simp[Ix]
theorem Vm {x:Nat}(h:x<256):(Ix x).set x (tb x)=Ix (x+1):=by
 apply List.ext_getElem (by simp[Ix]);intro i h1 h2;simp only[Ix,List.getElem_set,List.getElem_map,List.getElem_range]
 by_cases e:x=i
 ·subst e;simp
 ·rw[AbN e]
  by_cases g:i<x
  ·rw[AbY g,AbY (by omega)]
  ·rw[AbN g,AbN (by omega)]
theorem Zg:Ix 0=List.replicate 256 (0:Int):=by
 apply List.ext_getElem
 ·rw[I7,List.length_replicate]
 ·intro i h1 h2;rw[List.getElem_replicate];simp only[Ix,List.getElem_map,List.getElem_range,Nat.not_lt_zero,Acc]
theorem ZO {i:Nat}(h:i<256):Ap (Ix 256) (i:Int)=tb i:=by simp[Ap,Ix,h]
theorem W2 (k:Nat):∀(n:Nat) (b:BitVec 32) (x:Int),0≤x→x+k=8→k<n→BE (λσ:Int×Int=>EI σ.1 σ.2) n (nv b,x)=some (.go (nv (Rn k b),8,false)):=by
 induction k with
 | zero=>
  intro n b x h0 h hn;obtain⟨n,rfl⟩:∃m,n=m+1:=⟨n-1,by omega⟩
  have:x=8:=by omega
  subst this;rfl
 | succ k ih=>
  intro n b x h0 h hn;obtain⟨n,rfl⟩:∃m,n=m+1:=⟨n-1,by omega⟩
  have hb:EI (nv b) x=some (.next (nv (sB b),x+1)):=by
   unfold EI;rw[AA (Abm (by omega)),A6 (by omega) (by omega),Vy]
  rw[BE,hb];exact ih n (sB b) (x+1) (by omega) (by omega) (by omega)
theorem UX (n:Nat):IntKind.wrap .u32 (n:Int)=nv (BitVec.ofNat 32 n):=by
 unfold nv;rw[BitVec.toNat_ofNat];simp[IntKind.wrap,IntKind.signed,IntKind.bits]
theorem QP {F:Nat}(hF:8<F)(k:Nat):∀(n:Nat) (x:Nat),x+k=256→k<n→BE (λσ:Int×List Int=>EJ F σ.1 σ.2) n ((x:Int),Ix x)=some (.go (Ix 256)):=by
 induction k with
 | zero=>
  intro n x h hn;obtain⟨n,rfl⟩:∃m,n=m+1:=⟨n-1,by omega⟩
  have:x=256:=by omega
  subst this;rfl
 | succ k ih=>
  intro n x h hn;obtain⟨n,rfl⟩:∃m,n=m+1:=⟨n-1,by omega⟩
  have hb:EJ F (x:Int) (Ix x)=some (.next (((x+1:Nat):Int),Ix (x+1))):=by
   unfold EJ;rw[AA (Abm (by omega)),UX,A8 (W2 8 F _ 0 (by omega) (by omega) hF),Dx];unfold HG;rw[show nv (Rn 8 (BitVec.ofNat 32 x))=tb x from rfl];rw[AQ (by omega) (by omega),AQ (by omega) (by rw[I7];omega),A6 (by omega) (by omega),Int.toNat_natCast,Vm (by omega)];rfl
  rw[BE,hb];exact ih n (x+1) (by omega) (by omega)
theorem Uy {F:Nat}(hF:300<F):Nz F=some (Ix 256):=by
 unfold Nz;have:=QP (F:=F) (by omega) 256 F 0 (by omega) (by omega);rw[Zg] at this;rw[show((0:Int),List.replicate 256 (0:Int))=(((0:Nat):Int),List.replicate 256 (0:Int)) from rfl,A8 this,Dx];unfold HH;rw[B9 (Abm (I7 256)),B9 (Abm List.length_replicate)]
theorem EZ {α:Type}[Inhabited α]{l:List α}{i:Nat}{b:α}{r:List α}(h:l.drop i=b::r):Ap l (i:Int)=b∧i<l.length∧l.drop (i+1)=r:=by
 have hl:i<l.length:=by
  have:=congrArg List.length h;simp only[Acg,Abl] at this;omega
 have hg:l[i]? =some b:=by
  have:=congrArg (λt=>t[0]?) h;simpa using this
 refine⟨by simp[Ap,hg],hl,?_⟩;rw[← Aci,h];rfl
theorem Xi (b:BitVec 32)(c:UInt8):Ge .u8 (IntKind.wrap .u8 (nv b)) (c.toNat:Int)=(((b^^^Iu c).toNat % 256:Nat):Int):=by
 have hc:=c.toNat_lt;have e1:IntKind.wrap .u8 (nv b)=((b.toNat % 256:Nat):Int):=by
  unfold nv;simp[IntKind.wrap,IntKind.signed,IntKind.bits]
 have h1:(BitVec.ofInt (IntKind.bits .u8) ((b.toNat % 256:Nat):Int)^^^BitVec.ofInt (IntKind.bits .u8) (c.toNat:Int)).toNat=(b^^^Iu c).toNat % 256:=by
  rw[BitVec.toNat_xor,BitVec.toNat_ofInt,BitVec.toNat_ofInt,BitVec.toNat_xor];have hbits:IntKind.bits .u8=8:=rfl;have e1:(((b.toNat % 256:Nat):Int) % ((2 ^ 8:Nat):Int)).toNat=b.toNat % 256:=by omega
  have e2:(((c.toNat:Nat):Int) % ((2 ^ 8:Nat):Int)).toNat=c.toNat % 256:=by omega
  have e3:(Iu c).toNat=c.toNat:=by unfold Iu;rw[BitVec.toNat_ofNat];omega
  rw[hbits,e1,e2,e3];exact(Nat.xor_mod_two_pow (n:=8)).symm
 unfold Ge;rw[e1,h1];simp[IntKind.wrap,IntKind.signed,IntKind.bits]
theorem MC (b:BitVec 32)(c:UInt8):(b^^^Iu c)>>>8=b>>>8:=by
 rw[BitVec.ushiftRight_xor_distrib];have:Iu c>>>8=0#32:=by
  apply BitVec.eq_of_toNat_eq;have hc:=c.toNat_lt;rw[BitVec.toNat_ushiftRight,Nat.shiftRight_eq_div_pow];unfold Iu;rw[BitVec.toNat_ofNat];show c.toNat % 4294967296/256=0;omega
 rw[this];simp
theorem Wc (z:BitVec 32):BitVec.ofNat 32 (z.toNat % 256)=z&&& 255#32:=by
 apply BitVec.eq_of_toNat_eq;have hz:=z.isLt;rw[BitVec.toNat_ofNat,BitVec.toNat_and];have:z.toNat&&& 255=z.toNat % 256:=Nat.and_two_pow_sub_one_eq_mod z.toNat 8;show z.toNat % 256 % 4294967296=z.toNat&&& 255;rw[this];omega
theorem Xd (b:BitVec 32)(c:UInt8):Ge .u32 (tb ((b^^^Iu c).toNat % 256)) (BX .u32 (nv b) 8)=nv (Rn 8 (b^^^Iu c)):=by
 unfold tb;have hs:BX .u32 (nv b) 8=nv (b>>>8):=ST (n:=8) (by omega) b;rw[hs,Py,Rg,Rg,Wc,← MC b c,← T6]
theorem Zs (b:BitVec 32):Uw .u32 (nv b)=((~~~b).toNat:Int):=by
 show Ge .u32 4294967295 (nv b)=_;rw[Py,Rg];have:bv 4294967295=BitVec.allOnes 32:=by decide
 rw[this,BitVec.allOnes_xor];rfl
theorem OE (s:Ag):∀(r:Ag) (n i:Nat) (b:BitVec 32),s.drop i=r→s.length≤1000000000→r.length<n→i≤s.length→BE (λσ:Int×Int=>Gr s (Ix 256) σ.1 σ.2) n (nv b,(i:Int))=some (.go (nv (Xe b r)))
 | [],n,i,b,h,hs,hn,hi=>by
  obtain⟨n,rfl⟩:∃m,n=m+1:=⟨n-1,by simp at hn;omega⟩
  have:s.length≤i:=by simpa using h
  have hb:Gr s (Ix 256) (nv b) (i:Int)=some (.out (.go (nv b))):=by
   unfold Gr;rw[As (Abj (by omega))]
  rw[BE,hb];rfl
 | c::r,n,i,b,h,hs,hn,hi=>by
  obtain⟨n,rfl⟩:∃m,n=m+1:=⟨n-1,by simp at hn;omega⟩
  obtain⟨_,hl,hd⟩:=EZ h;have hbt:=Xm h;have hz:(b^^^Iu c).toNat % 256<256:=by omega
  have hb:Gr s (Ix 256) (nv b) (i:Int)=some (.next (nv (Rn 8 (b^^^Iu c)),((i+1:Nat):Int))):=by
   unfold Gr;rw[AA (Abm (by omega)),AQ (by omega) (by omega),hbt,Xi,AQ (by omega) (by omega),AQ (by omega) (by rw[I7];omega),A6 (by omega) (by omega),ZO hz,Xd];rfl
  rw[BE,hb];exact OE s r n (i+1) _ hd hs (by simp at hn;omega) (by omega)
theorem SV {F:Nat}{s:Ag}(hF:300<F)(hs:s.length<F)(hl:s.length≤1000000000):Uz F s=some (Ob s:Int):=by
 unfold Uz;rw[A8 (Uy hF),B9 (Abm List.length_replicate),B9 (Abm (I7 256))];rw[show((4294967295:Int),(0:Int))=(nv 4294967295#32,((0:Nat):Int)) from rfl,A8 (OE s s F 0 _ rfl hl hs (by omega))];show some (Uw .u32 (nv (Xe 4294967295#32 s)))=_;rw[Zs];rfl
theorem Vt (n k:Nat)(h:k≤32):BX .u32 (n:Int) (k:Int)=((n/2 ^ k:Nat):Int):=by
 unfold BX;have e:min (k:Int).toNat (IntKind.bits .u32)=k:=by
  have:IntKind.bits .u32=32:=rfl;rw[this];omega
 rw[e,Int.fdiv_eq_ediv_of_nonneg _ (Int.pow_nonneg (by omega))];simp
theorem W8 (n:Nat):([IntKind.wrap .u8 (BX .u32 (n:Int) 24),IntKind.wrap .u8 (BX .u32 (n:Int) 16),IntKind.wrap .u8 (BX .u32 (n:Int) 8),IntKind.wrap .u8 (n:Int)]:List Int)=CC (UF n):=by
 have ha:BX .u32 (n:Int) 24=((n/16777216:Nat):Int):=Vt n 24 (by omega);have hb:BX .u32 (n:Int) 16=((n/65536:Nat):Int):=Vt n 16 (by omega);have h8:BX .u32 (n:Int) 8=((n/256:Nat):Int):=Vt n 8 (by omega);rw[ha,hb,h8,MD,MD,MD,MD];rfl
theorem N5 (n:Nat):Jw (n:Int)=some (UF n):=by
 unfold Jw;rw[W8,Po]
theorem IU {n:Nat}(h:n<4294967296):IntKind.wrap .u32 (n:Int)=(n:Int):=by
 rw[UX];unfold nv;rw[BitVec.toNat_ofNat];omega
theorem ZE (x y:Int):HT .u32 x y=nv (bv x||| bv y):=OU (bv x||| bv y)
theorem Pz {x y:Nat}(hx:x<4294967296)(hy:y<4294967296):HT .u32 (x:Int) (y:Int)=((x||| y:Nat):Int):=by
 rw[ZE];unfold nv;rw[BitVec.toNat_or];have e:∀z:Nat,z<4294967296→(bv (z:Int)).toNat=z:=λz hz=>by
  have:=YP (x:=(z:Int)) ⟨by omega,by omega⟩;unfold nv at this;exact Int.ofNat_inj.1 this
 rw[e x hx,e y hy]
theorem Vu {n k:Nat}(h:k≤32)(hn:n*2 ^ k<4294967296):C7 .u32 (n:Int) (k:Int)=((n <<< k:Nat):Int):=by
 unfold C7;have e:min (k:Int).toNat (IntKind.bits .u32)=k:=by
  have:IntKind.bits .u32=32:=rfl;rw[this];omega
 rw[e,Nat.shiftLeft_eq,show(n:Int)*2 ^ k=((n*2 ^ k:Nat):Int) from by simp,IU hn]
theorem Zq {a b c d:Nat}(ha:a<256)(hb:b<256)(hc:c<256)(hd:d<256):((a <<< 24||| b <<< 16)||| c <<< 8)||| d=((a*256+b)*256+c)*256+d:=by
 have e1:a <<< 24||| b <<< 16=(a*256+b) <<< 16:=by
  rw[← Nat.shiftLeft_add_eq_or_of_lt (by rw[Nat.shiftLeft_eq];omega)];simp only[Nat.shiftLeft_eq];omega
 have e2:(a*256+b) <<< 16||| c <<< 8=((a*256+b)*256+c) <<< 8:=by
  rw[← Nat.shiftLeft_add_eq_or_of_lt (by rw[Nat.shiftLeft_eq];omega)];simp only[Nat.shiftLeft_eq];omega
 rw[e1,e2,← Nat.shiftLeft_add_eq_or_of_lt (by omega)];simp only[Nat.shiftLeft_eq]
theorem N3 {s:Ag}(h:4≤s.length):Jt s=some (E2 s:Int):=by
 match s,h with
 | a::b::c::d::r,_=>
  have ha:=a.toNat_lt;have hb:=b.toNat_lt;have hc:=c.toNat_lt;have hd:=d.toNat_lt;unfold Jt;rw[AQ (by omega) (by simp only[Abl];omega),AQ (by omega) (by simp only[Abl];omega),AQ (by omega) (by simp only[Abl];omega),AQ (by omega) (by simp only[Abl];omega)];have b0:Ba (a::b::c::d::r) 0=(a.toNat:Int):=rfl;have b1:Ba (a::b::c::d::r) 1=(b.toNat:Int):=rfl;have b2:Ba (a::b::c::d::r) 2=(c.toNat:Int):=rfl;have b3:Ba (a::b::c::d::r) 3=(d.toNat:Int):=rfl;have s1:C7 .u32 (a.toNat:Int) 24=((a.toNat <<< 24:Nat):Int):=Vu (k:=24) (by omega) (by omega);have s2:C7 .u32 (b.toNat:Int) 16=((b.toNat <<< 16:Nat):Int):=Vu (k:=16) (by omega) (by omega);have s3:C7 .u32 (c.toNat:Int) 8=((c.toNat <<< 8:Nat):Int):=Vu (k:=8) (by omega) (by omega);have l1:a.toNat <<< 24<4294967296:=by rw[Nat.shiftLeft_eq];omega
  have l2:b.toNat <<< 16<4294967296:=by rw[Nat.shiftLeft_eq];omega
  have l3:c.toNat <<< 8<4294967296:=by rw[Nat.shiftLeft_eq];omega
  rw[b0,b1,b2,b3,IU (by omega),IU (by omega),IU (by omega),IU (by omega),s1,s2,s3,Pz l1 l2,Pz (Nat.or_lt_two_pow (n:=32) l1 l2) l3,Pz (Nat.or_lt_two_pow (n:=32) (Nat.or_lt_two_pow (n:=32) l1 l2) l3) (by omega),Zq ha hb hc hd];rfl
theorem Hg (n:Nat):(UF n).length=4:=rfl
theorem C0 (s:Ag):(CC s).length=s.length:=by simp[CC]
theorem QS {F:Nat}(hF:262200<F)(b:Ag):N2 F b=some (bif decide (262136<b.length) then([],3) else(Ch b,0)):=by
 unfold N2
 cases h:decide (262136<b.length) with
 | true=>rw[AA (Abm (by have:=Abt h;omega))];rfl
 | false=>
  have h':=Ab9 h;rw[As (Abj (by omega)),IU (by omega),A8 (N5 _),A8 (SV (by omega) (by omega) (by omega)),A8 (N5 _)];rw[A6 (by rw[Hg,Hg];omega) (by rw[Hg,Hg];omega),A6 (by rw[Abq,Hg,Hg];omega) (by rw[Abq,Hg,Hg];omega)];rfl
theorem Tr {n:Nat}(h:n<4294967296):IntKind.wrap .i64 (n:Int)=(n:Int):=by rw[IntKind.wrap_i64];omega
theorem ZM (s:Ag)(n:Nat):List.take (Int.toNat (8+(n:Int))-Int.toNat 8) (List.drop (Int.toNat 8) s)=(s.drop 8).take n:=by
 rw[show Int.toNat (8+(n:Int))-Int.toNat 8=n from by omega];rfl
theorem WE {F:Nat}(hF:262200<F){s:Ag}(hs:s.length≤1000000000):QU F s=some (CL s):=by
 unfold QU CL
 cases h1:decide (s.length<8) with
 | true=>rw[AA (Abm (by have:=Abt h1;omega))];rfl
 | false=>
  have h1':=Ab9 h1;have hn:=Ya s;rw[As (Abj (by omega)),A8 (N3 (by omega)),Tr hn];simp only[Abk]
  cases h2:decide (262136<E2 s) with
  | true=>rw[AA (Abm (by have:=Abt h2;omega))];rfl
  | false=>
   have h2':=Ab9 h2;rw[As (Abj (by omega)),A6 (by omega) (by omega)];simp only[Abk]
   cases h3:decide (s.length-8<E2 s) with
   | true=>rw[AA (Abm (by have:=Abt h3;omega))];rfl
   | false=>
    have h3':=Ab9 h3;rw[As (Abj (by omega)),A6 (by omega) (by omega),BO (by omega) (by omega),BO (by omega) (by omega),ZM];have hl:((s.drop 8).take (E2 s)).length=E2 s:=by simp;omega
    rw[A8 (SV (by omega) (by rw[hl];omega) (by rw[hl];omega)),BO (by omega) (by omega),A8 (N3 (by simp;omega))];simp only[Abk];rw[show decide (((Ob ((s.drop 8).take (E2 s)):Nat):Int)=((E2 (List.drop (Int.toNat 4) s):Nat):Int))=decide (Ob ((s.drop 8).take (E2 s))=E2 (s.drop 4)) from by rw[Abz];simp only[Abh];exact Int.ofNat_inj]
    cases decide (Ob ((s.drop 8).take (E2 s))=E2 (s.drop 4)) with
    | true=>rfl
    | false=>rfl
theorem MS {O:Type}(s:Ag)(b:List Ag×Int→Option (Stp (List Ag×Int) O))(e:List Ag→Int→O)
  (hb:∀(acc:List Ag) (x:Nat),x≤s.length→acc.length≤x→b (acc,(x:Int))=bif decide ((CL (s.drop x)).2.2=0) then some (.next (acc++[(CL (s.drop x)).1],(x:Int)+(CL (s.drop x)).2.1)) else some (.out (e acc (x:Int)))) :
  ∀(n m:Nat) (acc:List Ag) (x:Nat),x≤s.length→acc.length≤x→s.length-x≤n→n<m→BE b m (acc,(x:Int))=some (e (acc++(BA n (s.drop x)).1) ((x+(BA n (s.drop x)).2:Nat):Int))
 | n,0,acc,x,hx,ha,hn,hm=>by omega
 | n,m+1,acc,x,hx,ha,hn,hm=>by
  rw[BE,hb acc x hx ha]
  cases h:decide ((CL (s.drop x)).2.2=0) with
  | false=>
   have:BA n (s.drop x)=([],0):=by
    cases n with
    | zero=>rfl
    | succ n=>rw[BA,h];rfl
   rw[this];simp only[Abk,AbK,Nat.add_zero]
  | true=>
   obtain⟨h1,h2,h3⟩:=Nf (Abt h);have hl:=congrArg List.length h3;rw[Abq,DH,Acg] at hl
   cases n with
   | zero=>omega
   | succ n=>
    rw[BA,h];simp only[Abr];rw[h2,show(((8+(CL (s.drop x)).1.length:Nat):Int)).toNat=8+(CL (s.drop x)).1.length from by omega,Aci];rw[show(x:Int)+((8+(CL (s.drop x)).1.length:Nat):Int)=((x+(8+(CL (s.drop x)).1.length):Nat):Int) from by omega];rw[MS s b e hb n m _ (x+(8+(CL (s.drop x)).1.length)) (by omega) (by rw[Abq,Ab6];omega) (by omega) (by omega)];rw[Ab2,Nat.add_assoc x];rfl
theorem U2 {F:Nat}(hF:262200<F){s:Ag}(hs:s.length<F)(hl:s.length≤999999999):N1 F s=some ((BA s.length s).1,((BA s.length s).2:Int)):=by
 unfold N1;have:=MS s (λσ=>EK F s σ.1 σ.2) (λa x=>.go (a,x)) (λacc x hx ha=>by
  show EK F s acc (x:Int)=_;unfold EK;rw[Int.toNat_natCast]
  by_cases hx2:x<s.length
  ·rw[AA (Abm (by omega)),BO (by omega) (by omega),A8 (WE hF (by simp;omega))]
   cases h:decide ((CL (s.drop x)).2.2=0) with
   | false=>rfl
   | true=>
    obtain⟨h1,h2,h3⟩:=Nf (Abt h);rw[As (p:=!true) rfl,L7 (by simp;omega),A6 (by omega) (by omega)];rfl
  ·have:s.drop x=[]:=List.drop_eq_nil_of_le (by omega);rw[As (Abj (by omega)),this,Qv];rfl) s.length F [] 0 (by omega) (by simp) (by omega) hs
 rw[show(([]:List Ag),(0:Int))=([],((0:Nat):Int)) from rfl,A8 this,Dx];unfold HJ;rw[BO (by omega) (Ab4 _),Int.toNat_natCast,Aca,List.drop_zero,AbJ,AbU]
theorem N4 {F:Nat}(hF:262200<F)(l:List Ag)(hl:l.length≤1000000000):∀(r:List Ag) (n i:Nat) (acc:Ag),l.drop i=r→i≤l.length→r.length<n→acc.length≤262144→
  Bi (BE (λσ:List Int×Int=>Ey F l σ.1 σ.2) n (CC acc,(i:Int))) (By λν=>IL ν)=some (bif decide ((acc++r.flatMap Ch).length≤262144) then(acc++r.flatMap Ch,0) else([],3))
 | [],n,i,acc,h,hi,hn,ha=>by
  obtain⟨n,rfl⟩:∃m,n=m+1:=⟨n-1,by simp at hn;omega⟩
  have:l.length≤i:=by simpa using h
  have hb:Ey F l (CC acc) (i:Int)=some (.out (.go (CC acc))):=by
   unfold Ey;rw[As (Abj (by omega))]
  rw[BE,hb,List.flatMap_nil,AbK,Abm ha];show some (NQ (CC acc),0)=_;rw[Po];rfl
 | c::r,n,i,acc,h,hi,hn,ha=>by
  obtain⟨n,rfl⟩:∃m,n=m+1:=⟨n-1,by simp at hn;omega⟩
  obtain⟨hat,hlt,hd⟩:=EZ h;have hs:=DH c;have hlen:(acc++(c::r).flatMap Ch).length=acc.length+(8+c.length)+(r.flatMap Ch).length:=by
   rw[Acb,Abq,Abq,hs];omega
  have hb:Ey F l (CC acc) (i:Int)=bif decide (acc.length+(8+c.length)≤262144) then some (.next (CC (acc++Ch c),((i+1:Nat):Int))) else some (.out (.ret ([],3))):=by
   unfold Ey;rw[AA (Abm (by omega)),AQ (by omega) (by omega),hat]
   cases h1:decide (262136<c.length) with
   | true=>
    have hsl:N2 F c=some ([],3):=by rw[QS hF c,h1];rfl
    rw[A8 hsl,Abj (p:=acc.length+(8+c.length)≤262144) (by have:=Abt h1;omega)];rfl
   | false=>
    have h1':=Ab9 h1;have hsl:N2 F c=some (Ch c,0):=by rw[QS hF c,h1];rfl
    have hk:B7 .i64 (((CC acc).length:Int)+((Ch c).length:Int))=true:=IG (by rw[C0,hs];omega) (by rw[C0,hs];omega);rw[A8 hsl,B9 (by rw[hk];exact ZC _)]
    cases h2:decide (acc.length+(8+c.length)≤262144) with
    | false=>
     have h2':=Ab9 h2;have hx:decide ((262144:Int)<((CC acc).length:Int)+((Ch c).length:Int))=true:=Abm (by rw[C0,hs];omega);rw[AA (by rw[hx,AbM])];rfl
    | true=>
     have h2':=Abt h2;have hx:decide ((262144:Int)<((CC acc).length:Int)+((Ch c).length:Int))=false:=Abj (by rw[C0,hs];omega);rw[As (by rw[hx];rfl),IO (by rw[C0,hs];omega),A6 (by omega) (by omega),Sv];rfl
  rw[BE,hb]
  cases h2:decide (acc.length+(8+c.length)≤262144) with
  | false=>
   have h2':=Ab9 h2;rw[Abj (p:=(acc++(c::r).flatMap Ch).length≤262144) (by rw[hlen];omega)];rfl
  | true=>
   have h2':=Abt h2;have:=N4 hF l hl r n (i+1) (acc++Ch c) hd (by omega) (by simp at hn;omega) (by rw[Abq,hs];omega);simp only[Abr];rw[this,Acb,Ab2]
theorem WF {F:Nat}(hF:262200<F){l:List Ag}(hl:l.length<F)(hb:l.length≤1000000000):QV F l=some (QM l):=by
 unfold QV;have:=N4 hF l hb l F 0 [] rfl (by omega) hl (by simp);rw[AbJ] at this;exact this
theorem HX:∀a:Ag,B3 a a=false
 | []=>rfl
 | x::a=>by
  show Op.bytesLess (x::a) (x::a)=false;have h : ¬ x<x:=λh=>absurd h (by simp);have ih:Op.bytesLess a a=false:=HX a;simp[Op.bytesLess,h,ih]
theorem OY (x y:UInt8)(a b:Ag):B3 (x::a) (y::b)=(decide (x<y)||(decide (x=y)&&B3 a b)):=by
 show Op.bytesLess (x::a) (y::b)=_;simp only[Op.bytesLess]
 by_cases h:x<y
 ·simp[h]
 ·by_cases e:x=y
  ·subst e;simp[h]
  ·have:y<x:=by
    rcases Nat.lt_trichotomy x.toNat y.toNat with h1 | h1 | h1
    ·exact absurd (UInt8.lt_iff_toNat_lt.2 h1) h
    ·exact absurd (UInt8.toNat_inj.1 h1) e
    ·exact UInt8.lt_iff_toNat_lt.2 h1
   simp[h,e,this]
theorem I9:∀{a b c:Ag},B3 a b=true→B3 b c=true→B3 a c=true
 | [],[],_,h,_=>by cases h
 | [],_::_,[],_,h=>by cases h
 | [],_::_,_::_,_,_=>rfl
 | _::_,[],_,h,_=>by cases h
 | _::_,_::_,[],_,h=>by cases h
 | x::a,y::b,z::c,h,h'=>by
  rw[OY] at h h' ⊢;simp only[AbQ,Abh,Abp] at h h' ⊢;have t:∀{u v:UInt8},u<v↔u.toNat<v.toNat:=UInt8.lt_iff_toNat_lt;rcases h with h | ⟨rfl,h⟩
  ·rcases h' with h' | ⟨rfl,h'⟩
   ·exact .inl (t.2 (Nat.lt_trans (t.1 h) (t.1 h')))
   ·exact .inl h
  ·rcases h' with h' | ⟨rfl,h'⟩
   ·exact .inl h'
   ·exact .inr ⟨rfl,I9 h h'⟩
theorem MT:∀(a b:Ag),B3 a b=true∨a=b∨B3 b a=true
 | [],[]=>.inr (.inl rfl)
 | [],_::_=>.inl rfl
 | _::_,[]=>.inr (.inr rfl)
 | x::a,y::b=>by
  rw[OY,OY];simp only[AbQ,Abh,Abp];rcases Nat.lt_trichotomy x.toNat y.toNat with h1 | h1 | h1
  ·exact .inl (.inl (UInt8.lt_iff_toNat_lt.2 h1))
  ·have e:=UInt8.toNat_inj.1 h1;subst e;rcases MT a b with h | rfl | h
   ·exact .inl (.inr ⟨rfl,h⟩)
   ·exact .inr (.inl rfl)
   ·exact .inr (.inr (.inr ⟨rfl,h⟩))
  ·exact .inr (.inr (.inl (UInt8.lt_iff_toNat_lt.2 h1)))
theorem Vs {a b:Ag}(h:B3 a b=true):B3 b a=false:=by
 cases h':B3 b a with
 | false=>rfl
 | true=>have:=I9 h h';rw[HX] at this;cases this
theorem YK {a b:Ag}(h:B3 a b=true):a≠b:=λe=>by subst e;rw[HX] at h;cases h
section
variable {T : Type}
def Ms (xs:List (Ag×T)):Prop:=xs.Pairwise λp q=>B3 p.1 q.1=true
theorem Ms.nil:Ms ([]:List (Ag×T)):=List.Pairwise.nil
theorem Ms.nodup {xs:List (Ag×T)}(h:Ms xs):(xs.map (·.1)).Nodup:=by
 rw[List.Nodup,List.pairwise_map];exact h.imp λhpq=>YK hpq
theorem DN {xs:List (Ag×T)}{k:Ag}:Bl xs k=none↔∀p∈xs,p.1≠k:=by
 induction xs with
 | nil=>simp[Bl]
 | cons p r ih=>
  rw[Bl]
  by_cases h:p.1=k
  ·rw[Abm h];simp[h]
  ·rw[Abj h];simp[h,ih]
theorem BZ {xs:List (Ag×T)}{k:Ag}{v:T}(h:Bl xs k=some v):(k,v)∈xs:=by
 induction xs with
 | nil=>cases h
 | cons p r ih=>
  rw[Bl] at h
  by_cases e:p.1=k
  ·rw[Abm e] at h;cases h;subst e;exact List.mem_cons_self ..
  ·rw[Abj e] at h;exact List.mem_cons_of_mem _ (ih h)
theorem ID {xs:List (Ag×T)}{k:Ag}{v:T}(hn:(xs.map (·.1)).Nodup)(h:(k,v)∈xs):Bl xs k=some v:=by
 induction xs with
 | nil=>cases h
 | cons p r ih=>
  rw[AbR,List.nodup_cons] at hn;rw[Bl];rcases List.mem_cons.1 h with h | h
  ·subst h;rw[Abm rfl];rfl
  ·have hne : ¬ p.1=k:=λe=>hn.1 (by rw[e];exact List.mem_map.2 ⟨(k,v),h,rfl⟩);rw[Abj hne];exact ih hn.2 h
theorem TZ (xs:List (Ag×T))(k k':Ag)(v:T):Bl (mput xs k v) k'=bif decide (k'=k) then(Bl xs k).map (λ_=>v) else Bl xs k':=by
 induction xs with
 | nil=>cases decide (k'=k)<;>rfl
 | cons p r ih=>
  show Bl ((bif decide (p.1=k) then(k,v) else p)::mput r k v) k'=_
  by_cases h:p.1=k
  ·rw[Abm h];simp only[Abr,Bl]
   by_cases e:k'=k
   ·subst e;rw[Abm rfl,h,Abm rfl];rfl
   ·rw[Abj (Ne.symm e),Abj e,ih,Abj e,h,Abj (Ne.symm e)];rfl
  ·rw[Abj h];simp only[Abk,Bl];rw[ih]
   by_cases e:k'=k
   ·subst e;rw[Abm rfl,Abj h];rfl
   ·rw[Abj e]
    cases decide (p.1=k')<;>rfl
theorem Ua (xs:List (Ag×T))(k k':Ag)(v:T)(h:Bl xs k=none):Bl (mins k v xs) k'=bif decide (k'=k) then some v else Bl xs k':=by
 induction xs with
 | nil=>
  show(bif decide (k=k') then some v else none)=bif decide (k'=k) then some v else none
  by_cases e:k'=k
  ·rw[Abm e,Abm e.symm]
  ·rw[Abj e,Abj (Ne.symm e)]
 | cons p r ih=>
  rw[Bl] at h
  by_cases hk:p.1=k
  ·rw[Abm hk] at h;cases h
  ·rw[Abj hk] at h;rw[mins]
   cases B3 k p.1 with
   | true=>
    simp only[Abr,Bl]
    by_cases e:k'=k
    ·subst e;rw[Abm rfl]
     try rfl
    ·rw[Abj e,Abj (Ne.symm e)]
     try rfl
   | false=>
    simp only[Abk,Bl];rw[ih h]
    by_cases e:k'=k
    ·subst e;rw[Abm rfl,Abj hk];rfl
    ·rw[Abj e]
     cases decide (p.1=k')<;>rfl
theorem O4 (xs:List (Ag×T))(k k':Ag)(v:T):Bl (mset xs k v) k'=bif decide (k'=k) then some v else Bl xs k':=by
 unfold mset Ce
 cases h:Bl xs k with
 | none=>exact Ua xs k k' v h
 | some w=>
  simp only[Option.isSome_some,Abr];rw[TZ,h]
  cases decide (k'=k)<;>rfl
theorem Ub (xs:List (Ag×T))(k k':Ag):Bl (mdel xs k) k'=bif decide (k'=k) then none else Bl xs k':=by
 unfold mdel
 induction xs with
 | nil=>cases decide (k'=k)<;>rfl
 | cons p r ih=>
  by_cases h:p.1=k
  ·rw[List.filter_cons_of_neg (by simp[h]),ih,Bl]
   by_cases e:k'=k
   ·rw[Abm e];rfl
   ·rw[Abj e,h,Abj (Ne.symm e)];rfl
  ·rw[List.filter_cons_of_pos (by simp[h]),Bl,Bl,ih]
   by_cases e:k'=k
   ·rw[Abm e,e,Abj h];rfl
   ·rw[Abj e]
    cases decide (p.1=k')<;>rfl
theorem Nl {k:Ag}{v:T}{q:Ag×T}:∀{xs:List (Ag×T)},q∈mins k v xs→q=(k,v)∨q∈xs
 | [],h=>by simp[mins] at h;exact .inl h
 | p::r,h=>by
  rw[mins] at h
  cases hs:B3 k p.1 with
  | true=>rw[hs] at h;simpa using h
  | false=>
   rw[hs] at h;rcases List.mem_cons.1 h with h | h
   ·exact .inr (by rw[h];exact List.mem_cons_self ..)
   ·rcases Nl h with h | h
    ·exact .inl h
    ·exact .inr (List.mem_cons_of_mem _ h)
theorem Ms.mins {k:Ag}{v:T}:∀{xs:List (Ag×T)},Ms xs→Bl xs k=none→Ms (mins k v xs)
 | [],_,_=>List.pairwise_singleton ..
 | p::r,h,hk=>by
  obtain⟨h1,h2⟩:=List.pairwise_cons.1 h;rw[Bl] at hk
  by_cases e:p.1=k
  ·rw[Abm e] at hk;cases hk
  ·rw[Abj e] at hk;rw[Proofs.YtjfnokmpfekniaaGreatDoor.mins]
   cases hs:B3 k p.1 with
   | true=>exact List.pairwise_cons.2 ⟨λq hq=>by
     rcases List.mem_cons.1 hq with rfl | hq
     ·exact hs
     ·exact I9 hs (h1 q hq),h⟩
   | false=>
    have hp:B3 p.1 k=true:=by
     rcases MT p.1 k with h | h | h
     ·exact h
     ·exact absurd h e
     ·rw[h] at hs;cases hs
    exact List.pairwise_cons.2 ⟨λq hq=>by
     rcases Nl hq with rfl | hq
     ·exact hp
     ·exact h1 q hq,Ms.mins h2 hk⟩
theorem Ms.mput {xs:List (Ag×T)}(h:Ms xs)(k:Ag)(v:T):Ms (mput xs k v):=by
 unfold Proofs.YtjfnokmpfekniaaGreatDoor.mput;unfold Ms;rw[List.pairwise_map];refine h.imp fun {p q} hpq=>?_;have e:∀p:Ag×T,(bif decide (p.1=k) then(k,v) else p).1=p.1:=λp=>by
  by_cases hp:p.1=k
  ·rw[Abm hp];exact hp.symm
  ·rw[Abj hp];rfl
 rw[e,e];exact hpq
theorem Ms.mset {xs:List (Ag×T)}(h:Ms xs)(k:Ag)(v:T):Ms (mset xs k v):=by
 unfold Proofs.YtjfnokmpfekniaaGreatDoor.mset Ce
 cases hk:Bl xs k with
 | none=>exact h.mins hk
 | some w=>exact h.mput k v
theorem Ms.mdel {xs:List (Ag×T)}(h:Ms xs)(k:Ag):Ms (mdel xs k):=h.sublist (List.filter_sublist ..)
theorem Ms.ext:∀{xs ys:List (Ag×T)},Ms xs→Ms ys→(∀k,Bl xs k=Bl ys k)→xs=ys
 | [],[],_,_,_=>rfl
 | [],q::s,_,_,h=>by
  have:=h q.1;rw[Bl,Bl,Abm rfl] at this;cases this
 | p::r,[],_,_,h=>by
  have:=h p.1;rw[Bl,Bl,Abm rfl] at this;cases this
 | p::r,q::s,hx,hy,h=>by
  obtain⟨x1,x2⟩:=List.pairwise_cons.1 hx;obtain⟨y1,y2⟩:=List.pairwise_cons.1 hy;have hpq:p.1=q.1:=by
   have a1:=h p.1;have a2:=h q.1;rw[Bl,Abm rfl] at a1;rw[show Bl (q::s) q.1=bif decide (q.1=q.1) then some q.2 else Bl s q.1 from rfl,Abm rfl] at a2;simp only[Abr] at a1 a2;have m1:=BZ a1.symm;have m2:=BZ a2;rcases List.mem_cons.1 m1 with e | m1
   ·exact congrArg Prod.fst e
   ·rcases List.mem_cons.1 m2 with e | m2
    ·exact(congrArg Prod.fst e).symm
    ·have c1:=y1 _ m1;have c2:=x1 _ m2;have:=I9 c1 c2;rw[HX] at this;cases this
  have e:p=q:=by
   have a1:=h p.1;rw[Bl,Abm rfl,Bl,Abm hpq.symm] at a1;simp only[Abr,Option.some.injEq] at a1;exact Prod.ext hpq a1
  subst e;rw[Ms.ext x2 y2 λk=>by
   have a1:=h k;rw[Bl,Bl] at a1
   by_cases e:p.1=k
   ·have n1:Bl r k=none:=DN.2 λz hz e'=>by have:=x1 z hz;rw[e',← e,HX] at this;cases this
    have n2:Bl s k=none:=DN.2 λz hz e'=>by have:=y1 z hz;rw[e',← e,HX] at this;cases this
    rw[n1,n2]
   ·rw[Abj e] at a1;exact a1]
theorem Q6 (k:Ag)(v:T)(xs:List (Ag×T)):(mins k v xs).length=xs.length+1:=(Ls k v xs).length_eq
theorem LT (xs:List (Ag×T))(k:Ag)(v:T):(mset xs k v).length=bif Ce xs k then xs.length else xs.length+1:=by
 unfold mset
 cases Ce xs k with
 | true=>simp[mput]
 | false=>simp[Q6]
theorem QB {xs:List (Ag×T)}(h:Ms xs)(k:Ag):(mdel xs k).length=bif Ce xs k then xs.length-1 else xs.length:=by
 induction xs with
 | nil=>rfl
 | cons p r ih=>
  obtain⟨h1,h2⟩:=List.pairwise_cons.1 h;unfold mdel Ce at *;rw[Bl]
  by_cases e:p.1=k
  ·have hn:r.filter (λq=>!decide (q.1=k))=r:=List.filter_eq_self.2 λq hq=>by
    have:=h1 q hq;have hne:q.1≠k:=λe'=>by rw[e',← e,HX] at this;cases this
    simp[hne]
   rw[List.filter_cons_of_neg (by simp[e]),hn,Abm e];rfl
  ·rw[List.filter_cons_of_pos (by simp[e]),Abj e,Abl,ih h2]
   cases hg:Bl r k with
   | none=>rfl
   | some w=>
    have:=BZ hg;have:0<r.length:=List.length_pos_of_mem this;show r.length-1+1=(r.length+1)-1;omega
end
theorem QG {T St R:Type}(body:T→St→Option (Stp St (Out R St)))(g:T→St→St)(I:St→Prop):∀(ord:List T) (s:St),I s→(∀p∈ord,∀s,I s→body p s=some (.next (g p s))∧I (g p s))→Uf body ord s=some (.go (ord.foldl (λs p=>g p s) s))∧I (ord.foldl (λs p=>g p s) s)
 | [],s,hi,_=>⟨rfl,hi⟩
 | p::r,s,hi,h=>by
  obtain⟨h1,h2⟩:=h p (List.mem_cons_self ..) s hi;obtain⟨h3,h4⟩:=QG body g I r (g p s) h2 λq hq=>h q (List.mem_cons_of_mem _ hq);exact⟨by rw[Uf,h1];exact h3,h4⟩
section
variable {T : Type}
theorem TY {xs ys:List (Ag×T)}(h:ys.Perm xs)(hn:(xs.map (·.1)).Nodup)(k:Ag):Bl ys k=Bl xs k:=by
 have hn':(ys.map (·.1)).Nodup:=(h.map _).nodup_iff.2 hn
 cases e:Bl xs k with
 | none=>exact DN.2 λp hp=>(DN.1 e) p (h.subset hp)
 | some v=>exact ID hn' (h.symm.subset (BZ e))
def M9 (del:T→Bool)(xs:List (Ag×T))(p:Ag×T):List (Ag×T):=bif del p.2 then mdel xs p.1 else mset xs p.1 p.2
theorem Xr {del:T→Bool}{xs:List (Ag×T)}(h:Ms xs)(p:Ag×T):Ms (M9 del xs p):=by
 unfold M9
 cases del p.2 with
 | true=>exact h.mdel _
 | false=>exact h.mset _ _
theorem Lc {del:T→Bool}:∀(ord:List (Ag×T)) {xs:List (Ag×T)},Ms xs→Ms (ord.foldl (M9 del) xs)
 | [],_,h=>h
 | p::r,_,h=>Lc r (Xr h p)
theorem Q9 {del:T→Bool}(xs:List (Ag×T))(p:Ag×T)(k:Ag):Bl (M9 del xs p) k=bif decide (k=p.1) then(bif del p.2 then none else some p.2) else Bl xs k:=by
 unfold M9
 cases del p.2 with
 | true=>exact Ub xs p.1 k
 | false=>exact O4 xs p.1 k p.2
theorem Jm {del:T→Bool}:∀(ord:List (Ag×T)) (xs:List (Ag×T)) (k:Ag),(ord.map (·.1)).Nodup→Bl (ord.foldl (M9 del) xs) k=match Bl ord k with
  | none=>Bl xs k
  | some v=>bif del v then none else some v
 | [],xs,k,_=>rfl
 | p::r,xs,k,h=>by
  rw[AbR,List.nodup_cons] at h;rw[List.foldl_cons,Jm r _ k h.2,Bl,Q9]
  by_cases e:p.1=k
  ·have hn:Bl r k=none:=DN.2 λq hq e'=>h.1 (by rw[e,← e'];exact List.mem_map.2 ⟨q,hq,rfl⟩);rw[hn,Abm e,Abm e.symm];rfl
  ·rw[Abj e,Abj (Ne.symm e)];rfl
theorem UI {del:T→Bool}{xs ys zs:List (Ag×T)}(hz:Ms zs)(hx:Ms xs)(h:ys.Perm xs):ys.foldl (M9 del) zs=xs.foldl (M9 del) zs:=
 Ms.ext (Lc ys hz) (Lc xs hz) λk=>by
  rw[Jm ys zs k ((h.map _).nodup_iff.2 hx.nodup),Jm xs zs k hx.nodup,TY h hx.nodup]
end
theorem Ox {R V:Type}(K:V→Option R)(v:V):By K (.go v)=K v:=rfl
theorem Zp {R V:Type}(K:V→Option R)(r:R):By K (.ret r)=some r:=rfl
theorem HC {α R U:Type}[Inhabited α](l:List α)(P:α→Prop)(B:R→Prop)(u:U)(body:Int→Option (Stp Int (Out R U)))
  (h1:∀(x:Int) (c:α),0≤x→x<(l.length:Int)→c∈l→Ap l x=c→(body x=some (.next (x+1))∧P c)∨∃q,body x=some (.out (.ret q))∧B q)
  (h2:body (l.length:Int)=some (.out (.go u))) {F:Nat} (hF:l.length<F) :
  ∃o,BE body F 0=some o∧((∃q,o = .ret q∧B q)∨(o = .go u∧∀c∈l,P c)):=by
 refine Ew (λx=>0≤x∧x≤(l.length:Int)∧∀c∈l.take x.toNat,P c) (λx=>l.length-x.toNat) _ (λx ⟨h0,hl,ha⟩=>?_) F 0 ⟨Ab4 0,by omega,by simp⟩ (by show l.length-0<F;omega)
 by_cases hx:x<(l.length:Int)
 ·obtain⟨c,hc⟩:∃c,l[x.toNat]? =some c:=⟨l[x.toNat]'(by omega),Abs (by omega)⟩
  have hat:Ap l x=c:=by simp[Ap,hc]
  rcases h1 x c h0 hx (Abv hc) hat with⟨hb,hp⟩ | ⟨q,hb,hq⟩
  ·refine .inl ⟨x+1,hb,⟨by omega,by omega,λd hd=>?_⟩,by omega⟩;rw[show(x+1).toNat=x.toNat+1 from by omega,List.take_add_one,hc] at hd;simp only[Option.toList_some,List.mem_append,Acd,List.not_mem_nil,or_false] at hd;rcases hd with hd | rfl
   ·exact ha d hd
   ·exact hp
  ·exact .inr ⟨.ret q,hb,.inl ⟨q,rfl,hq⟩⟩
 ·have e:x=(l.length:Int):=by omega
  subst e;refine .inr ⟨.go u,h2,.inr ⟨rfl,λc hc=>ha c ?_⟩⟩;rw[show((l.length:Int)).toNat=l.length from by omega,Aca];exact hc
structure SmC (c:Ae):Prop where
 key:c.fKey.length≤300
 val:c.fValue.length≤300
 cells:∀x∈c.fValue,x.fStr.length≤5000
structure YF (l:List Ae):Prop where
 len:l.length≤300
 all:∀c∈l,SmC c
theorem Wj {F:Nat}(hF:5000<F)(l:List Ae):∃b,No F l=some b∧(b=true→YF l):=by
 unfold No
 by_cases hl:(300:Int)<(l.length:Int)
 ·rw[AA (Abm hl)];exact⟨false,rfl,λh=>by cases h⟩
 ·rw[As (Abj hl)];obtain⟨o,h1,h2⟩:=HC l SmC (λq=>q=false) () (λσ=>CN F l σ) (λx c h0 hx hc hat=>by
   by_cases hk:(300:Int)<(c.fKey.length:Int)∨(300:Int)<(c.fValue.length:Int)
   ·refine .inr ⟨false,?_,rfl⟩;show CN F l x=_;unfold CN;rw[AA (Abm hx),AQ h0 hx,hat,AA (by simpa using hk)]
   ·obtain⟨o,g1,g2⟩:=HC c.fValue (λy=>y.fStr.length≤5000) (λq=>q = .out (.ret false)) (((c.fValue.length:Int)),decide ((c.fValue.length:Int)<(c.fValue.length:Int))) (λσ=>Da l x σ) (λy d y0 yx yc yat=>by
     by_cases hd:(5000:Int)<(d.fStr.length:Int)
     ·refine .inr ⟨_,?_,rfl⟩;show Da l x y=_;unfold Da;rw[hat,AA (Abm yx),AQ y0 yx,yat,AA (Abm hd)]
     ·refine .inl ⟨?_,by omega⟩;show Da l x y=_;unfold Da;rw[hat,AA (Abm yx),AQ y0 yx,yat,As (Abj hd),A6 (by omega) (by omega)]) (by
     show Da l x _=_;unfold Da;rw[hat,As (Abj (by omega))]) (F:=F) (by omega)
    have hb:CN F l x=Bi (some o) (By λν=>G0 x ν.1 ν.2):=by
     unfold CN;rw[AA (Abm hx),AQ h0 hx,g1,hat,As (by simpa using hk)]
    rcases g2 with⟨q,rfl,rfl⟩ | ⟨rfl,g⟩
    ·exact .inr ⟨false,hb,rfl⟩
    ·refine .inl ⟨?_,⟨by omega,by omega,g⟩⟩;show CN F l x=_;rw[hb,A8 rfl,Ox];unfold G0;rw[A6 (by omega) (by omega)]) (by
   show CN F l _=_;unfold CN;rw[As (Abj (by omega))]) (F:=F) (by omega)
  rw[A8 h1];rcases h2 with⟨q,rfl,rfl⟩ | ⟨rfl,h⟩
  ·exact⟨false,rfl,λh=>by cases h⟩
  ·exact⟨true,rfl,λ_=>⟨by omega,h⟩⟩
theorem Zz {F:Nat}(hF:5000<F)(l:List (List Ae)):∃b,Wk F l=some b∧(b=true→l.length≤30∧∀m∈l,YF m):=by
 unfold Wk
 by_cases hl:(30:Int)<(l.length:Int)
 ·rw[AA (Abm hl)];exact⟨false,rfl,λh=>by cases h⟩
 ·rw[As (Abj hl)];obtain⟨o,h1,h2⟩:=HC l YF (λq=>q=false) () (λσ=>Gp F l σ) (λx m h0 hx hm hat=>by
   obtain⟨b,hb,hs⟩:=Wj hF m;have e:Gp F l x=AV (!b) (some (.out (.ret false))) (some (.next (x+1))):=by
    unfold Gp;rw[AA (Abm hx),AQ h0 hx,hat,hb,A8 rfl,A6 (by omega) (by omega)]
   cases b with
   | false=>exact .inr ⟨false,e,rfl⟩
   | true=>exact .inl ⟨e,hs rfl⟩) (by
   show Gp F l _=_;unfold Gp;rw[As (Abj (by omega))]) (F:=F) (by omega)
  rw[A8 h1];rcases h2 with⟨q,rfl,rfl⟩ | ⟨rfl,h⟩
  ·exact⟨false,rfl,λh=>by cases h⟩
  ·exact⟨true,rfl,λ_=>⟨by omega,h⟩⟩
structure YG (c:Ae):Prop where
 iv : -9223372036854775808≤c.fIfVersion∧c.fIfVersion≤9223372036854775807
 cells:∀x∈c.fValue,B7 .i64 x.fInt=true∧x.fN≤9223372036854775807
theorem Y3 {v:List Aa}:HK v≠19:=by
 unfold HK
 cases whole v with
 | none=>decide
 | some f=>
  show EL f≠19;unfold EL
  cases f.flat.any BG with
  | true=>show(2:Int)≠19;decide
  | false=>
   simp only[Abk]
   cases(f.flat.any GI||(decide (200<f.flat.length)||(decide (8<f.dep)||decide (4000<(f.txt true).length))))<;>decide
theorem Ws {F:Nat}(hF:5000<F){c:Ae}(hs:SmC c)(ho:YG c):∃e,Id F c=some e∧e≠19:=by
 have hA:HQ 5000 c.fValue:=⟨by decide,by have:=hs.val;omega,λx hx=>⟨hs.cells x hx,(ho.cells x hx).1,(ho.cells x hx).2⟩⟩
 unfold Id;rw[H0 hA (by decide) hF,A8 rfl]
 cases PB c.fKey with
 | false=>exact⟨4,rfl,by decide⟩
 | true=>
  rw[As (p:=!true) rfl]
  cases(decide (c.fIfVersion<(-1))||decide (1000000000000<c.fIfVersion)) with
  | true=>exact⟨2,rfl,by decide⟩
  | false=>
   rw[As rfl]
   cases(c.fDelete&&decide (0<(c.fValue.length:Int))) with
   | true=>exact⟨7,rfl,by decide⟩
   | false=>
    rw[As rfl]
    cases c.fDelete with
    | true=>exact⟨0,rfl,by decide⟩
    | false=>exact⟨_,rfl,Y3⟩
def zI:Af:=⟨[],[],0⟩
def IN (q:AB)(k:Ag):Af:=(Bl q.fChanged k).getD ((Bl q.fItems k).getD zI)
def J5 (q:AB)(c:Ae)(size:Int):Int×Int×AB:=
 bif (decide (0≤c.fIfVersion))&&(!decide (c.fIfVersion=(IN q c.fKey).fVersion)) then(0,19,q) else
 bif c.fDelete then(bif decide (0<(IN q c.fKey).fVersion) then size-1 else size,0,⟨q.fItems,mset q.fChanged c.fKey zI⟩) else
 bif (decide ((IN q c.fKey).fVersion=0))&&(decide (256≤size)) then(0,3,q) else
 bif decide (1000000000000≤(IN q c.fKey).fVersion) then(0,8,q) else
 (bif decide ((IN q c.fKey).fVersion=0) then size+1 else size,0,⟨q.fItems,mset q.fChanged c.fKey ⟨c.fKey,c.fValue,(IN q c.fKey).fVersion+1⟩⟩)
theorem Ym (q:AB)(k:Ag):Wq q k=some (IN q k,q):=by
 unfold Wq IN Ce Cn
 cases Bl q.fChanged k<;>rfl
theorem OP {ys:List Aa}(h:ys.length≤1000000):L6 ys=some ys:=by
 unfold L6;rw[B9 (by unfold Dw;simp only[AbX,Abh];omega)];rfl
theorem RY {q:AB}{c:Ae}{size:Int}(hs : -1000000000≤size∧size≤1000000000)(hv:0≤(IN q c.fKey).fVersion)(hl:c.fValue.length≤300):Jr q c size=some (J5 q c size):=by
 unfold Jr J5 EG;rw[Ym,A8 rfl,OP (by omega)];generalize IN q c.fKey=x at hv;simp only
 cases(decide (0≤c.fIfVersion)&&!decide (c.fIfVersion=x.fVersion)) with
 | true=>rfl
 | false=>
  rw[As rfl]
  cases c.fDelete with
  | true=>
   rw[AA rfl]
   cases decide (0<x.fVersion) with
   | true=>rw[AA rfl,A6 (by omega) (by omega)];rfl
   | false=>rfl
  | false=>
   rw[As rfl]
   cases(decide (x.fVersion=0)&&decide (256≤size)) with
   | true=>rfl
   | false=>
    rw[As rfl]
    cases hb:decide ((1000000000000:Int)≤x.fVersion) with
    | true=>rfl
    | false=>
     have hb':=Ab9 hb;rw[As rfl]
     cases decide (x.fVersion=0) with
     | true=>rw[AA rfl,A6 (by omega) (by omega),A8 rfl,A6 (by omega) (by omega)];rfl
     | false=>rw[As rfl,A8 rfl,A6 (by omega) (by omega)];rfl
theorem GG {T:Type}{xs:List (Ag×T)}{k:Ag}{v:T}{p:Ag×T}(h:p∈mset xs k v):p=(k,v)∨p∈xs:=by
 unfold mset at h
 cases hh:Ce xs k with
 | false=>rw[hh] at h;exact Nl h
 | true=>
  rw[hh] at h;obtain⟨q,hq,e⟩:=List.mem_map.1 h
  cases hk:decide (q.1=k) with
  | true=>rw[hk] at e;exact .inl e.symm
  | false=>rw[hk] at e;exact .inr (e▸hq)
theorem QA {T:Type}{xs:List (Ag×T)}{k:Ag}{p:Ag×T}(h:p∈mdel xs k):p∈xs:=(List.mem_filter.1 h).1
theorem Yc {T:Type}{del:T→Bool}{xs:List (Ag×T)}{q p:Ag×T}(h:p∈M9 del xs q):p∈xs∨(p=q∧del p.2=false):=by
 unfold M9 at h
 cases hd:del q.2 with
 | true=>rw[hd] at h;exact .inl (QA h)
 | false=>
  rw[hd] at h;rcases GG h with e | h
  ·exact .inr ⟨e,by rw[e];exact hd⟩
  ·exact .inl h
theorem KI {T:Type}{del:T→Bool}{p:Ag×T}:∀{ord xs:List (Ag×T)},p∈ord.foldl (M9 del) xs→p∈xs∨(p∈ord∧del p.2=false)
 | [],xs,h=>.inl h
 | q::r,xs,h=>by
  rcases KI (ord:=r) h with h | ⟨h,h'⟩
  ·rcases Yc h with h2 | ⟨h2,h3⟩
   ·exact .inl h2
   ·exact .inr ⟨by rw[h2];exact List.mem_cons_self ..,h3⟩
  ·exact .inr ⟨List.mem_cons_of_mem _ h,h'⟩
structure Kg (xs:List (Ag×Af)):Prop where
 ms:Ms xs
 ok:∀p∈xs,0≤p.2.fVersion∧p.2.fVersion≤1000000000000∧p.2.fValue.length≤300
theorem Kg.nil:Kg []:=⟨Ms.nil,λ_ h=>by cases h⟩
theorem Kg.set {xs:List (Ag×Af)}(h:Kg xs){k:Ag}{v:Af}(hv:0≤v.fVersion∧v.fVersion≤1000000000000∧v.fValue.length≤300):Kg (mset xs k v):=
 ⟨h.ms.mset k v,λp hp=>by
  rcases GG hp with rfl | hp
  ·exact hv
  ·exact h.ok p hp⟩
theorem UP:0≤zI.fVersion∧zI.fVersion≤1000000000000∧zI.fValue.length≤300:=by decide
theorem Kg.get {xs:List (Ag×Af)}(h:Kg xs)(k:Ag):0≤((Bl xs k).getD zI).fVersion∧((Bl xs k).getD zI).fVersion≤1000000000000∧((Bl xs k).getD zI).fValue.length≤300:=by
 cases e:Bl xs k with
 | none=>exact UP
 | some v=>exact h.ok _ (BZ e)
theorem Td {q:AB}(h1:Kg q.fItems)(h2:Kg q.fChanged)(k:Ag):0≤(IN q k).fVersion∧(IN q k).fVersion≤1000000000000∧(IN q k).fValue.length≤300:=by
 unfold IN
 cases e:Bl q.fChanged k with
 | none=>exact h1.get k
 | some v=>exact h2.ok _ (BZ e)
theorem Xg {q:AB}{c:Ae}{size:Int}(h1:Kg q.fItems)(h2:Kg q.fChanged)(hl:c.fValue.length≤300) :
  (J5 q c size).2.2.fItems=q.fItems∧Kg (J5 q c size).2.2.fChanged∧(J5 q c size).2.2.fChanged.length≤q.fChanged.length+1∧((J5 q c size).2.1=0→size-1≤(J5 q c size).1∧(J5 q c size).1≤size+1):=by
 have hc:=Td h1 h2 c.fKey;have hm:∀v:Af,(mset q.fChanged c.fKey v).length≤q.fChanged.length+1:=λv=>by rw[LT];cases Ce q.fChanged c.fKey<;>simp
 unfold J5;generalize IN q c.fKey=x at hc
 cases(decide (0≤c.fIfVersion)&&!decide (c.fIfVersion=x.fVersion)) with
 | true=>exact⟨rfl,h2,Nat.le_succ _,λh=>by cases h⟩
 | false=>
  cases c.fDelete with
  | true=>
   refine⟨rfl,h2.set UP,hm _,λ_=>?_⟩;show size-1≤(bif decide (0<x.fVersion) then size-1 else size)∧(bif decide (0<x.fVersion) then size-1 else size)≤size+1
   cases decide (0<x.fVersion)<;>simp only[Abr,Abk]<;>omega
  | false=>
   cases(decide (x.fVersion=0)&&decide (256≤size)) with
   | true=>exact⟨rfl,h2,Nat.le_succ _,λh=>by cases h⟩
   | false=>
    cases hb:decide ((1000000000000:Int)≤x.fVersion) with
    | true=>exact⟨rfl,h2,Nat.le_succ _,λh=>by cases h⟩
    | false=>
     have hb':=Ab9 hb;refine⟨rfl,h2.set ⟨?_,?_,hl⟩,hm _,λ_=>?_⟩
     ·show 0≤x.fVersion+1;omega
     ·show x.fVersion+1≤1000000000000;omega
     ·show size-1≤(bif decide (x.fVersion=0) then size+1 else size)∧(bif decide (x.fVersion=0) then size+1 else size)≤size+1
      cases decide (x.fVersion=0)<;>simp only[Abr,Abk]<;>omega
def Hp:List Ae→Int→AB→Int×AB
 | [],_,q=>(0,q)
 | c::r,size,q=>bif !decide ((J5 q c size).2.1=0) then((J5 q c size).2.1,(J5 q c size).2.2) else Hp r (J5 q c size).1 (J5 q c size).2.2
theorem M7:∀(l:List Ae) {q:AB} {size:Int},(∀c∈l,c.fValue.length≤300)→Kg q.fItems→Kg q.fChanged→(Hp l size q).2.fItems=q.fItems∧Kg (Hp l size q).2.fChanged∧(Hp l size q).2.fChanged.length≤q.fChanged.length+l.length
 | [],q,size,_,h1,h2=>⟨rfl,h2,Ab3 _⟩
 | c::r,q,size,hl,h1,h2=>by
  obtain⟨a1,a2,a3,_⟩:=Xg (size:=size) h1 h2 (hl c (List.mem_cons_self ..));rw[Hp]
  cases decide ((J5 q c size).2.1=0) with
  | false=>exact⟨a1,a2,by simp only[Abl];exact Nat.le_trans a3 (by omega)⟩
  | true=>
   obtain⟨b1,b2,b3⟩:=M7 r (q:=(J5 q c size).2.2) (size:=(J5 q c size).1) (λd hd=>hl d (List.mem_cons_of_mem _ hd)) (by rw[a1];exact h1) a2;exact⟨b1.trans a1,b2,by simp only[Abl,Abw,Abk];omega⟩
def Zo (t:Int×AB):Out (Int×AB) ((List (Ag×Af))×(List (Ag×Af))):=bif !decide (t.1=0) then .ret t else .go (t.2.fItems,t.2.fChanged)
theorem QL {l:List Ae}(hlen:l.length≤300)(hsm:∀c∈l,c.fValue.length≤300)(r:List Ae):∀(F:Nat) (size x:Int) (q:AB),0≤x→x+r.length=l.length→l.drop x.toNat=r→r.length<F→Kg q.fItems→Kg q.fChanged→-1000000+(r.length:Int)≤size→size≤1000000-(r.length:Int)→
  BE (λσ=>DO l σ.1 σ.2.1 σ.2.2.1 σ.2.2.2) F (size,x,q.fItems,q.fChanged)=some (Zo (Hp r size q)):=by
 induction r with
 | nil=>
  intro F size x q h0 hx hd hF h1 h2 hs1 hs2;obtain⟨F,rfl⟩:∃G,F=G+1:=⟨F-1,by simp at hF;omega⟩
  have hx':x=(l.length:Int):=by simpa using hx
  have hb:DO l size x q.fItems q.fChanged=some (.out (.go (q.fItems,q.fChanged))):=by
   unfold DO;rw[As (Abj (by omega))]
  rw[BE];simp only[hb];rfl
 | cons c r ih=>
  intro F size x q h0 hx hd hF h1 h2 hs1 hs2;simp only[Abl] at hx hF hs1 hs2;obtain⟨F,rfl⟩:∃G,F=G+1:=⟨F-1,by omega⟩
  have hxl:x<(l.length:Int):=by omega
  have hc:l[x.toNat]? =some c:=by
   have:=congrArg (·[0]?) hd;simpa using this
  have hat:Ap l x=c:=by simp[Ap,hc]
  have hm:c∈l:=Abv hc;have hq:=Td h1 h2 c.fKey;have hch:Jr q c size=some (J5 q c size):=RY ⟨by omega,by omega⟩ hq.1 (hsm c hm);obtain⟨a1,a2,_,a4⟩:=Xg (size:=size) h1 h2 (hsm c hm);have hb:DO l size x q.fItems q.fChanged=AV (!decide ((J5 q c size).2.1=0)) (some (.out (.ret ((J5 q c size).2.1,(J5 q c size).2.2)))) (some (.next ((J5 q c size).1,x+1,(J5 q c size).2.2.fItems,(J5 q c size).2.2.fChanged))):=by
   unfold DO;rw[AA (Abm hxl),AQ h0 hxl,hat,hch,A8 rfl,A6 (by omega) (by omega)]
  rw[BE];simp only[hb];rw[Hp];generalize hg:J5 q c size=t at a1 a2 a4
  cases he:decide (t.2.1=0) with
  | false=>
   simp only[AbB,Abr,AV];rw[Zo];simp only[he];rfl
  | true=>
   obtain⟨s1,s2⟩:=a4 (Abt he);simp only[Abw,Abk,AV];have hd2:l.drop (x+1).toNat=r:=by
    have:=congrArg (·.drop 1) hd;rw[Aci] at this;rw[show(x+1).toNat=x.toNat+1 from by omega];simpa using this
   exact ih F _ (x+1) t.2.2 (by omega) (by omega) hd2 (by omega) (by rw[a1];exact h1) a2 (by omega) (by omega)
def HM (x:Af):Bool:=decide (x.fVersion=0)
theorem Pv {xs ys:List (Ag×Af)}(hx:Ms xs)(hy:Ms ys):EH xs ys=some (0,⟨ys.foldl (M9 HM) xs,ys⟩):=by
 unfold EH;refine Zt λp hp=>?_;obtain⟨h1,_⟩:=QG (λp τ=>G2 p.1 p.2 τ) (λp τ=>M9 HM τ p) (λ_=>True) p xs trivial (λz _ s _=>⟨by
  unfold G2 M9;show _=some (Stp.next (bif HM z.2 then _ else _))
  cases hd:HM z.2 with
  | true=>exact(AA (show decide (z.2.fVersion=0)=true from hd)).trans rfl
  | false=>exact(As (show decide (z.2.fVersion=0)=false from hd)).trans rfl,trivial⟩)
 rw[h1,A8 rfl,Ox];show some (0,AB.mk (p.foldl (M9 HM) xs) ys)=_;rw[UI hx hy hp]
def HO (e0:Int)(q:AB)(l:List Ae):Int×AB:=
 bif !decide (e0=0) then(e0,q) else
 bif !decide ((Hp l (q.fItems.length:Int) ⟨q.fItems,[]⟩).1=0) then Hp l (q.fItems.length:Int) ⟨q.fItems,[]⟩ else
 (0,⟨(Hp l (q.fItems.length:Int) ⟨q.fItems,[]⟩).2.fChanged.foldl (M9 HM) q.fItems,(Hp l (q.fItems.length:Int) ⟨q.fItems,[]⟩).2.fChanged⟩)
theorem Ur {F:Nat}(hF:5000<F){q:AB}{l:List Ae}{e0:Int}(he:GJ F l=some e0)(hs:YF l)(hq:Kg q.fItems)(hn:q.fItems.length≤100000):Gd F q l=some (HO e0 q l):=by
 have hlen:=hs.len;have hsm:∀c∈l,c.fValue.length≤300:=λc hc=>(hs.all c hc).val;unfold Gd HO JF;rw[A8 rfl,As (p:=!true) rfl,he,A8 rfl]
 cases decide (e0=0) with
 | false=>rfl
 | true=>
  rw[As (p:=!true) rfl];have hl:=QL hlen hsm l F (q.fItems.length:Int) 0 ⟨q.fItems,[]⟩ (by omega) (by omega) (by simp) (by omega) hq Kg.nil (by omega) (by omega);rw[A8 hl];obtain⟨b1,b2,_⟩:=M7 l (q:=⟨q.fItems,[]⟩) (size:=(q.fItems.length:Int)) hsm hq Kg.nil;generalize Hp l (q.fItems.length:Int) ⟨q.fItems,[]⟩=t at b1 b2;unfold Zo
  cases hd:decide (t.1=0) with
  | false=>rfl
  | true=>
   show EH t.2.fItems t.2.fChanged=_;rw[b1,Pv hq.ms b2.ms];rfl
structure QOk (q:AB) (n:Nat):Prop where
 ok:Kg q.fItems
 pos:∀p∈q.fItems,1≤p.2.fVersion
 len:q.fItems.length≤n
theorem Yo (q:AB):RT q=some ((q.fItems.length:Int),q):=rfl
theorem Zl:∀a b d e f g h i j:Bool,(Bi (some a) λha=>AV ha (some true) (AV d (AV e (some true) (Bi (some b) λhb=>AV hb (some true) (AV f (some true) (AV g (some true) (AV h (some true) (AV i (some true) (some j))))))) (Bi (some b) λhd=>AV hd (some true) (AV f (some true) (AV g (some true) (AV h (some true) (AV i (some true) (some j))))))))=some (a||b||(d&&e)||f||g||h||i||j):=by decide
theorem Ux (c:Int):W0 c=some (CP c):=Zl (decide (97≤c)&&decide (c≤122)) (decide (48≤c)&&decide (c≤57)) (decide (65≤c)) (decide (c≤90)) (decide (c=45)) (decide (c=95)) (decide (c=46)) (decide (c=58)) (decide (c=47))
theorem Mc:∀(s:Ag) (k:Nat),Bf Ly k s=s.all λu=>CP u.toNat
 | [],k=>rfl
 | u::r,k=>by rw[Bf,Mc r (k+1),AbH];rfl
theorem Yw {F:Nat}(hF:64<F)(s:Ag):ZF F s=some (PB s):=by
 unfold ZF PB;rw[Mc]
 by_cases hl:(s.length:Int)<1∨(64:Int)<(s.length:Int)
 ·rw[AA (by simpa using hl)];have:(decide (1≤s.length)&&decide (s.length≤64))=false:=by
   simp only[AbZ,Abi];omega
  rw[Bool.and_assoc,this,AbF]
 ·rw[As (by simpa using hl)];have hb:(decide (1≤s.length)&&decide (s.length≤64))=true:=by
   simp only[Abp,Abh];omega
  rw[Bool.and_assoc,hb,AbA];obtain⟨o,h1,h2⟩:=HC s (λu=>CP u.toNat=true) (λq=>q=false∧(s.all λu=>CP u.toNat)=false) () (λσ=>Js s σ) (λx c h0 hx hc hat=>by
   have hb:Ba s x=(c.toNat:Int):=by rw[← hat];rfl
   have e:Js s x=AV (!CP c.toNat) (some (.out (.ret false))) (some (.next (x+1))):=by
    unfold Js;rw[AA (Abm hx),AQ h0 hx,hb,Ux,A8 rfl,A6 (by omega) (by omega)]
   cases hL:CP c.toNat with
   | true=>exact .inl ⟨by rw[hL] at e;exact e,rfl⟩
   | false=>exact .inr ⟨false,by rw[hL] at e;exact e,rfl,List.all_eq_false.2 ⟨c,hc,by simp[hL]⟩⟩) (by
   show Js s _=_;unfold Js;rw[As (Abj (by omega))]) (F:=F) (by omega)
  rw[A8 h1];rcases h2 with⟨q,rfl,rfl,ha⟩ | ⟨rfl,h⟩
  ·rw[Zp,ha]
  ·rw[Ox,List.all_eq_true.2 h];rfl
theorem T8 {F:Nat}(hF:30000<F){c:Ae}(hs:SmC c)(ho:YG c):R5 F c=Id F c:=by
 have hA:HQ 5000 c.fValue:=⟨by decide,by have:=hs.val;omega,λx hx=>⟨hs.cells x hx,(ho.cells x hx).1,(ho.cells x hx).2⟩⟩
 unfold R5 Id;rw[Yw (by omega),A8 rfl,TG hA (by decide) (by omega),H0 hA (by decide) (by omega),A8 rfl]
 cases PB c.fKey with
 | false=>rfl
 | true=>
  cases(decide (c.fIfVersion<(-1))||decide (1000000000000<c.fIfVersion)) with
  | true=>rfl
  | false=>
   cases c.fDelete with
   | true=>cases decide (0<(c.fValue.length:Int))<;>rfl
   | false=>rfl
theorem QD {S O:Type}{b b':S→Option (Stp S O)}(I:S→Prop)(h:∀s,I s→b s=b' s∧∀s',b s=some (.next s')→I s'):∀(n:Nat) (s:S),I s→BE b n s=BE b' n s
 | 0,s,_=>rfl
 | n+1,s,hi=>by
  obtain⟨h1,h2⟩:=h s hi;rw[BE,BE,← h1]
  cases hb:b s with
  | none=>rfl
  | some t=>cases t with
   | next s'=>exact QD I h n s' (h2 s' hb)
   | out o=>rfl
theorem XO {F:Nat}(hF:30000<F){l:List Ae}(hs:YF l)(ho:∀c∈l,YG c):Zk F l=GJ F l:=by
 have hl:=hs.len;unfold Zk GJ;have:BE (λσ=>GY F l σ) F 0=BE (λσ=>CB F l σ) F 0:=QD (λx:Int=>0≤x∧x≤(l.length:Int)) (λx ⟨h0,hx⟩=>by
  by_cases hx2:x<(l.length:Int)
  ·obtain⟨c,hc⟩:∃c,l[x.toNat]? =some c:=⟨l[x.toNat]'(by omega),Abs (by omega)⟩
   have hat:Ap l x=c:=by simp[Ap,hc]
   have hm:c∈l:=Abv hc;obtain⟨e,he,_⟩:=Ws (by omega:5000<F) (hs.all c hm) (ho c hm);have e1:GY F l x=AV (!decide (e=0)) (some (.out (.ret e))) (some (.next (x+1))):=by
    unfold GY;rw[AA (Abm hx2),AQ h0 hx2,hat,T8 hF (hs.all c hm) (ho c hm),he,A8 rfl,A6 (by omega) (by omega)]
   have e2:CB F l x=AV (!decide (e=0)) (some (.out (.ret e))) (some (.next (x+1))):=by
    unfold CB;rw[AA (Abm hx2),AQ h0 hx2,hat,he,A8 rfl,A6 (by omega) (by omega)]
   refine⟨e1.trans e2.symm,λs' hs'=>?_⟩;rw[e1] at hs'
   cases hd:decide (e=0) with
   | false=>rw[hd] at hs';cases hs'
   | true=>rw[hd] at hs';cases hs';omega
  ·refine⟨?_,λs' hs'=>?_⟩
   ·show GY F l x=CB F l x;unfold GY CB;rw[As (Abj hx2),As (Abj hx2)]
   ·have:GY F l x=some (.out (.go ())):=by unfold GY;rw[As (Abj hx2)]
    rw[this] at hs';cases hs') F 0 ⟨Ab4 0,by omega⟩
 rw[this];rfl
section
variable {T : Type}
def pos:List (Ag×T)→Ag→Nat
 | [],_=>0
 | p::r,k=>bif B3 p.1 k then pos r k+1 else 0
theorem Nb {k:Ag}:∀(xs:List (Ag×T)) (x:Nat),x≤xs.length→(∀p∈xs.take x,B3 p.1 k=true)→(∀p,xs[x]? =some p→B3 p.1 k=false)→pos xs k=x
 | [],x,h,_,_=>by simp at h;subst h;rfl
 | p::r,0,_,_,h=>by rw[pos,h p rfl];rfl
 | p::r,x+1,hl,h1,h2=>by
  rw[pos,h1 p (by simp)];simp only[Abr];rw[Nb r x (by simpa using hl) (λq hq=>h1 q (by simp[hq])) (λq hq=>h2 q (by simpa using hq))]
theorem RC {k:Ag}:∀xs:List (Ag×T),pos xs k≤xs.length
 | []=>Ab3 _
 | p::r=>by
  rw[pos]
  cases B3 p.1 k with
  | true=>simpa using RC r
  | false=>exact AbS _
theorem K9 {k:Ag}:∀(xs:List (Ag×T)),Ms xs→
  (Bl xs k=match xs[pos xs k]? with
   | some p=>bif decide (p.1=k) then some p.2 else none
   | none=>none)∧
  (∀v,mset xs k v=xs.take (pos xs k)++(k,v)::xs.drop (pos xs k+bif Ce xs k then 1 else 0))∧
  (mdel xs k=xs.take (pos xs k)++xs.drop (pos xs k+bif Ce xs k then 1 else 0))
 | [],_=>⟨rfl,λv=>rfl,rfl⟩
 | p::r,h=>by
  obtain⟨h1,h2⟩:=List.pairwise_cons.1 h;obtain⟨i1,i2,i3⟩:=K9 (k:=k) r h2;rw[pos]
  cases hs:B3 p.1 k with
  | true=>
   have hne : ¬ p.1=k:=YK hs;have hg:Bl (p::r) k=Bl r k:=by rw[Bl,Abj hne];rfl
   have hh:Ce (p::r) k=Ce r k:=by unfold Ce;rw[hg]
   simp only[Abr];refine⟨by rw[hg,i1];rfl,λv=>?_,?_⟩
   ·have e:mset (p::r) k v=p::mset r k v:=by
     unfold mset;rw[hh]
     cases Ce r k with
     | true=>show(bif decide (p.1=k) then(k,v) else p)::mput r k v=p::mput r k v;rw[Abj hne];rfl
     | false=>
      show mins k v (p::r)=p::mins k v r;rw[mins,Vs hs];rfl
    rw[e,i2 v,hh,show pos r k+1+(bif Ce r k then 1 else 0)=(pos r k+(bif Ce r k then 1 else 0))+1 from by omega];rfl
   ·have e:mdel (p::r) k=p::mdel r k:=by unfold mdel;rw[List.filter_cons_of_pos (by simp[hne])]
    rw[e,i3,hh,show pos r k+1+(bif Ce r k then 1 else 0)=(pos r k+(bif Ce r k then 1 else 0))+1 from by omega];rfl
  | false=>
   simp only[Abk]
   by_cases hk:p.1=k
   ·have hg:Bl (p::r) k=some p.2:=by rw[Bl,Abm hk];rfl
    have hh:Ce (p::r) k=true:=by unfold Ce;rw[hg];rfl
    have hn:∀q∈r,¬ q.1=k:=λq hq e=>by have:=h1 q hq;rw[e,← hk,HX] at this;cases this
    have e1:∀v,mput r k v=r:=λv=>by
     unfold mput
     conv=>rhs;rw[← List.map_id r]
     refine List.map_congr_left λq hq=>?_;rw[Abj (hn q hq)];rfl
    have e2:mdel r k=r:=List.filter_eq_self.2 λq hq=>by simp[hn q hq]
    refine⟨by rw[hg];show _=bif decide (p.1=k) then some p.2 else none;rw[Abm hk];rfl,λv=>?_,?_⟩
    ·unfold mset;rw[hh];show(bif decide (p.1=k) then(k,v) else p)::mput r k v=_;rw[Abm hk,e1];rfl
    ·rw[hh];show mdel (p::r) k=r;unfold mdel;rw[List.filter_cons_of_neg (by simp[hk])];exact e2
   ·have hlt:B3 k p.1=true:=by
     rcases MT p.1 k with h | h | h
     ·rw[h] at hs;cases hs
     ·exact absurd h hk
     ·exact h
    have hn:∀q∈p::r,¬ q.1=k:=λq hq e=>by
     rcases List.mem_cons.1 hq with rfl | hq
     ·exact hk e
     ·have:=I9 hlt (h1 q hq);rw[e,HX] at this;cases this
    have hg:Bl (p::r) k=none:=DN.2 hn;have hh:Ce (p::r) k=false:=by unfold Ce;rw[hg];rfl
    refine⟨by rw[hg];show none=bif decide (p.1=k) then some p.2 else none;rw[Abj hk];rfl,λv=>?_,?_⟩
    ·unfold mset;rw[hh];show mins k v (p::r)=_;rw[mins,hlt];rfl
    ·rw[hh];exact List.filter_eq_self.2 λq hq=>by simp[hn q hq]
end
def EW (xs:List (Ag×Af)):List Af:=xs.map (·.2)
def Tl (xs:List (Ag×Af)):Prop:=∀p∈xs,p.2.fKey=p.1
theorem SR (xs:List (Ag×Af)):(EW xs).length=xs.length:=by simp[EW]
theorem Pw {xs:List (Ag×Af)}{i:Nat}{p:Ag×Af}(h:xs[i]? =some p):(EW xs)[i]? =some p.2:=by simp[EW,h]
theorem TD {F:Nat}{xs:List (Ag×Af)}(hF:xs.length<F)(hL:xs.length≤1000000)(hm:Ms xs)(hk:Tl xs)(k:Ag):R6 F (EW xs) k=some ((pos xs k:Int),Ce xs k):=by
 have hlen:=SR xs;unfold R6;obtain⟨o,h1,h2⟩:=Ew (body:=λσ=>Gw (EW xs) k σ) (λx=>0≤x∧x≤(xs.length:Int)∧∀p∈xs.take x.toNat,B3 p.1 k=true) (λx=>xs.length-x.toNat)
  (λo=>o = .go (pos xs k:Int)) (λx ⟨h0,hl,ha⟩=>by
   by_cases hx:x<(xs.length:Int)
   ·obtain⟨p,hp⟩:∃p,xs[x.toNat]? =some p:=⟨xs[x.toNat]'(by omega),Abs (by omega)⟩
    have hat:(Ap (EW xs) x).fKey=p.1:=by
     rw[← hk p (Abv hp)];simp[Ap,Pw hp]
    have e:Gw (EW xs) k x=AV (B3 p.1 k) (some (.next (x+1))) (some (.out (.go x))):=by
     unfold Gw;rw[hlen,Abm hx,B9 (by rw[Px h0 hx];rfl),hat,Aby,A6 (by omega) (by omega)]
    cases hs:B3 p.1 k with
    | true=>
     refine .inl ⟨x+1,by rw[hs] at e;exact e,⟨by omega,by omega,λq hq=>?_⟩,by omega⟩;rw[show(x+1).toNat=x.toNat+1 from by omega,List.take_add_one,hp] at hq;simp only[Option.toList_some,List.mem_append,Acd,List.not_mem_nil,or_false] at hq;rcases hq with hq | rfl
     ·exact ha q hq
     ·exact hs
    | false=>
     refine .inr ⟨.go x,by rw[hs] at e;exact e,?_⟩;have:=Nb xs x.toNat (by omega) ha (λq hq=>by rw[hp] at hq;cases hq;exact hs);rw[this,show((x.toNat:Nat):Int)=x from by omega]
   ·refine .inr ⟨.go x,?_,?_⟩
    ·show Gw (EW xs) k x=_;unfold Gw;rw[hlen,Abj hx];rfl
    ·have:=Nb (k:=k) xs x.toNat (by omega) ha (λq hq=>by
      have:=(List.getElem?_eq_some_iff.1 hq).1;omega)
     rw[this,show((x.toNat:Nat):Int)=x from by omega]) F 0 ⟨Ab4 0,by omega,by simp⟩ (by show xs.length-0<F;omega)
 subst h2;rw[A8 h1,Ox];unfold Oq;have hp:=RC (k:=k) xs;obtain⟨g1,_,_⟩:=K9 (k:=k) xs hm;rw[hlen]
 by_cases hx:((pos xs k:Nat):Int)<(xs.length:Int)
 ·obtain⟨p,hpp⟩:∃p,xs[pos xs k]? =some p:=⟨xs[pos xs k]'(by omega),Abs (by omega)⟩
  have hat:(Ap (EW xs) (pos xs k:Int)).fKey=p.1:=by
   rw[← hk p (Abv hpp)];simp[Ap,Pw hpp]
  rw[Abm hx,B9 (by rw[Px (by omega) hx];rfl),hat,Aby];rw[hpp] at g1;have:Ce xs k=decide (p.1=k):=by
   unfold Ce;rw[g1];simp only
   cases decide (p.1=k)<;>rfl
  rw[this]
 ·rw[Abj hx];have hpp:xs[pos xs k]? =none:=List.getElem?_eq_none (by omega);rw[hpp] at g1;have:Ce xs k=false:=by unfold Ce;rw[g1];rfl
  rw[this];rfl
theorem ZP {xs:List (Ag×Af)}(hm:Ms xs){k:Ag}(h:Ce xs k=true):(pos xs k:Int)<(xs.length:Int)∧Ap (EW xs) (pos xs k:Int)=(Bl xs k).getD zI:=by
 obtain⟨g1,_,_⟩:=K9 (k:=k) xs hm;unfold Ce at h
 cases hp:xs[pos xs k]? with
 | none=>rw[hp] at g1;rw[g1] at h;cases h
 | some p=>
  rw[hp] at g1;have hlt:=(List.getElem?_eq_some_iff.1 hp).1;refine⟨by omega,?_⟩;simp only at g1
  cases hd:decide (p.1=k) with
  | false=>rw[hd] at g1;rw[g1] at h;cases h
  | true=>
   rw[hd] at g1;rw[g1];simp[Ap,Pw hp]
def UN (xs:List (Ag×Af))(c:Ae):List (Ag×Af)×Int:=
 bif (decide (0≤c.fIfVersion))&&(!decide (c.fIfVersion=((Bl xs c.fKey).getD zI).fVersion)) then([],19) else
 bif c.fDelete then(mdel xs c.fKey,0) else
 bif (decide (((Bl xs c.fKey).getD zI).fVersion=0))&&(decide (256≤(xs.length:Int))) then([],3) else
 bif decide (1000000000000≤((Bl xs c.fKey).getD zI).fVersion) then([],8) else
 (mset xs c.fKey ⟨c.fKey,c.fValue,((Bl xs c.fKey).getD zI).fVersion+1⟩,0)
theorem La {α:Type}{n:Nat}{x:Option α}(h:n≤1000000):AR (Dw 48 n) x=x:=B9 (by unfold Dw;simp only[Abh];omega)
theorem Wt {xs:List (Ag×Af)}(hm:Ms xs)(k:Ag)(v:Af):EW (mset xs k v)=(EW xs).take (pos xs k)++v::(EW xs).drop (pos xs k+bif Ce xs k then 1 else 0):=by
 rw[(K9 xs hm).2.1 v];simp[EW,List.map_take,List.map_drop]
theorem Wu {xs:List (Ag×Af)}(hm:Ms xs)(k:Ag):EW (mdel xs k)=(EW xs).take (pos xs k)++(EW xs).drop (pos xs k+bif Ce xs k then 1 else 0):=by
 rw[(K9 xs hm).2.2];simp[EW,List.map_take,List.map_drop]
theorem Qn {F:Nat}{xs:List (Ag×Af)}(hF:xs.length<F)(hL:xs.length≤256)(hm:Ms xs)(hk:Tl xs)(hpos:∀p∈xs,1≤p.2.fVersion∧p.2.fVersion≤1000000000000)(c:Ae) :
  MZ F (EW xs) c=some (EW (UN xs c).1,(UN xs c).2):=by
 have hp:=RC (k:=c.fKey) xs;have hlen:=SR xs;have hset:=λv=>Wt hm c.fKey v;have hdel:=Wu hm c.fKey;unfold MZ;rw[TD hF (by omega) hm hk,A8 rfl];dsimp only
 cases hh:Ce xs c.fKey with
 | true=>
  obtain⟨ha,hat⟩:=ZP hm hh;rw[hh] at hset hdel;simp only[Abr] at hset hdel;have hv:1≤((Bl xs c.fKey).getD zI).fVersion∧((Bl xs c.fKey).getD zI).fVersion≤1000000000000:=by
   unfold Ce at hh
   cases hg:Bl xs c.fKey with
   | none=>rw[hg] at hh;cases hh
   | some v=>exact hpos _ (BZ hg)
  rw[AA rfl,AQ (by omega) (by rw[hlen];exact ha),hat];unfold UN;generalize(Bl xs c.fKey).getD zI=y at hv
  cases(decide (0≤c.fIfVersion)&&!decide (c.fIfVersion=y.fVersion)) with
  | true=>rfl
  | false=>
   rw[As rfl,BO (by omega) (by rw[hlen];omega),La (by simp[hlen];omega)]
   cases c.fDelete with
   | true=>
    rw[As (p:=!true) rfl,A6 (by omega) (by omega),BO (by omega) (by rw[hlen];omega),La (by simp[hlen];omega)];simp only[Abr,Abk];rw[hdel,AbJ,show Int.toNat (pos xs c.fKey:Int)=pos xs c.fKey from by omega,show Int.toNat ((pos xs c.fKey:Int)+1)=pos xs c.fKey+1 from by omega]
   | false=>
    have h0:decide (y.fVersion=0)=false:=Abj (by omega);rw[AA (p:=!false) rfl,h0];simp only[Abk,AbC]
    by_cases h8:y.fVersion=1000000000000
    ·rw[AA (Abm h8),Abm (by omega:(1000000000000:Int)≤y.fVersion)];rfl
    ·rw[As (Abj h8),Abj (by omega : ¬ (1000000000000:Int)≤y.fVersion),A6 (by omega) (by omega),La (by simp[hlen];omega),A6 (by omega) (by omega),BO (by omega) (by rw[hlen];omega),La (by simp[hlen];omega)];simp only[Abk];rw[hset,AbJ,show Int.toNat (pos xs c.fKey:Int)=pos xs c.fKey from by omega,show Int.toNat ((pos xs c.fKey:Int)+1)=pos xs c.fKey+1 from by omega,Ab2];rfl
 | false=>
  rw[hh] at hset hdel;simp only[Abk,Nat.add_zero] at hset hdel;have hg:(Bl xs c.fKey).getD zI=zI:=by
   unfold Ce at hh
   cases hg:Bl xs c.fKey with
   | none=>rfl
   | some v=>rw[hg] at hh;cases hh
  have hz:zI.fVersion=0:=rfl;rw[As rfl];unfold UN;rw[hg,hz]
  cases(decide (0≤c.fIfVersion)&&!decide (c.fIfVersion=0)) with
  | true=>rfl
  | false=>
   rw[As rfl,BO (by omega) (by rw[hlen];omega),La (by simp[hlen];omega)]
   cases c.fDelete with
   | true=>
    rw[As (p:=!true) rfl,La (by simp[hlen];omega)];simp only[Abr,Abk];rw[hdel,AbJ,show Int.toNat (pos xs c.fKey:Int)=pos xs c.fKey from by omega]
   | false=>
    rw[AA (p:=!false) rfl,hlen];simp only[Abk]
    by_cases h3:(xs.length:Int)=256
    ·rw[AA (Abm h3),Abm (by omega:(256:Int)≤(xs.length:Int))];rfl
    ·rw[As (Abj h3),Abj (by omega : ¬ (256:Int)≤(xs.length:Int)),La (by simp[hlen];omega),La (by simp[hlen];omega)];rw[AbJ,show Int.toNat (pos xs c.fKey:Int)=pos xs c.fKey from by omega,Ab2];show _=some (EW (mset xs c.fKey ⟨c.fKey,c.fValue,0+1⟩),0);rw[hset];rfl
def DQ (q:AB):List (Ag×Af):=q.fChanged.foldl (M9 HM) q.fItems
structure Le (q:AB):Prop where
 it:Kg q.fItems
 ch:Kg q.fChanged
 ipos:∀p∈q.fItems,1≤p.2.fVersion
 ikey:Tl q.fItems
 cz:∀p∈q.fChanged,HM p.2=true→p.2=zI
 ck:∀p∈q.fChanged,HM p.2=false→p.2.fKey=p.1
 len:(DQ q).length≤256
 kl:∀p∈DQ q,p.1.length≤300
theorem Nk {q:AB}(h:Ms q.fChanged)(k:Ag):Bl (DQ q) k=match Bl q.fChanged k with
  | none=>Bl q.fItems k
  | some v=>bif HM v then none else some v:=(Jm (del:=HM) q.fChanged q.fItems k h.nodup).trans (by cases Bl q.fChanged k<;>rfl)
theorem Le.ms {q:AB}(h:Le q):Ms (DQ q):=Lc _ h.it.ms
theorem Le.iok {q:AB}(h:Le q):Kg (DQ q):=⟨h.ms,λp hp=>by
 rcases KI hp with hp | ⟨hp,_⟩
 ·exact h.it.ok p hp
 ·exact h.ch.ok p hp⟩
theorem Le.pos {q:AB}(h:Le q):∀p∈DQ q,1≤p.2.fVersion∧p.2.fVersion≤1000000000000:=λp hp=>by
 refine⟨?_,(h.iok.ok p hp).2.1⟩;rcases KI hp with hp | ⟨hp,hd⟩
 ·exact h.ipos p hp
 ·have:=(h.ch.ok p hp).1;have:=Ab9 hd;omega
theorem Le.key {q:AB}(h:Le q):Tl (DQ q):=λp hp=>by
 rcases KI hp with hp | ⟨hp,hd⟩
 ·exact h.ikey p hp
 ·exact h.ck p hp hd
theorem Xc {q:AB}(h:Le q)(k:Ag):IN q k=(Bl (DQ q) k).getD zI:=by
 rw[Nk h.ch.ms];unfold IN
 cases e:Bl q.fChanged k with
 | none=>rfl
 | some v=>
  simp only[AbD]
  cases hd:HM v with
  | true=>exact h.cz _ (BZ e) hd
  | false=>rfl
theorem Tb {q:AB}(h:Le q)(k:Ag)(v:Af):DQ ⟨q.fItems,mset q.fChanged k v⟩=M9 HM (DQ q) (k,v):=
 Ms.ext (Lc _ h.it.ms) (Xr h.ms _) λk'=>by
  rw[Nk (q:=⟨q.fItems,mset q.fChanged k v⟩) (h.ch.ms.mset k v),Q9,Nk h.ch.ms];show(match Bl (mset q.fChanged k v) k' with | none=>Bl q.fItems k' | some v=>bif HM v then none else some v)=_;rw[O4]
  cases decide (k'=k)<;>rfl
theorem Yx {q:AB}(h:Le q)(k:Ag):Ce (DQ q) k=decide (0<((Bl (DQ q) k).getD zI).fVersion):=by
 unfold Ce
 cases e:Bl (DQ q) k with
 | none=>rfl
 | some v=>
  have:=(h.pos _ (BZ e)).1;simp only[Option.isSome_some,AbD];rw[Abm (by have h':1≤v.fVersion:=this;omega)]
theorem YC {q:AB}(h:Le q){c:Ae}(hs:SmC c) :
  (J5 q c ((DQ q).length:Int)).2.1=(UN (DQ q) c).2∧((UN (DQ q) c).2=0→DQ (J5 q c ((DQ q).length:Int)).2.2=(UN (DQ q) c).1∧(J5 q c ((DQ q).length:Int)).1=((DQ (J5 q c ((DQ q).length:Int)).2.2).length:Int)∧Le (J5 q c ((DQ q).length:Int)).2.2∧(J5 q c ((DQ q).length:Int)).2.2.fItems=q.fItems):=by
 have hlen:=h.len;have hver:=Yx h c.fKey;have hcur:=Xc h c.fKey;have hok:=h.iok.get c.fKey;unfold J5 UN;rw[hcur];generalize hx:(Bl (DQ q) c.fKey).getD zI=x at hver hok
 cases(decide (0≤c.fIfVersion)&&!decide (c.fIfVersion=x.fVersion)) with
 | true=>exact⟨rfl,λh=>by cases h⟩
 | false=>
  cases c.fDelete with
  | true=>
   have he:=Tb h c.fKey zI;have he2:M9 HM (DQ q) (c.fKey,zI)=mdel (DQ q) c.fKey:=rfl;rw[he2] at he;have hl:=QB h.ms c.fKey;rw[hver] at hl;refine⟨rfl,λ_=>⟨he,?_,⟨h.it,h.ch.set UP,h.ipos,h.ikey,λp hp hd=>?_,λp hp hd=>?_,?_,λp hp=>?_⟩,rfl⟩⟩
   ·show(bif decide (0<x.fVersion) then((DQ q).length:Int)-1 else((DQ q).length:Int))=((DQ ⟨q.fItems,mset q.fChanged c.fKey zI⟩).length:Int);rw[he,hl]
    cases hd:decide (0<x.fVersion) with
    | false=>rfl
    | true=>
     rw[hd] at hver;have:0<(DQ q).length:=by
      unfold Ce at hver
      cases e:Bl (DQ q) c.fKey with
      | none=>rw[e] at hver;cases hver
      | some v=>exact List.length_pos_of_mem (BZ e)
     simp only[Abr];omega
   ·rcases GG hp with rfl | hp
    ·rfl
    ·exact h.cz p hp hd
   ·rcases GG hp with rfl | hp
    ·cases hd
    ·exact h.ck p hp hd
   ·show(DQ ⟨q.fItems,mset q.fChanged c.fKey zI⟩).length≤256;rw[he,hl]
    cases decide (0<x.fVersion)<;>simp only[Abr,Abk]<;>omega
   ·have hp':p∈mdel (DQ q) c.fKey:=by rw[← he];exact hp
    exact h.kl p (QA hp')
  | false=>
   have hz:decide (x.fVersion=0) = !Ce (DQ q) c.fKey:=by
    rw[hver]
    by_cases h0:x.fVersion=0
    ·rw[Abm h0,Abj (by omega)];rfl
    ·rw[Abj h0,Abm (by omega)];rfl
   cases h3:(decide (x.fVersion=0)&&decide (256≤((DQ q).length:Int))) with
   | true=>exact⟨rfl,λh=>by cases h⟩
   | false=>
    cases hb:decide ((1000000000000:Int)≤x.fVersion) with
    | true=>exact⟨rfl,λh=>by cases h⟩
    | false=>
     have hb':=Ab9 hb;have hd1:HM ⟨c.fKey,c.fValue,x.fVersion+1⟩=false:=Abj (by show ¬ x.fVersion+1=0;omega);have he:=Tb h c.fKey ⟨c.fKey,c.fValue,x.fVersion+1⟩;have he2:M9 HM (DQ q) (c.fKey,⟨c.fKey,c.fValue,x.fVersion+1⟩)=mset (DQ q) c.fKey ⟨c.fKey,c.fValue,x.fVersion+1⟩:=by
      unfold M9;rw[hd1];rfl
     rw[he2] at he;have hl:=LT (DQ q) c.fKey ⟨c.fKey,c.fValue,x.fVersion+1⟩;have hsz:(bif decide (x.fVersion=0) then((DQ q).length:Int)+1 else((DQ q).length:Int))=((mset (DQ q) c.fKey ⟨c.fKey,c.fValue,x.fVersion+1⟩).length:Int):=by
      rw[hl,hz]
      cases Ce (DQ q) c.fKey<;>simp
     refine⟨rfl,λ_=>⟨he,?_,⟨h.it,h.ch.set ⟨?_,?_,hs.val⟩,h.ipos,h.ikey,λp hp hd=>?_,λp hp hd=>?_,?_,λp hp=>?_⟩,rfl⟩⟩
     ·show(bif decide (x.fVersion=0) then((DQ q).length:Int)+1 else((DQ q).length:Int))=((DQ ⟨q.fItems,mset q.fChanged c.fKey ⟨c.fKey,c.fValue,x.fVersion+1⟩⟩).length:Int);rw[he];exact hsz
     ·show 0≤x.fVersion+1;omega
     ·show x.fVersion+1≤1000000000000;omega
     ·rcases GG hp with rfl | hp
      ·rw[hd1] at hd;cases hd
      ·exact h.cz p hp hd
     ·rcases GG hp with rfl | hp
      ·rfl
      ·exact h.ck p hp hd
     ·show(DQ ⟨q.fItems,mset q.fChanged c.fKey ⟨c.fKey,c.fValue,x.fVersion+1⟩⟩).length≤256;rw[he,hl];rw[hz] at h3
      cases hh:Ce (DQ q) c.fKey with
      | true=>simp only[Abr];omega
      | false=>
       rw[hh] at h3;simp only[AbB,Aby,Abi] at h3;simp only[Abk];omega
     ·have hp':p∈mset (DQ q) c.fKey ⟨c.fKey,c.fValue,x.fVersion+1⟩:=by rw[← he];exact hp
      rcases GG hp' with rfl | hp'
      ·exact hs.key
      ·exact h.kl p hp'
theorem Qm {F:Nat}(hF:300<F){l:List Ae}(hlen:l.length≤300)(hsm:∀c∈l,SmC c)(s:BR)(r:List Ae):∀(n:Nat) (x:Int) (q:AB),0≤x→x+r.length=l.length→l.drop x.toNat=r→r.length<n→Le q→
  BE (λσ=>ED F s l σ.1 σ.2) n (EW (DQ q),x)=some (bif !decide ((Hp r ((DQ q).length:Int) q).1=0) then .ret ((Hp r ((DQ q).length:Int) q).1,s) else .go (EW (DQ (Hp r ((DQ q).length:Int) q).2)))∧((Hp r ((DQ q).length:Int) q).1=0→Le (Hp r ((DQ q).length:Int) q).2∧(Hp r ((DQ q).length:Int) q).2.fItems=q.fItems):=by
 induction r with
 | nil=>
  intro n x q h0 hx hd hn hw;obtain⟨n,rfl⟩:∃m,n=m+1:=⟨n-1,by simp at hn;omega⟩
  have hx':x=(l.length:Int):=by simpa using hx
  have hb:ED F s l (EW (DQ q)) x=some (.out (.go (EW (DQ q)))):=by
   unfold ED;rw[As (Abj (by omega))]
  refine⟨?_,λ_=>⟨hw,rfl⟩⟩;rw[BE];simp only[hb];rfl
 | cons c r ih=>
  intro n x q h0 hx hd hn hw;simp only[Abl] at hx hn;obtain⟨n,rfl⟩:∃m,n=m+1:=⟨n-1,by omega⟩
  have hxl:x<(l.length:Int):=by omega
  have hc:l[x.toNat]? =some c:=by
   have:=congrArg (·[0]?) hd;simpa using this
  have hat:Ap l x=c:=by simp[Ap,hc]
  have hm:c∈l:=Abv hc;have hwl:=hw.len;have ha:=Qn (F:=F) (by omega) hw.len hw.ms hw.key hw.pos c;obtain⟨s1,s2⟩:=YC hw (hsm c hm);have hb:ED F s l (EW (DQ q)) x=AV (!decide ((UN (DQ q) c).2=0)) (some (.out (.ret ((UN (DQ q) c).2,s)))) (some (.next (EW (UN (DQ q) c).1,x+1))):=by
   unfold ED;rw[AA (Abm hxl),AQ h0 hxl,hat,ha,A8 rfl,A6 (by omega) (by omega)]
  rw[BE];simp only[hb];rw[Hp];generalize J5 q c ((DQ q).length:Int)=t at s1 s2;rw[s1];generalize UN (DQ q) c=u at s2
  cases he:decide (u.2=0) with
  | false=>
   simp only[AbB,Abr,AV];refine⟨by rw[he];rfl,λh=>?_⟩;have:=Ab9 he;exact absurd h this
  | true=>
   obtain⟨t1,t2,t3,t4⟩:=s2 (Abt he);simp only[Abw,Abk,AV];have hd2:l.drop (x+1).toNat=r:=by
    have:=congrArg (·.drop 1) hd;rw[Aci] at this;rw[show(x+1).toNat=x.toNat+1 from by omega];simpa using this
   rw[← t1,t2];obtain⟨i1,i2⟩:=ih n (x+1) t.2.2 (by omega) (by omega) hd2 (by omega) t3;exact⟨i1,λh=>⟨(i2 h).1,(i2 h).2.trans t4⟩⟩
theorem TI {F:Nat}(hF:30000<F){xs ys:List (Ag×Af)}{l:List Ae}(hw:Le ⟨xs,[]⟩)(hs:YF l)(ho:∀c∈l,YG c){e0:Int}(he:GJ F l=some e0) :
  V6 F ⟨true,EW xs⟩ l=some ((HO e0 ⟨xs,ys⟩ l).1,⟨true,EW (HO e0 ⟨xs,ys⟩ l).2.fItems⟩)∧Le ⟨(HO e0 ⟨xs,ys⟩ l).2.fItems,[]⟩:=by
 have hlen:=hs.len;unfold V6 HO;rw[As (p:=!true) rfl,XO hF hs ho,he,A8 rfl]
 cases decide (e0=0) with
 | false=>exact⟨rfl,hw⟩
 | true=>
  rw[As (p:=!true) rfl];obtain⟨i1,i2⟩:=Qm (F:=F) (by omega) hlen hs.all ⟨true,EW xs⟩ l F 0 ⟨xs,[]⟩ (Ab4 0) (by omega) (by simp) (by omega) hw;have ee:DQ ⟨xs,[]⟩=xs:=rfl;rw[ee] at i1 i2;show Bi (BE (λσ=>ED F ⟨true,EW xs⟩ l σ.1 σ.2) F (EW xs,0)) _=some _∧_;rw[A8 i1];have hk:=(M7 l (q:=⟨xs,[]⟩) (size:=(xs.length:Int)) (λc hc=>(hs.all c hc).val) hw.it Kg.nil).1;generalize Hp l (xs.length:Int) ⟨xs,[]⟩=t at i2 hk
  cases hd:decide (t.1=0) with
  | false=>
   refine⟨?_,?_⟩
   ·show some (t.1,BR.mk true (EW xs))=some (t.1,⟨true,EW t.2.fItems⟩);rw[hk]
   ·show Le ⟨t.2.fItems,[]⟩;rw[hk];exact hw
  | true=>
   obtain⟨j1,j2⟩:=i2 (Abt hd);have e:t.2.fChanged.foldl (M9 HM) xs=DQ t.2:=by unfold DQ;rw[j2]
   refine⟨?_,?_⟩
   ·show some ((0:Int),BR.mk true (EW (DQ t.2)))=some ((0:Int),⟨true,EW (t.2.fChanged.foldl (M9 HM) xs)⟩);rw[e]
   ·show Le ⟨t.2.fChanged.foldl (M9 HM) xs,[]⟩;rw[e];exact⟨j1.iok,Kg.nil,λp hp=>(j1.pos p hp).1,j1.key,λ_ h=>by(cases h),λ_ h=>by(cases h),j1.len,j1.kl⟩
theorem Ql {F:Nat}{v:List Aa}(hF:v.length<F)(hl:v.length≤1000000):GF F v v=some true:=by
 unfold GF;rw[As (by simp)];obtain⟨o,h1,h2⟩:=HC v (λ_=>True) (λq:Bool=>False) () (λσ=>DK v v σ) (λx c h0 hx hc hat=>by
  refine .inl ⟨?_,trivial⟩;show DK v v x=_;unfold DK;rw[AA (Abm hx),AQ h0 hx,AQ h0 hx,As (by simp),A6 (by omega) (by omega)]) (by
  show DK v v _=_;unfold DK;rw[As (Abj (by omega))]) hF
 rw[A8 h1];rcases h2 with⟨q,_,h⟩ | ⟨rfl,_⟩
 ·exact h.elim
 ·rfl
theorem Qh {F:Nat}{a:List Af}(hF:a.length<F)(hF2:300<F)(hl:a.length≤1000000)(hv:∀y∈a,y.fValue.length≤300):JR F a a=some true:=by
 unfold JR;rw[As (by simp)];obtain⟨o,h1,h2⟩:=HC a (λ_=>True) (λq:Bool=>False) () (λσ=>DI F a a σ) (λx c h0 hx hc hat=>by
  refine .inl ⟨?_,trivial⟩;show DI F a a x=_;unfold DI;rw[AA (Abm hx),AQ h0 hx,AQ h0 hx,hat,Ql (by have:=hv c hc;omega) (by have:=hv c hc;omega),B9 (by simp[imp]),As (by simp[ov]),A6 (by omega) (by omega)]) (by
  show DI F a a _=_;unfold DI;rw[As (Abj (by omega))]) hF
 rw[A8 h1];rcases h2 with⟨q,_,h⟩ | ⟨rfl,_⟩
 ·exact h.elim
 ·rfl
def pfx (pre k:Ag):Bool:=decide ((pre.length:Int)≤(k.length:Int))&&decide (List.take (Int.toNat (pre.length:Int)) k=pre)
theorem RR (k pre:Ag):DP k pre=some (pfx pre k):=by
 unfold DP EQ;have hc:imp (decide ((pre.length:Int)≤(k.length:Int))) (GU (pre.length:Int) (k.length:Int))=true:=by
  by_cases h:(pre.length:Int)≤(k.length:Int)
  ·rw[Abm h,ZB (by omega) h];rfl
  ·rw[Abj h];rfl
 rw[B9 hc,A8 rfl];rfl
def Rm (pre:Ag)(xs:List (Ag×Af)):List (Ag×Af):=xs.filter λp=>pfx pre p.1
theorem Vv {pre:Ag}{xs:List (Ag×Af)}{n:Nat}{p:Ag×Af}(h:xs[n]? =some p):EW (Rm pre (xs.take (n+1)))=EW (Rm pre (xs.take n))++bif pfx pre p.1 then[p.2] else[]:=by
 rw[List.take_add_one,h];unfold EW Rm;rw[List.filter_append,Ack]
 congr 1
 cases hp:pfx pre p.1<;>simp[hp]
theorem Sz (pre:Ag)(xs:List (Ag×Af)):(EW (Rm pre xs)).length≤xs.length:=by
 unfold EW Rm;rw[Abx];exact List.length_filter_le ..
theorem Q5 {xs:List (Ag×Af)}(hm:Ms xs):C6 xs=xs.map (·.1):=by
 unfold C6;refine List.mergeSort_of_pairwise (List.pairwise_map.2 (hm.imp fun {p q} h=>?_));have h':Op.bytesLess p.1 q.1=true:=h;rw[bytesLess_eq] at h';exact Abm (List.le_of_lt (Abt h'))
theorem Ug {xs:List (Ag×Af)}(hl:xs.length≤256)(hk:∀p∈xs,p.1.length≤300):Nr xs=true:=by
 unfold Nr;simp only[Abp,Abh,AbE];refine⟨by omega,λp hp=>?_⟩;have:=hk p hp;unfold YM;simp only[Abh];omega
theorem Nv {F:Nat}(hF:300<F){xs ys:List (Ag×Af)}(hw:Le ⟨xs,[]⟩)(pre:Ag):LV F ⟨xs,ys⟩ pre=some (EW (Rm pre xs),⟨xs,ys⟩):=by
 have hl:xs.length≤256:=hw.len;have hm:Ms xs:=hw.it.ms;have hlen:(xs.map (·.1)).length=xs.length:=by simp
 unfold LV JF;rw[A8 rfl,As (p:=!true) rfl,B9 (Ug hl hw.kl)];obtain⟨o,h1,h2⟩:=Ew (body:=λσ:List Af×Int=>EV pre (true,⟨xs,ys⟩) σ.1 σ.2) (λσ=>0≤σ.2∧σ.2≤(xs.length:Int)∧σ.1=EW (Rm pre (xs.take σ.2.toNat))) (λσ=>xs.length-σ.2.toNat)
  (λo=>o = .go (EW (Rm pre xs))) (λ⟨out,x⟩ ⟨h0,hx,ho⟩=>by
   dsimp only at h0 hx ho ⊢;subst ho;have hsl:=Sz pre (xs.take x.toNat);rw[List.length_take] at hsl
   by_cases hx2:x<(xs.length:Int)
   ·obtain⟨p,hp⟩:∃p,xs[x.toNat]? =some p:=⟨xs[x.toNat]'(by omega),Abs (by omega)⟩
    have hpm:=Abv hp;have hat:Ap (xs.map (·.1)) x=p.1:=by simp[Ap,hp]
    have hval:Cn xs p.1 (Af.mk [] [] 0)=p.2:=by
     unfold Cn;rw[ID hm.nodup (show(p.1,p.2)∈xs from hpm)];rfl
    have hown:Ul p.2=some p.2:=by
     unfold Ul;have:=(hw.it.ok p hpm).2.2;rw[OP (by omega),A8 rfl]
    have hb:EV pre (true,⟨xs,ys⟩) (EW (Rm pre (xs.take x.toNat))) x=AV (pfx pre p.1) (some (.next (EW (Rm pre (xs.take x.toNat))++[p.2],x+1))) (some (.next (EW (Rm pre (xs.take x.toNat)),x+1))):=by
     unfold EV HE;dsimp only;rw[Q5 hm,hlen,AA (Abm hx2),AQ h0 hx2,hat,RR,A8 rfl,hval,hown,A8 rfl,La (by simp;omega),A6 (by omega) (by omega),A6 (by omega) (by omega)]
    have ht:=Vv (pre:=pre) hp;have hx1:(x+1).toNat=x.toNat+1:=by omega
    cases hpf:pfx pre p.1 with
    | true=>
     rw[hpf] at ht;refine .inl ⟨_,hb.trans (AA hpf),⟨by show 0≤x+1;omega,by show x+1≤_;omega,?_⟩,by show xs.length-(x+1).toNat<xs.length-x.toNat;omega⟩;show _=EW (Rm pre (xs.take (x+1).toNat));rw[hx1,ht];rfl
    | false=>
     rw[hpf] at ht;refine .inl ⟨_,hb.trans (As hpf),⟨by show 0≤x+1;omega,by show x+1≤_;omega,?_⟩,by show xs.length-(x+1).toNat<xs.length-x.toNat;omega⟩;show _=EW (Rm pre (xs.take (x+1).toNat));rw[hx1,ht];simp
   ·refine .inr ⟨.go _,by unfold EV;dsimp only;rw[Q5 hm,hlen,As (Abj hx2)],?_⟩;rw[show x.toNat=xs.length from by omega,Aca]) F ([],0) ⟨Ab4 0,by show(0:Int)≤_;omega,by simp[EW,Rm]⟩ (by show xs.length-0<F;omega)
 subst h2;rw[A8 h1,Ox];rfl
theorem Qa {F:Nat}(hF:300<F){xs:List (Ag×Af)}(hw:Le ⟨xs,[]⟩)(pre:Ag):JR F (EW (Rm pre xs)) (EW (Rm pre xs))=some true:=by
 have hl:xs.length≤256:=hw.len;have h1:=Sz pre xs;refine Qh (by omega) hF (by omega) λy hy=>?_;obtain⟨p,hp,rfl⟩:=List.mem_map.1 hy;exact(hw.it.ok p (List.mem_filter.1 hp).1).2.2
theorem HQ.up {M K:Nat}{v:List Aa}(h:HQ M v)(hK:M≤K)(hb:K≤1000000000):HQ K v:=⟨hb,by have:=h.hv;omega,λc hc=>⟨by have:=(h.hc c hc).1;omega,(h.hc c hc).2⟩⟩
theorem HQ.zero {M:Nat}(hM:M≤1000000000):HQ M []:=⟨hM,AbS _,λ_ h=>by cases h⟩
def CkC (c:Ae):Prop:=HQ 5000 c.fValue
def ZV (l:List Ae):Prop:=∀c∈l,CkC c
theorem Uo {F:Nat}(hF:5000<F){c:Ae}(hA:CkC c):Id F c=some (HL c):=by
 unfold Id HL;rw[H0 hA (by decide) hF,A8 rfl]
 cases PB c.fKey with
 | false=>rfl
 | true=>
  cases(decide (c.fIfVersion<(-1))||decide (1000000000000<c.fIfVersion)) with
  | true=>rfl
  | false=>
   cases(c.fDelete&&decide (0<(c.fValue.length:Int))) with
   | true=>rfl
   | false=>cases c.fDelete<;>rfl
theorem MG {l:List Ae}{b:Int→Option (Stp Int (Out Int Unit))}(hb:∀(x:Nat) (c:Ae) (r:List Ae),l.drop x=c::r→b (x:Int)=bif decide (HL c=0) then some (.next ((x+1:Nat):Int)) else some (.out (.ret (HL c))))
  (he:b (l.length:Int)=some (.out (.go ()))):∀(r:List Ae) (n x:Nat),l.drop x=r→x≤l.length→r.length<n→Bi (BE b n (x:Int)) (By λ_=>some 0)=some (IK r)
 | [],n,x,h,hx,hn=>by
  obtain⟨n,rfl⟩:∃m,n=m+1:=⟨n-1,by simp at hn;omega⟩
  have:l.length≤x:=by simpa using h
  have e:x=l.length:=by omega
  subst e;rw[BE,he];rfl
 | c::r,n,x,h,hx,hn=>by
  obtain⟨n,rfl⟩:∃m,n=m+1:=⟨n-1,by simp at hn;omega⟩
  obtain⟨hat,hlt,hd⟩:=EZ h;rw[BE,hb x c r h,IK]
  cases hc:decide (HL c=0) with
  | false=>rfl
  | true=>
   simp only[Abr];exact MG hb he r n (x+1) hd (by omega) (by simp at hn;omega)
theorem OA {F:Nat}(hF:5000<F){l:List Ae}(hA:ZV l):GJ F l=some (Iz l):=by
 unfold GJ Iz
 cases h:decide (256<l.length) with
 | true=>rw[AA (Abm (by have:=Abt h;omega))];rfl
 | false=>
  have h':=Ab9 h;rw[As (Abj (by omega))];exact MG (λx c r hd=>by
   obtain⟨hat,hlt,_⟩:=EZ hd;show CB F l (x:Int)=_;unfold CB;rw[AA (Abm (by omega)),AQ (by omega) (by omega),hat,A8 (Uo hF (hA c (Acl (i:=x) (by rw[hd];simp)))),A6 (by omega) (by omega)]
   cases decide (HL c=0)<;>rfl) (by
   show CB F l _=_;unfold CB;rw[As (Abj (by omega))]) l F 0 rfl (by omega) (by omega)
theorem WJ (v:List Aa):(I0 v).2=HK v:=by
 unfold I0 HK
 cases whole v with
 | none=>rfl
 | some f=>
  simp only
  cases hh:decide (EL f=0) with
  | true=>rw[Abt hh];rfl
  | false=>rfl
theorem RE {c:Ae}(h:HL c=0):Ow (NX c)=(Eu c,0):=by
 unfold Ow;rw[Qx h];rfl
theorem Wo {F:Nat}(hF:30000<F){c:Ae}(hA:CkC c)(h:HL c=0):QJ F c=some (Eu c,0):=by
 obtain⟨h1,h2,h3,h4,h5⟩:=N7 h;have hp:=RE h;unfold QJ;unfold NX at hp
 cases hd:c.fDelete with
 | true=>
  rw[hd] at hp;rw[As (by rfl),A6 (by omega) (by omega),A8 (QT (by omega))];exact congrArg some hp
 | false=>
  rw[hd] at hp;rw[AA (by rfl),A8 (Rw hA (by decide) (by omega)),WJ,h5 hd,As (by rfl),A6 (by omega) (by omega),A8 (QT (by omega))];exact congrArg some hp
theorem Ra {l:List Ae}{b:List Ag×Int→Option (Stp (List Ag×Int) (Out (Ag×Int) (List Ag)))}(hl:l.length≤300)(hb:∀(acc:List Ag) (x:Nat) (c:Ae) (r:List Ae),l.drop x=c::r→acc.length≤300→b (acc,(x:Int))=some (.next (acc++[Eu c],((x+1:Nat):Int))))
  (he:∀acc,b (acc,(l.length:Int))=some (.out (.go acc))):∀(r:List Ae) (n x:Nat) (acc:List Ag),l.drop x=r→x≤l.length→acc.length=x→r.length<n→BE b n (acc,(x:Int))=some (.go (acc++r.map Eu))
 | [],n,x,acc,h,hx,ha,hn=>by
  obtain⟨n,rfl⟩:∃m,n=m+1:=⟨n-1,by simp at hn;omega⟩
  have:l.length≤x:=by simpa using h
  have e:x=l.length:=by omega
  rw[e,BE,he,List.map_nil,AbK]
 | c::r,n,x,acc,h,hx,ha,hn=>by
  obtain⟨n,rfl⟩:∃m,n=m+1:=⟨n-1,by simp at hn;omega⟩
  obtain⟨hat,hlt,hd⟩:=EZ h;rw[BE,hb acc x c r h (by omega)];simp only;rw[Ra hl hb he r n (x+1) _ hd (by omega) (by simp;omega) (by simp at hn;omega),Ab2];rfl
theorem WH {l:List Ae}(h:Iz l=0):l.length≤256∧∀c∈l,HL c=0:=by
 unfold Iz at h
 cases h2:decide (256<l.length) with
 | true=>rw[h2] at h;cases h
 | false=>
  rw[h2] at h;exact⟨by have:=Ab9 h2;omega,Lz h⟩
theorem Nw {F:Nat}(hF:270000<F){l:List Ae}(hA:ZV l):Jq F l=some (Kb l):=by
 unfold Jq Kb;rw[A8 (OA (by omega) hA)]
 cases h:decide (Iz l=0) with
 | false=>rfl
 | true=>
  obtain⟨h1,h2⟩:=WH (Abt h);rw[As (p:=!true) rfl];have:=Ra (l:=l) (b:=λσ=>Dk F l σ.1 σ.2) (by omega) (λacc x c r hd ha=>by
   obtain⟨hat,hlt,_⟩:=EZ hd;have hm:c∈l:=Acl (i:=x) (by rw[hd];simp);show Dk F l acc (x:Int)=_;unfold Dk;rw[AA (Abm (by omega)),AQ (by omega) (by omega),hat,A8 (Wo (by omega) (hA c hm) (h2 c hm)),As (by rfl),L7 (by simp;omega),A6 (by omega) (by omega)];rfl) (λacc=>by
   show Dk F l acc _=_;unfold Dk;rw[As (Abj (by omega))]) l F 0 [] rfl (by omega) rfl (by omega)
  rw[show(([]:List Ag),(0:Int))=([],((0:Nat):Int)) from rfl,A8 this,Dx,AbJ];unfold GK;rw[A8 (WF (by omega) (by simp;omega) (by simp;omega))];rfl
theorem U9 {α:Type}{n:Nat}{x:Option α}(h:n≤1000000000):AR (Dw 56 n) x=x:=B9 (Abm (by omega))
theorem WX (l:List Ag):decide ((l.length:Int)=4)=true→∃a b c d,l=[a,b,c,d]:=λh=>Aa0 (Abt h)
theorem Vh {b:Ag}(h:(Gl b).2=0):∀f∈(Gl b).1,f.length≤4000:=λf hf=>T1 hf h
theorem RQ {F:Nat}(hF:30000<F){b:Ag}(hb:b.length≤1000000000):KM F b=some (Lk b):=by
 unfold KM Lk;rw[A8 (Sc (by omega) hb)];have hsm:=Vh (b:=b);generalize Gl b=u at *;obtain⟨l,e⟩:=u
 cases he:decide (e=0) with
 | false=>rw[B9 (by simp[imp,he]),AA (by simp[he])];rfl
 | true=>
  have e0:=Abt he;subst e0
  cases hl:decide ((l.length:Int)=4) with
  | false=>
   rw[B9 (by simp[imp,hl]),AA (by simp[hl])];unfold QR;rw[hl];rfl
  | true=>
   obtain⟨k,f,t,m,rfl⟩:=WX l hl;have a0:Ap [k,f,t,m] 0=k:=rfl;have a1:Ap [k,f,t,m] 1=f:=rfl;have a2:Ap [k,f,t,m] 2=t:=rfl;have a3:Ap [k,f,t,m] 3=m:=rfl;have hm:m.length≤4000:=hsm rfl m (by simp);rw[B9 (by rfl)];unfold QR ofC;rw[a0,a1,a2,a3]
   cases hd:decide (f=[48]) with
   | false=>
    cases ha:decide (f=[49]) with
    | false=>rw[AA (by rfl)];rfl
    | true=>
     rw[As (by rfl),AQ (by omega) (by simp),IO (by omega)]
     cases hp:decide (BD m=0) with
     | false=>rfl
     | true=>
      rw[As (by rfl),AQ (by omega) (by simp),AQ (by omega) (by simp),AA (by rfl),AQ (by omega) (by simp)];rfl
   | true=>
    have hf:=Abt hd;have ha:decide (f=[49])=false:=by rw[hf];rfl
    rw[ha,As (by rfl),AQ (by omega) (by simp),IO (by omega)]
    cases hp:decide (BD m=0) with
    | false=>rfl
    | true=>
     obtain⟨r,hr⟩:=L3 t;rw[As (by rfl),AQ (by omega) (by simp),AQ (by omega) (by simp),As (by rfl),AQ (by omega) (by simp),PW (by omega),hr,A8 rfl,Ji];rfl
theorem Zd {b:Ag}(h:(Lk b).2=true):CkC (Lk b).1:=by
 obtain⟨_,_,u3⟩:=Su h;rw[u3] at h ⊢;unfold ofC at h ⊢;unfold CkC
 cases hf:decide (Ap (Gl b).1 1=[49]) with
 | true=>exact HQ.zero (by decide)
 | false=>
  rw[hf] at h;simp only[Abk] at h ⊢;obtain⟨r,hr⟩:=L3 (Ap (Gl b).1 2);rw[hr,Ji] at h ⊢;exact HQ.up (Tc hr (Abt h)).1 (by decide) (by decide)
theorem Rb {l:List Ag}{b:List Ae×Int→Option (Stp (List Ae×Int) (Out (List Ae×Int) (List Ae)))}{good:Ag→Bool}{val:Ag→Ae}
  (hb:∀(acc:List Ae) (x:Nat) (c:Ag) (r:List Ag),l.drop x=c::r→acc.length=x→b (acc,(x:Int))=bif good c then some (.next (acc++[val c],((x+1:Nat):Int))) else some (.out (.ret ([],13))))
  (he:∀acc,b (acc,(l.length:Int))=some (.out (.go acc))):∀(r:List Ag) (n x:Nat) (acc:List Ae),l.drop x=r→x≤l.length→acc.length=x→r.length<n→BE b n (acc,(x:Int))=some (bif r.all good then .go (acc++r.map val) else .ret ([],13))
 | [],n,x,acc,h,hx,ha,hn=>by
  obtain⟨n,rfl⟩:∃m,n=m+1:=⟨n-1,by simp at hn;omega⟩
  have:l.length≤x:=by simpa using h
  have e:x=l.length:=by omega
  rw[e,BE,he,List.map_nil,AbK];rfl
 | c::r,n,x,acc,h,hx,ha,hn=>by
  obtain⟨n,rfl⟩:∃m,n=m+1:=⟨n-1,by simp at hn;omega⟩
  obtain⟨hat,hlt,hd⟩:=EZ h;rw[BE,hb acc x c r h ha,AbH]
  cases hg:good c with
  | false=>rfl
  | true=>
   simp only[Abr,Aby];rw[Rb hb he r n (x+1) _ hd (by omega) (by simp;omega) (by simp at hn;omega),Ab2];rfl
theorem R0 (s:Ag):(BA s.length s).1.length≤s.length:=by
 obtain⟨h1,h2,_⟩:=Jc s.length s;have:=KS (BA s.length s).1;rw[← h2,List.length_take] at this;omega
theorem GO {s:Ag}(h:J4 s=false):ND s=([],13):=by unfold ND;rw[h];rfl
theorem U7 {s:Ag}(h:J4 s=true):ND s=((BA s.length s).1.map λb=>(Lk b).1,0):=by unfold ND;rw[h];rfl
theorem RX {F:Nat}(hF:270000<F){s:Ag}(hs:s.length≤270000):KP F s=some (ND s):=by
 have hsl:=R0 s;have hbl:=(Jc s.length s).2.2;unfold KP;rw[A8 (U2 (by omega) (by omega) (by omega))]
 cases hn:decide ((BA s.length s).2=s.length) with
 | false=>
  have hg:J4 s=false:=by unfold J4;rw[hn];rfl
  rw[GO hg,AA (by rw[Abj (by have:=Ab9 hn;omega)];rfl)]
 | true=>
  have hn':=Abt hn;rw[As (by rw[Abm (by omega)];rfl)];have:=Rb (l:=(BA s.length s).1) (b:=λσ=>Dl F ((BA s.length s).1,((BA s.length s).2:Int)) σ.1 σ.2) (good:=λb=>(Lk b).2) (val:=λb=>(Lk b).1) (λacc x c r hd ha=>by
   obtain⟨hat,hlt,_⟩:=EZ hd;have hc:=hbl c (Acl (i:=x) (by rw[hd];simp));show Dl F ((BA s.length s).1,((BA s.length s).2:Int)) acc (x:Int)=_;unfold Dl;rw[AA (Abm (by simp only;omega)),AQ (by omega) (by simp only;omega),hat,A8 (RQ (by omega) (by omega))]
   cases(Lk c).2 with
   | false=>rfl
   | true=>rw[As (by rfl),U9 (by simp;omega),A6 (by omega) (by omega)];rfl) (λacc=>by
   show Dl F ((BA s.length s).1,((BA s.length s).2:Int)) acc _=_;unfold Dl;rw[As (Abj (by simp only;omega))]) (BA s.length s).1 F 0 [] rfl (by omega) rfl (by omega)
  rw[show(([]:List Ae),(0:Int))=([],((0:Nat):Int)) from rfl,A8 this,AbJ]
  cases hall:(BA s.length s).1.all (λb=>(Lk b).2) with
  | false=>
   have hg:J4 s=false:=by
    cases hgg:J4 s with
    | false=>rfl
    | true=>
     unfold J4 at hgg;simp only[Abp] at hgg;obtain⟨_,_,g3,_⟩:=hgg;rw[AbE] at g3;have:(BA s.length s).1.all (λb=>(Lk b).2)=true:=List.all_eq_true.2 λb hb=>by
      have:=g3 b hb;unfold LX at this;simp only[Abp] at this;exact this.1
     rw[this] at hall;cases hall
   rw[GO hg];rfl
  | true=>
   have hck:ZV ((BA s.length s).1.map λb=>(Lk b).1):=λc hc=>by
    obtain⟨b,hb,rfl⟩:=List.mem_map.1 hc;exact Zd ((List.all_eq_true.1 hall) b hb)
   simp only[Abr];rw[Dx];unfold GL;rw[A8 (Nw hF hck)]
   cases hg:J4 s with
   | true=>
    have h1:=U7 hg;have h2:=WY (s:=s) (by rw[h1]);rw[h1] at h2 ⊢;simp only at h2;rw[h2,As (by simp)]
   | false=>
    rw[GO hg]
    cases he:((!decide ((Kb ((BA s.length s).1.map λb=>(Lk b).1)).2=0))||(!decide ((Kb ((BA s.length s).1.map λb=>(Lk b).1)).1=s))) with
    | true=>rw[AA (by rfl)]
    | false=>
     simp only[Ab8,Bool.not_eq_false',Abh] at he;have h2:=N8 he.1;rw[he.2,GO hg] at h2;exact absurd (show(13:Int)=0 from congrArg Prod.snd h2) (by decide)
theorem JY:Lu 300000=some true:=by decide +kernel
theorem ZV.of {l:List Ae}(hs:YF l)(ho:∀c∈l,YG c):ZV l:=λc hc=>
 ⟨by decide,by have:=(hs.all c hc).val;omega,λx hx=>⟨(hs.all c hc).cells x hx,((ho c hc).cells x hx).1,((ho c hc).cells x hx).2⟩⟩
theorem YA {s:Ag}(h:(ND s).2=0):J4 s=true:=by
 cases hg:J4 s with
 | true=>rfl
 | false=>rw[GO hg] at h;exact absurd h (by decide)
theorem Xa {s:Ag}(h:J4 s=true):s.length≤262144:=by
 unfold J4 at h;simp only[Abp,Abh] at h;exact h.2.2.2
theorem WN {l:List Ae}(h:(Kb l).2=0):(Kb l).1.length≤262144:=Xa (YA (by rw[N8 h]))
theorem Le.start:Le ⟨[],[]⟩:=⟨Kg.nil,Kg.nil,λ_ h=>by(cases h),λ_ h=>by(cases h),λ_ h=>by(cases h),λ_ h=>by(cases h),by decide,λ_ h=>by(cases h)⟩
theorem UH {e0:Int}{q:AB}{l:List Ae}(hq:Kg q.fItems)(hsm:∀c∈l,c.fValue.length≤300)(h:decide ((HO e0 q l).1=0)=false):(HO e0 q l).2.fItems=q.fItems:=by
 unfold HO at h ⊢
 cases h0:decide (e0=0) with
 | false=>rfl
 | true=>
  rw[h0] at h;simp only[Abw,Abk] at h ⊢;have hk:=(M7 l (q:=⟨q.fItems,[]⟩) (size:=(q.fItems.length:Int)) hsm hq Kg.nil).1
  cases h1:decide ((Hp l (q.fItems.length:Int) ⟨q.fItems,[]⟩).1=0) with
  | false=>exact hk
  | true=>rw[h1] at h;exact absurd (show true=false from h) (by decide)
theorem UG {e0:Int}{xs ys zs:List (Ag×Af)}{l:List Ae}(h:decide ((HO e0 ⟨xs,ys⟩ l).1=0)=true):e0=0∧(HO e0 ⟨xs,ys⟩ l).1=0∧HO e0 ⟨xs,zs⟩ l=HO e0 ⟨xs,ys⟩ l:=by
 have h2:=Abt h;unfold HO at h2 ⊢
 cases h0:decide (e0=0) with
 | false=>rw[h0] at h2;exact absurd h2 (Ab9 h0)
 | true=>rw[h0] at h2;exact⟨Abt h0,h2,rfl⟩
end Go.Proofs.YtjfnokmpfekniaaGreatDoor
namespace Go.Proofs.YtjfnokmpfekniaaGreatDoor
open Go
set_option linter.unusedVariables false
set_option linter.unusedSimpArgs false
theorem Th {F:Nat}(hF:30000<F){xs:List (Ag×Af)}(ys:List (Ag×Af)){l:List Ae}(hw:Le ⟨xs,[]⟩)(hs:YF l)(ho:∀c∈l,YG c) :
  Gd F ⟨xs,ys⟩ l=some (HO (Iz l) ⟨xs,ys⟩ l)∧Le ⟨(HO (Iz l) ⟨xs,ys⟩ l).2.fItems,[]⟩:=by
 have he:=OA (F:=F) (by omega) (ZV.of hs ho);have hl2:xs.length≤256:=hw.len;exact⟨Ur (q:=⟨xs,ys⟩) (by omega) he hs hw.it (by show xs.length≤100000;omega),(TI (ys:=ys) hF hw hs ho he).2⟩
theorem WO {l:List Ae}(h:Iz l=0):Kb l=([],3)∨(Kb l).2=0:=by
 unfold Kb QM;rw[h]
 cases decide (((l.map Eu).flatMap Ch).length≤262144) with
 | true=>exact .inr rfl
 | false=>exact .inl rfl
theorem R4 {l:List (List Ae)}(hlen:l.length≤30)(hsm:∀m∈l,YF m)(hok:∀m∈l,∀d∈m,YG d){x:Int}(h0:0≤x)(hx:x<(l.length:Int)){xs:List (Ag×Af)}(ys zs:List (Ag×Af))(hw:Le ⟨xs,[]⟩) :
  CQ 300000 l x xs zs xs ys=some (.out (.ret true))∨∃xs' ys' zs',CQ 300000 l x xs zs xs ys=some (.next (x+1,xs',zs',xs',ys'))∧Le ⟨xs',[]⟩:=by
 obtain⟨m,hm⟩:∃m,l[x.toNat]? =some m:=⟨l[x.toNat]'(by omega),Abs (by omega)⟩
 have hat:Ap l x=m:=by simp[Ap,hm]
 have hmm:m∈l:=Abv hm;have hs:=hsm m hmm;have ho:=hok m hmm;obtain⟨k1,k2⟩:=Th (F:=300000) (by decide) ys hw hs ho;obtain⟨k3,_⟩:=Th (F:=300000) (by decide) zs hw hs ho;have hck:=ZV.of hs ho;unfold CQ;rw[AA (Abm hx),Nv (by decide) hw,A8 rfl,AQ h0 hx,hat];dsimp only;rw[k1,A8 rfl]
 cases hd:decide ((HO (Iz m) ⟨xs,ys⟩ m).1=0) with
 | false=>
  have hf:=UH (q:=⟨xs,ys⟩) hw.it (λc hc=>(hs.all c hc).val) hd;generalize HO (Iz m) ⟨xs,ys⟩ m=t at hd hf k2;obtain⟨e,xs',ys'⟩:=t;dsimp only at hf hd k2 ⊢;subst hf;rw[AA (by rfl),Nv (by decide) hw,A8 rfl];dsimp only;rw[Qa (by decide) hw,A8 rfl,As (by rfl)];refine .inr ⟨xs',ys',zs,?_,hw⟩;unfold DD;rw[A6 (by omega) (by omega)]
 | true=>
  obtain⟨e0,e1,e2⟩:=UG (zs:=zs) hd;rw[e2] at k3;rw[As (by rfl),Nw (by decide) hck,A8 rfl];rcases WO e0 with he | he
  ·rw[he,AA (by rfl),JY];exact .inl rfl
  ·have hdc:=N8 he;have hel:=WN he;have hld:QK 300000 ⟨xs,zs⟩ (Kb m).1=some (HO (Iz m) ⟨xs,ys⟩ m):=by
    unfold QK JF;rw[A8 rfl,As (by rfl),RX (by decide) (by omega),A8 rfl,hdc,As (by rfl),k3,A8 rfl]
   rw[he,As (by rfl),As (by rfl),hld,A8 rfl];generalize HO (Iz m) ⟨xs,ys⟩ m=t at e1 k2;obtain⟨e,xs',ys'⟩:=t;dsimp only at e1 k2 ⊢;subst e1;rw[As (by rfl),Nv (by decide) k2,A8 rfl,A8 rfl];dsimp only;rw[Qa (by decide) k2,A8 rfl,As (by rfl),Yo,A8 rfl,A8 rfl];dsimp only;refine .inr ⟨xs',ys',ys',?_,k2⟩;unfold Db DD;rw[As (by simp),A6 (by omega) (by omega)]
theorem Ps {l:List (List Ae)}(hl:∀m∈l,∀d∈m,YG d):IF 300000 l=some true:=by
 obtain⟨b,hb,hs⟩:=Zz (F:=300000) (by decide) l;unfold IF;rw[hb,A8 rfl]
 cases b with
 | false=>rw[AA (by rfl),JY];rfl
 | true=>
  obtain⟨hlen,hsm⟩:=hs rfl;rw[As (by rfl)];unfold Um;rw[A8 rfl,A8 rfl];obtain⟨o,g1,g2⟩:=Ew (body:=λσ:Int×List (Ag×Af)×List (Ag×Af)×List (Ag×Af)×List (Ag×Af)=>CQ 300000 l σ.1 σ.2.1 σ.2.2.1 σ.2.2.2.1 σ.2.2.2.2) (λσ=>0≤σ.1∧σ.1≤(l.length:Int)∧σ.2.2.2.1=σ.2.1∧Le ⟨σ.2.1,[]⟩) (λσ=>l.length-σ.1.toNat)
   (λo=>o = .go ()∨o = .ret true) (λ⟨x,xs,zs,xs2,ys⟩ ⟨h0,hxl,hr,hw⟩=>by
    dsimp only at h0 hxl hr hw ⊢;subst hr
    by_cases hx:x<(l.length:Int)
    ·rcases R4 hlen hsm hl h0 hx ys zs hw with h | ⟨xs',ys',zs',h,hw'⟩
     ·exact .inr ⟨_,h,.inr rfl⟩
     ·exact .inl ⟨_,h,⟨by show 0≤x+1;omega,by show x+1≤_;omega,rfl,hw'⟩,by show l.length-(x+1).toNat<l.length-x.toNat;omega⟩
    ·exact .inr ⟨.go (),by unfold CQ;rw[As (Abj hx)],.inl rfl⟩) 300000 (0,[],[],[],[]) ⟨Ab4 0,by show(0:Int)≤_;omega,rfl,Le.start⟩ (by show l.length-0<300000;omega)
  rw[A8 g1];rcases g2 with rfl | rfl
  ·rw[Ox];unfold EU;rw[JY];rfl
  ·rfl
end Go.Proofs.YtjfnokmpfekniaaGreatDoor
namespace Go.Proofs.YtjfnokmpfekniaaGreatDoor.lawKvReplays
open Go
set_option linter.unusedVariables false
theorem okC {c:Ae}(h:RG c=true):YG c:=by
 unfold RG at h;simp only[Abp,AbE,Abh] at h;refine⟨If h.2,λx hx=>?_⟩;have:=h.1.2.1 x hx;unfold VJ at this;simp only[Abp] at this;exact⟨this.1.1.2,(If this.2).2⟩
theorem law:Law:=λl h1=>⟨300000,Ps (λm hm d hd=>by
 simp only[Abp,AbE,Abh] at h1;exact okC ((h1.1 m hm).1 d hd))⟩
end Go.Proofs.YtjfnokmpfekniaaGreatDoor.lawKvReplays
