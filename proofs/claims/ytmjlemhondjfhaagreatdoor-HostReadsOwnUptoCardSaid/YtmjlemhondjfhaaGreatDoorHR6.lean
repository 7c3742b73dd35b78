/-
  Texts of the proof, put together: LaJ, LaA0, LaK, LaM, PN, PlF, LaN, LwHReadsOwn.
-/
import Derived.Test.YtmjlemhondjfhaaGreatDoorHR5
import Derived.Lib.RowBridge
import Derived.Sort.Walk0
namespace Go.Proofs.YtmjlemhondjfhaaGreatDoor
open Go
set_option linter.unusedVariables false
set_option linter.unusedSimpArgs false
def opK (k:Int):Ae:=bif decide (k=1) then[112,117,116] else bif decide (k=2) then[100,101,108,101,116,101] else bif decide (k=3) then[115,101,110,100] else bif decide (k=4) then[116,105,109,101,114] else[115,105,103,110,97,108]
structure EOK (a:AR) (x:AE):Prop where
 v:Gw MB x.fValue
 k:x.fKey.length≤1048576
 p:x.fKind=1→ET x.fValue=0
 o:Qu a.fOps (opK x.fKind)=true
 d:(Aao a.fPolicy (opK x.fKind) (AbH a.fTenant (opK x.fKind) x.fKey)).fAllowed=true
theorem Gw.nil:Gw MB ([]:List Ab):=⟨by decide,by simp,λc hc=>by cases hc⟩
theorem Gw.null:Gw MB Ke:=Gw.one1 (by decide) (by decide) rfl
theorem KV:ET Ke=0:=by decide
theorem AaT {a:AR}{q:A7}{x:AE}(hq:PY q)(ha:Lg a q=0)(h:PJ q=some x):EOK a x:=by
 obtain⟨s,h1,h2,h3,_,h5,h6⟩:=KZ ha;have h6':=h6 (PI h);have hn:0<s.length:=OU h1 (.inl (PI h));have hk:(DT q).length≤1048576:=(hq.at (i:=0) (by omega)).str (by
  have:=K3 (h3 _ (by rw[BN (i:=0) (by omega)];exact List.getElem_mem (by omega)):ET (An q.fArgs ((0:Nat):Int))=0);exact this)
 have he:∀i:Nat,i<q.fArgs.length→ET (An q.fArgs (i:Int))=0:=λi hi=>h3 _ (by rw[BN hi];exact List.getElem_mem hi);unfold Aan at h6';unfold PJ at h
 by_cases e1:q.fOp=[112,117,116]
 ·rw[Aek e1,Aeq] at h;have hs:s=[88,0]:=by rw[e1] at h1;cases h1;rfl
  subst hs;have hl:q.fArgs.length=2:=h2
  cases h
  exact⟨hq.at (i:=1) (by omega),hk,λ_=>he 1 (by omega),by rw[e1] at h5;exact h5,by rw[e1] at h6';exact h6'⟩
 rw[Aej e1,Aem] at h
 by_cases e2:q.fOp=[100,101,108,101,116,101]
 ·rw[Aek e2,Aeq] at h
  cases h
  exact⟨Gw.nil,hk,λh=>absurd (show(2:Int)=1 from h) (by decide),by rw[e2] at h5;exact h5,by rw[e2] at h6';exact h6'⟩
 rw[Aej e2,Aem] at h
 by_cases e3:q.fOp=[115,101,110,100]
 ·rw[Aek e3,Aeq] at h;have hs:s=[89,0]:=by rw[e3] at h1;cases h1;rfl
  subst hs;have hl:q.fArgs.length=2:=h2
  cases h
  exact⟨hq.at (i:=1) (by omega),hk,λh=>absurd (show(3:Int)=1 from h) (by decide),by rw[e3] at h5;exact h5,by rw[e3] at h6';exact h6'⟩
 rw[Aej e3,Aem] at h
 by_cases e4:q.fOp=[116,105,109,101,114]
 ·rw[Aek e4,Aeq] at h;have hs:s=[89,90,0]:=by rw[e4] at h1;cases h1;rfl
  subst hs;have hl:q.fArgs.length=3:=h2
  cases h
  exact⟨hq.at (i:=2) (by omega),hk,λh=>absurd (show(4:Int)=1 from h) (by decide),by rw[e4] at h5;exact h5,by rw[e4] at h6';exact h6'⟩
 rw[Aej e4,Aem] at h
 by_cases e5:q.fOp=[115,105,103,110,97,108]
 ·rw[Aek e5,Aeq] at h;have hs:s=[88,91]:=by rw[e5] at h1;cases h1;rfl
  subst hs;have hl:q.fArgs.length=2:=h2
  cases h
  exact⟨hq.at (i:=1) (by omega),hk,λh=>absurd (show(5:Int)=1 from h) (by decide),by rw[e5] at h5;exact h5,by rw[e5] at h6';exact h6'⟩
 rw[Aej e5] at h
 cases h
structure CI (a:AR) (i:Nat) (g:Int) (o:Au):Prop where
 made:o.fMade=true
 ha:XK a
 now:Cb .i64 a.fNow=true
 acc:o.fA=a
 calls:o.fCalls=min (i:Int) 32
 effs:(o.fEffects.length:Int)≤g
 good:0≤g∧g≤i
 ef:∀x∈o.fEffects,EOK a x
 it:∀k,Gw MB (E9 o.fItems k ([]:List Ab))∧(DL o.fItems k=true→ET (E9 o.fItems k ([]:List Ab))=0)
 rds:o.fReads.length≤i
 lgs:o.fLog.length≤i
theorem CI.ho {a:AR}{i:Nat}{g:Int}{o:Au}(h:CI a i g o)(hi:i≤60):HoA o:=by
 have h1:=h.effs;have h2:=h.good;have h3:=h.rds;have h4:=h.lgs;have h5:=h.calls;exact⟨h.made,by rw[h.acc];exact h.ha,by rw[h.acc];exact h.now,by omega,by omega,λx hx=>(h.ef x hx).v.hv,by omega,by omega,λk=>(h.it k).1.hv⟩
theorem VZ {a:AR}{i:Nat}{g:Int}{o:Au}(h:CI a i g o)(k:Ae):Gw MB (Io o k)∧ET (Io o k)=0:=by
 unfold Io Km
 cases hf:o.fEffects.reverse.find? (G1 k) with
 | some x=>
  have hx:x∈o.fEffects:=by have:=List.mem_of_find?_eq_some hf;simpa using this
  have he:=h.ef x hx;simp only
  cases hd:decide (x.fKind=1) with
  | true=>exact⟨he.v,he.p (AeL hd)⟩
  | false=>exact⟨Gw.null,KV⟩
 | none=>
  simp only
  cases hm:DL o.fItems k with
  | true=>exact⟨(h.it k).1,(h.it k).2 hm⟩
  | false=>exact⟨Gw.null,KV⟩
theorem CI.upd {a:AR}{i:Nat}{g g':Int}{o o':Au}(h:CI a i g o)(hg:g≤g'∧g'≤g+1)(h1:o'.fMade=true)(h2:o'.fA=o.fA)(h3:o'.fItems=o.fItems)(h4:o'.fCalls=min ((i+1:Nat):Int) 32)(h5:(o'.fEffects.length:Int)≤g')(h6:∀x∈o'.fEffects,EOK a x)(h7:o'.fReads.length≤i+1)(h8:o'.fLog.length≤i+1):CI a (i+1) g' o':=by
 have hg0:=h.good;exact⟨h1,h.ha,h.now,by rw[h2,h.acc],h4,h5,by omega,h6,λk=>by rw[h3];exact h.it k,h7,h8⟩
def ZE (a:AR)(i:Nat)(g:Int)(o:Au)(q:A7)(r:B9×Au):Prop:=
 (r.1.fErr=0→Gw MB r.1.fValue∧ET r.1.fValue=0∧CI a (i+1) (g+1) r.2)∧(r.1.fErr≠0→r.1.fValue=[]∧r.2.fEffects=o.fEffects∧r.2.fReads=o.fReads∧CI a (i+1) g r.2)∧(32≤i→r.1.fErr=3)∧(i<32→Lg a q≠0→r.1.fErr=Lg a q)
theorem HT {a:AR}{i:Nat}{g:Int}{o o':Au}{q:A7}{v:List Ab}(hi:i<32)(ha:Lg a q=0)(h1:Gw MB v)(h2:ET v=0)(h3:CI a (i+1) (g+1) o'):ZE a i g o q (⟨0,v⟩,o'):=
 ⟨λ_=>⟨h1,h2,h3⟩,λh=>absurd rfl h,λh=>absurd h (by omega),λ_ h=>absurd ha h⟩
theorem CI.step {a:AR}{i:Nat}{g:Int}{o:Au}(h:CI a i g o){q:A7}(hq:PY q){rd:Ae→Ae→Ae×Int×Int}(hr:∀n f,(rd n f).1.length≤1048576)(rx:Ae→Ae):ZE a i g o q (Ue rd rx o q):=by
 have hc:=h.calls;have he:=h.effs;have hg:=h.good;have hrl:=h.rds;have hll:=h.lgs;obtain rfl:=h.acc;unfold Ue
 by_cases hb:32≤i
 ·rw[Aek (show(32:Int)≤o.fCalls by omega),Aeq];exact⟨λhz=>absurd (show(3:Int)=0 from hz) (by decide),λ_=>⟨rfl,rfl,rfl,h.upd ⟨AeG _,by omega⟩ h.made rfl rfl (by show o.fCalls=_;omega) he h.ef (by show o.fReads.length≤_;omega) (by show o.fLog.length≤_;omega)⟩,λ_=>rfl,λhx=>absurd hx (by omega)⟩
 ·rw[Aej (show ¬ (32:Int)≤o.fCalls by omega),Aem];have hc1:o.fCalls+1=min ((i+1:Nat):Int) 32:=by omega
  have same:CI o.fA (i+1) g { o with fCalls:=o.fCalls+1 }:=h.upd ⟨AeG _,by omega⟩ h.made rfl rfl hc1 he h.ef (by show o.fReads.length≤_;omega) (by show o.fLog.length≤_;omega);have more:CI o.fA (i+1) (g+1) { o with fCalls:=o.fCalls+1 }:=h.upd ⟨by omega,AeG _⟩ h.made rfl rfl hc1 (by show(o.fEffects.length:Int)≤_;omega) h.ef (by show o.fReads.length≤_;omega) (by show o.fLog.length≤_;omega);have res:∀v:List Ab,Gw MB v→Lg o.fA q=0→ZE o.fA i g o q (SQ v,{ o with fCalls:=o.fCalls+1 }):=λv hv ha=>by
   unfold SQ
   by_cases hz:ET v=0
   ·rw[Aek hz,Aeq];exact HT (by omega) ha hv hz more
   ·rw[Aej hz,Aem];exact⟨λh0=>absurd h0 hz,λ_=>⟨rfl,rfl,rfl,same⟩,λhx=>absurd hx (by omega),λ_ hx=>absurd ha hx⟩
  by_cases ha:Lg o.fA q=0
  ·rw[Aek ha,Aeo,Aem]
   cases hef:PJ q with
   | some x=>
    have hx:=AaT hq ha hef;refine HT (by omega) ha Gw.null KV (h.upd ⟨by omega,AeG _⟩ h.made rfl rfl hc1 ?_ ?_ (by show o.fReads.length≤_;omega) (by show o.fLog.length≤_;omega))
    ·show((o.fEffects++[x]).length:Int)≤g+1;simp only[Aes,AeA];omega
    ·intro y hy;rcases List.mem_append.1 (show y∈o.fEffects++[x] from hy) with hy | hy
     ·exact h.ef y hy
     ·rw[List.mem_singleton.1 hy];exact hx
   | none=>
    simp only
    cases decide (q.fOp=[103,101,116]) with
    | true=>
     obtain⟨g1,g2⟩:=VZ h (DT q);refine HT (by omega) ha g1 g2 ?_;unfold Qv
     cases Km ({ o with fCalls:=o.fCalls+1 }:Au).fEffects (DT q) with
     | some _=>exact more
     | none=>
      refine h.upd ⟨by omega,AeG _⟩ h.made rfl rfl hc1 (by show(o.fEffects.length:Int)≤_;omega) h.ef ?_ (by show o.fLog.length≤_;omega);show(o.fReads++[DT q]).length≤i+1;simp only[Aes,AeA];omega
    | false=>
     cases decide (q.fOp=[115,101,99,114,101,116]) with
     | true=>
      by_cases hz:(rd (DT q) o.fA.fFunction).2.2=0
      ·rw[Aek hz];exact res _ (Gw.one1 (hr _ _) (show Cb .i64 0=true from by decide) rfl) ha
      ·rw[Aej hz];exact⟨λh0=>absurd h0 hz,λ_=>⟨rfl,rfl,rfl,same⟩,λhx=>absurd hx (by omega),λ_ hx=>absurd ha hx⟩
     | false=>
      cases hf:decide (q.fOp=[102,101,116,99,104]) with
      | true=>
       obtain⟨s,h1,h2,h3,_⟩:=KZ ha;have hs:s=[92,0]:=by rw[AeL hf] at h1;cases h1;rfl
       subst hs;have hl1:q.fArgs.length=2:=h2;exact HT (by omega) ha (hq.at (i:=1) (by omega)) (h3 _ (by rw[show(1:Int)=((1:Nat):Int) from rfl,BN (by omega)];exact List.getElem_mem _)) more
      | false=>
       cases decide (q.fOp=[110,111,119]) with
       | true=>exact res _ (Gw.one1 (by simp) h.now rfl) ha
       | false=>
        refine HT (by omega) ha Gw.null KV (h.upd ⟨by omega,AeG _⟩ h.made rfl rfl hc1 (by show(o.fEffects.length:Int)≤_;omega) h.ef (by show o.fReads.length≤_;omega) ?_);show(o.fLog++[rx (TO (An q.fArgs 0)).1]).length≤i+1;simp only[Aes,AeA];omega
  ·rw[Aej ha,Aev,Aeq];exact⟨λh0=>absurd h0 ha,λ_=>⟨rfl,rfl,rfl,same⟩,λhx=>absurd hx (by omega),λ_ _=>rfl⟩
theorem Zc {l:List Bt}:∀p∈LL l,∃x∈l,p.2=x.fValue:=by
 have key:∀(l:List Bt) (m:List (Ae×List Ab)) (P:List Ab→Prop),(∀p∈m,P p.2)→(∀x∈l,P x.fValue)→∀p∈l.foldl (λm x=>mset m x.fKey x.fValue) m,P p.2:=by
  intro l
  induction l with
  | nil=>intro m P hm _ p hp;exact hm p hp
  | cons y l ih=>
   intro m P hm hl p hp;refine ih (mset m y.fKey y.fValue) P (λp hp=>?_) (λx hx=>hl x (List.mem_cons_of_mem _ hx)) p hp;rcases Tl hp with hp | hp
   ·exact hm p hp
   ·rw[hp];exact hl y (by simp)
 exact key l [] (λv=>∃x∈l,v=x.fValue) (by simp) (λx hx=>⟨x,hx,rfl⟩)
theorem Aa4 {T:Type}{xs:List (Ae×T)}{k:Ae}{z:T}(h:DL xs k=false):E9 xs k z=z:=by
 unfold DL at h;unfold E9
 cases hg:CA xs k with
 | none=>rfl
 | some v=>rw[hg] at h;cases h
theorem CI.new {a:AR}{l:List Bt}(ha:XK a)(hn:Cb .i64 a.fNow=true)(hl:ItA l)(h:RB a l=0):CI a 0 0 (Dl a l):=by
 obtain⟨_,h⟩:=Ja h;have hz:∀x∈l,ET x.fValue=0:=by
  unfold P9 at h
  cases hb:decide (256<(l.length:Int)) with
  | true=>rw[hb] at h;exact absurd (show(3:Int)=0 from h) (by decide)
  | false=>
   rw[hb,Aem] at h;intro x hx;obtain⟨i,hi,rfl⟩:=List.getElem_of_mem hx;have:=N2 h i (AeO _) (by omega);unfold UE at this
   cases hk:LV (An l (i:Int)).fKey with
   | false=>rw[hk] at this;exact absurd (show(4:Int)=0 from this) (by decide)
   | true=>
    rw[hk,Aeo,Aem] at this;have:=(Ja this).1
    rwa [BN hi] at this
 refine⟨rfl,ha,hn,rfl,(by show(0:Int)=min ((0:Nat):Int) 32;decide),by simp[Dl],by simp,by simp[Dl],λk=>?_,by simp[Dl],by simp[Dl]⟩;show Gw MB (E9 (LL l) k [])∧(DL (LL l) k=true→ET (E9 (LL l) k [])=0)
 cases hm:DL (LL l) k with
 | false=>rw[Aa4 hm];exact⟨Gw.nil,λh=>by cases h⟩
 | true=>
  obtain⟨k',hk⟩:=Tk (z:=([]:List Ab)) hm;obtain⟨x,hx,e⟩:=Zc _ hk;have e':E9 (LL l) k []=x.fValue:=e;rw[e'];exact⟨hl.v x hx,λ_=>hz x hx⟩
set_option maxRecDepth 100000 in
theorem Eb:Bz 5000000=some true:=by decide +kernel
theorem Zg {l:List Ae}(hl:l.length≤2000000)(s:Ae):PE FB l s=some (Qu l s):=by
 unfold PE Ku Qu;rw[Ic (l:=l) (p:=λy=>decide (y=s)) (ret:=λ_=>true) (u:=()) (body:=Ij l s) (by show l.length<5000000;omega) (λi h=>by
  unfold Ij;rw[Bx (Aek (by omega)),Bi (by omega) (by omega),BN h,Bn (by omega) (by omega)]) (by unfold Ij;rw[Bp (Aej (by omega))]),AX]
 have e:(λy=>decide (s=y))=λy:Ae=>decide (y=s):=by funext y;exact decide_eq_decide.2 eq_comm
 rw[e,← ED];unfold T4
 cases l.findIdx? λy=>decide (y=s) with
 | none=>rfl
 | some j=>show some true=_;rw[Aek (Int.natCast_nonneg j)]
theorem Xz {o:Au}(h:o.fReads.length≤2000000):Ik o=some (Ew o.fReads):=by
 unfold Ik;rw[C0 (show D2 16 _=true from Aek (by omega))]
structure XH (x:Bv):Prop where
 a:XK x.fA
 now:Cb .i64 x.fA.fNow=true
 it:ItA x.fItems
 se:∀s∈x.fSecrets,SeA s
 q:∀q∈x.fL,PY q
def AcN (y:Ci):Bool:=G9 y.fName&&G9 y.fText&&G9 y.fFunction
def AcM (y:Bv):Bool:=AbO y.fA&&(λys:(List Bt)=>ys.all AbN&&decide (ys.length≤1048576)) y.fItems&&(λys:(List Ci)=>ys.all AcN&&decide (ys.length≤1048576)) y.fSecrets&&(λ_=>true) y.fNone&&(λys:(List A7)=>ys.all AbM&&decide (ys.length≤1048576)) y.fL
theorem XH.ofB {x:Bv}(h:AcM x=true):XH x:=by
 unfold AcM at h;rw[Ael,Ael,Ael,Ael] at h;obtain⟨⟨⟨⟨h1,h2⟩,h3⟩,_⟩,h5⟩:=h;have h3':=h3;rw[Ael] at h3';have h5':=h5;rw[Ael] at h5';refine⟨(XK.ofB h1).1,(XK.ofB h1).2,ItA.ofB h2,λs hs=>?_,λq hq=>PY.ofB (List.all_eq_true.1 h5'.1 q hq)⟩;have:=List.all_eq_true.1 h3'.1 s hs;unfold AcN at this;rw[Ael,Ael] at this;exact⟨by have:=HY this.1.1;omega,HY this.1.2,by have:=HY this.2;omega⟩
theorem OY:∀a:Ae,Cz a a=false
 | []=>rfl
 | x::a=>by
  show Op.bytesLess (x::a) (x::a)=false;have h : ¬ x<x:=λh=>absurd h (by simp);have ih:Op.bytesLess a a=false:=OY a;simp[Op.bytesLess,h,ih]
theorem Ru (x y:UInt8)(a b:Ae):Cz (x::a) (y::b)=(decide (x<y)||(decide (x=y)&&Cz a b)):=by
 show Op.bytesLess (x::a) (y::b)=_;simp only[Op.bytesLess]
 by_cases h:x<y
 ·simp[h]
 ·by_cases e:x=y
  ·subst e;simp[h]
  ·have:y<x:=by
    rcases Nat.lt_trichotomy x.toNat y.toNat with h1 | h1 | h1
    ·exact absurd (UInt8.lt_iff_toNat_lt.2 h1) h
    ·exact absurd (UInt8.toNat_inj.1 h1) e
    ·exact UInt8.lt_iff_toNat_lt.2 h1
   simp[h,e,this]
theorem Mp:∀{a b c:Ae},Cz a b=true→Cz b c=true→Cz a c=true
 | [],[],_,h,_=>by cases h
 | [],_::_,[],_,h=>by cases h
 | [],_::_,_::_,_,_=>rfl
 | _::_,[],_,h,_=>by cases h
 | _::_,_::_,[],_,h=>by cases h
 | x::a,y::b,z::c,h,h'=>by
  rw[Ru] at h h' ⊢;simp only[AeH,Aeh,Ael] at h h' ⊢;have t:∀{u v:UInt8},u<v↔u.toNat<v.toNat:=UInt8.lt_iff_toNat_lt;rcases h with h | ⟨rfl,h⟩
  ·rcases h' with h' | ⟨rfl,h'⟩
   ·exact .inl (t.2 (Nat.lt_trans (t.1 h) (t.1 h')))
   ·exact .inl h
  ·rcases h' with h' | ⟨rfl,h'⟩
   ·exact .inl h'
   ·exact .inr ⟨rfl,Mp h h'⟩
theorem OX:∀(a b:Ae),Cz a b=true∨a=b∨Cz b a=true
 | [],[]=>.inr (.inl rfl)
 | [],_::_=>.inl rfl
 | _::_,[]=>.inr (.inr rfl)
 | x::a,y::b=>by
  rw[Ru,Ru];simp only[AeH,Aeh,Ael];rcases Nat.lt_trichotomy x.toNat y.toNat with h1 | h1 | h1
  ·exact .inl (.inl (UInt8.lt_iff_toNat_lt.2 h1))
  ·have e:=UInt8.toNat_inj.1 h1;subst e;rcases OX a b with h | rfl | h
   ·exact .inl (.inr ⟨rfl,h⟩)
   ·exact .inr (.inl rfl)
   ·exact .inr (.inr (.inr ⟨rfl,h⟩))
  ·exact .inr (.inr (.inl (UInt8.lt_iff_toNat_lt.2 h1)))
theorem Yp {a b:Ae}(h:Cz a b=true):a≠b:=λe=>by subst e;rw[OY] at h;cases h
section
variable {T : Type}
def Ms (xs:List (Ae×T)):Prop:=xs.Pairwise λp q=>Cz p.1 q.1=true
theorem Ms.nil:Ms ([]:List (Ae×T)):=List.Pairwise.nil
theorem Ms.nodup {xs:List (Ae×T)}(h:Ms xs):(xs.map (·.1)).Nodup:=by
 rw[List.Nodup,List.pairwise_map];exact h.imp λhpq=>Yp hpq
theorem MA {xs:List (Ae×T)}{k:Ae}:CA xs k=none↔∀p∈xs,p.1≠k:=by
 induction xs with
 | nil=>simp[CA]
 | cons p r ih=>
  rw[CA]
  by_cases h:p.1=k
  ·rw[Aek h];simp[h]
  ·rw[Aej h];simp[h,ih]
theorem Lv {xs:List (Ae×T)}{k:Ae}{v:T}(h:CA xs k=some v):(k,v)∈xs:=by
 induction xs with
 | nil=>cases h
 | cons p r ih=>
  rw[CA] at h
  by_cases e:p.1=k
  ·rw[Aek e] at h;cases h;subst e;exact List.mem_cons_self ..
  ·rw[Aej e] at h;exact List.mem_cons_of_mem _ (ih h)
theorem Xo (xs:List (Ae×T))(k k':Ae)(v:T):CA (mput xs k v) k'=bif decide (k'=k) then(CA xs k).map (λ_=>v) else CA xs k':=by
 induction xs with
 | nil=>cases decide (k'=k)<;>rfl
 | cons p r ih=>
  show CA ((bif decide (p.1=k) then(k,v) else p)::mput r k v) k'=_
  by_cases h:p.1=k
  ·rw[Aek h];simp only[Aeq,CA]
   by_cases e:k'=k
   ·subst e;rw[Aek rfl,h,Aek rfl];rfl
   ·rw[Aej (Ne.symm e),Aej e,ih,Aej e,h,Aej (Ne.symm e)];rfl
  ·rw[Aej h];simp only[Aem,CA];rw[ih]
   by_cases e:k'=k
   ·subst e;rw[Aek rfl,Aej h];rfl
   ·rw[Aej e]
    cases decide (p.1=k')<;>rfl
theorem Xp (xs:List (Ae×T))(k k':Ae)(v:T)(h:CA xs k=none):CA (mins k v xs) k'=bif decide (k'=k) then some v else CA xs k':=by
 induction xs with
 | nil=>
  show(bif decide (k=k') then some v else none)=bif decide (k'=k) then some v else none
  by_cases e:k'=k
  ·rw[Aek e,Aek e.symm]
  ·rw[Aej e,Aej (Ne.symm e)]
 | cons p r ih=>
  rw[CA] at h
  by_cases hk:p.1=k
  ·rw[Aek hk] at h;cases h
  ·rw[Aej hk] at h;rw[mins]
   cases Cz k p.1 with
   | true=>
    simp only[Aeq,CA]
    by_cases e:k'=k
    ·subst e;rw[Aek rfl]
     try rfl
    ·rw[Aej e,Aej (Ne.symm e)]
     try rfl
   | false=>
    simp only[Aem,CA];rw[ih h]
    by_cases e:k'=k
    ·subst e;rw[Aek rfl,Aej hk];rfl
    ·rw[Aej e]
     cases decide (p.1=k')<;>rfl
theorem Xn (xs:List (Ae×T))(k k':Ae)(v:T):CA (mset xs k v) k'=bif decide (k'=k) then some v else CA xs k':=by
 unfold mset DL
 cases h:CA xs k with
 | none=>exact Xp xs k k' v h
 | some w=>
  simp only[Option.isSome_some,Aeq];rw[Xo,h]
  cases decide (k'=k)<;>rfl
theorem Tp {k:Ae}{v:T}{q:Ae×T}:∀{xs:List (Ae×T)},q∈mins k v xs→q=(k,v)∨q∈xs
 | [],h=>by simp[mins] at h;exact .inl h
 | p::r,h=>by
  rw[mins] at h
  cases hs:Cz k p.1 with
  | true=>rw[hs] at h;simpa using h
  | false=>
   rw[hs] at h;rcases List.mem_cons.1 h with h | h
   ·exact .inr (by rw[h];exact List.mem_cons_self ..)
   ·rcases Tp h with h | h
    ·exact .inl h
    ·exact .inr (List.mem_cons_of_mem _ h)
theorem Ms.mins {k:Ae}{v:T}:∀{xs:List (Ae×T)},Ms xs→CA xs k=none→Ms (mins k v xs)
 | [],_,_=>List.pairwise_singleton ..
 | p::r,h,hk=>by
  obtain⟨h1,h2⟩:=List.pairwise_cons.1 h;rw[CA] at hk
  by_cases e:p.1=k
  ·rw[Aek e] at hk;cases hk
  ·rw[Aej e] at hk;rw[Proofs.YtmjlemhondjfhaaGreatDoor.mins]
   cases hs:Cz k p.1 with
   | true=>exact List.pairwise_cons.2 ⟨λq hq=>by
     rcases List.mem_cons.1 hq with rfl | hq
     ·exact hs
     ·exact Mp hs (h1 q hq),h⟩
   | false=>
    have hp:Cz p.1 k=true:=by
     rcases OX p.1 k with h | h | h
     ·exact h
     ·exact absurd h e
     ·rw[h] at hs;cases hs
    exact List.pairwise_cons.2 ⟨λq hq=>by
     rcases Tp hq with rfl | hq
     ·exact hp
     ·exact h1 q hq,Ms.mins h2 hk⟩
theorem Ms.mput {xs:List (Ae×T)}(h:Ms xs)(k:Ae)(v:T):Ms (mput xs k v):=by
 unfold Proofs.YtmjlemhondjfhaaGreatDoor.mput;unfold Ms;rw[List.pairwise_map];refine h.imp fun {p q} hpq=>?_;have e:∀p:Ae×T,(bif decide (p.1=k) then(k,v) else p).1=p.1:=λp=>by
  by_cases hp:p.1=k
  ·rw[Aek hp];exact hp.symm
  ·rw[Aej hp];rfl
 rw[e,e];exact hpq
theorem Ms.mset {xs:List (Ae×T)}(h:Ms xs)(k:Ae)(v:T):Ms (mset xs k v):=by
 unfold Proofs.YtmjlemhondjfhaaGreatDoor.mset DL
 cases hk:CA xs k with
 | none=>exact h.mins hk
 | some w=>exact h.mput k v
theorem Ms.ext:∀{xs ys:List (Ae×T)},Ms xs→Ms ys→(∀k,CA xs k=CA ys k)→xs=ys
 | [],[],_,_,_=>rfl
 | [],q::s,_,_,h=>by
  have:=h q.1;rw[CA,CA,Aek rfl] at this;cases this
 | p::r,[],_,_,h=>by
  have:=h p.1;rw[CA,CA,Aek rfl] at this;cases this
 | p::r,q::s,hx,hy,h=>by
  obtain⟨x1,x2⟩:=List.pairwise_cons.1 hx;obtain⟨y1,y2⟩:=List.pairwise_cons.1 hy;have hpq:p.1=q.1:=by
   have a1:=h p.1;have a2:=h q.1;rw[CA,Aek rfl] at a1;rw[show CA (q::s) q.1=bif decide (q.1=q.1) then some q.2 else CA s q.1 from rfl,Aek rfl] at a2;simp only[Aeq] at a1 a2;have m1:=Lv a1.symm;have m2:=Lv a2;rcases List.mem_cons.1 m1 with e | m1
   ·exact congrArg Prod.fst e
   ·rcases List.mem_cons.1 m2 with e | m2
    ·exact(congrArg Prod.fst e).symm
    ·have c1:=y1 _ m1;have c2:=x1 _ m2;have:=Mp c1 c2;rw[OY] at this;cases this
  have e:p=q:=by
   have a1:=h p.1;rw[CA,Aek rfl,CA,Aek hpq.symm] at a1;simp only[Aeq,Option.some.injEq] at a1;exact Prod.ext hpq a1
  subst e;rw[Ms.ext x2 y2 λk=>by
   have a1:=h k;rw[CA,CA] at a1
   by_cases e:p.1=k
   ·have n1:CA r k=none:=MA.2 λz hz e'=>by have:=x1 z hz;rw[e',← e,OY] at this;cases this
    have n2:CA s k=none:=MA.2 λz hz e'=>by have:=y1 z hz;rw[e',← e,OY] at this;cases this
    rw[n1,n2]
   ·rw[Aej e] at a1;exact a1]
end
theorem WJ {a b c:Ae}(h:a<b)(h2:b<c):a<c:=List.lt_trans h h2
theorem Vr (a b:Ae):a<b∨a=b∨b<a:=by
 by_cases h:a<b
 ·exact .inl h
 ·by_cases h2:b<a
  ·exact .inr (.inr h2)
  ·have e1:a≤b:=h2;have e2:b≤a:=h;exact .inr (.inl (List.le_antisymm e1 e2))
theorem WN {a b c:Ae}(h:a≤b)(h2:b<c):a<c:=by
 rcases Vr a b with e | e | e
 ·exact WJ e h2
 ·rw[e];exact h2
 ·exact absurd e h
theorem WM {a b:Ae}(h:a≤b)(h2:a≠b):a<b:=by
 rcases Vr a b with e | e | e
 ·exact e
 ·exact absurd e h2
 ·exact absurd e h
theorem L2 (zs:List Ae)(hs:zs.Pairwise (·≤·)):∀k,k≤zs.length→(Lib.compactUpTo zs.toArray k).Pairwise (· < ·)∧(∀x,x∈Lib.compactUpTo zs.toArray k↔x∈zs.take k)
 | 0,_=>by simp[Lib.compactUpTo]
 | k+1,hk=>by
  obtain⟨h1,h2⟩:=L2 zs hs k (by omega);have hkl:k<zs.length:=by omega
  have hz:zs.toArray[k]! =zs[k]:=by simp[hkl]
  have ht:zs.take (k+1)=zs.take k++[zs[k]]:=by rw[List.take_add_one,Aep hkl];rfl
  have hsi:=List.pairwise_iff_getElem.1 hs;rw[Lib.compactUpTo_succ,ht]
  by_cases hkp:Lib.keeps zs.toArray k=true
  ·rw[AeW hkp,hz];refine⟨List.pairwise_append.2 ⟨h1,by simp,λx hx y hy=>?_⟩,λx=>by rw[List.mem_append,List.mem_append,h2]⟩;simp only[Ae8] at hy;subst hy;obtain⟨i,hi,rfl⟩:=List.getElem_of_mem ((h2 x).1 hx);have hik:i<k:=by simp at hi;omega
   rw[List.getElem_take];simp only[Lib.keeps,Aeh,hz] at hkp;have hz1:zs.toArray[k-1]! =zs[k-1]'(by omega):=by simp[show k-1<zs.length by omega]
   rw[hz1] at hkp;have hne:zs[k]≠zs[k-1]'(by omega):=hkp.resolve_left (by omega);have hlt:zs[k-1]'(by omega)<zs[k]:=WM (hsi (k-1) k (by omega) hkl (by omega)) (λe=>hne e.symm)
   by_cases he:i=k-1
   ·subst he;exact hlt
   ·exact WN (hsi i (k-1) (by omega) (by omega) (by omega)) hlt
  ·rw[AeR hkp];refine⟨by simpa using h1,λx=>?_⟩;simp only[Lib.keeps,Aeh,hz,not_or,Decidable.not_not] at hkp;have hz1:zs.toArray[k-1]! =zs[k-1]'(by omega):=by simp[show k-1<zs.length by omega]
   rw[hz1] at hkp;rw[List.append_nil,List.mem_append,h2,Ae8];constructor
   ·exact .inl
   ·rintro(h | rfl)
    ·exact h
    ·rw[hkp.2];have:(zs.take k)[k-1]'(by simp;omega)=zs[k-1]'(by omega):=List.getElem_take;rw[← this];exact List.getElem_mem _
theorem Ql (ss:List Ae):(Ew ss).Pairwise (· < ·)∧∀x,x∈Ew ss↔x∈ss:=by
 have hs:(ss.mergeSort λx y=>decide (x≤y)).Pairwise (·≤·):=by
  have:=List.pairwise_mergeSort (le:=λ(x y:Ae)=>decide (x≤y)) (λa b c h1 h2=>by
   simp only[Aeh] at *;exact List.le_trans h1 h2) (λa b=>by
   simp only[AeH,Aeh];exact List.le_total a b) ss
  exact this.imp (λh=>by simpa using h)
 have h:=L2 _ hs _ (Ae9 _);unfold Ew Lib.compact;refine⟨h.1,λx=>?_⟩;rw[h.2,List.take_length,List.mem_mergeSort]
theorem QS (k:Ae):∀(l:List Bt) (m:List (Ae×List Ab)),CA (l.foldl (λm x=>mset m x.fKey x.fValue) m) k=match l.reverse.find? (λx=>decide (x.fKey=k)) with
  | some x=>some x.fValue
  | none=>CA m k
 | [],m=>rfl
 | x::l,m=>by
  rw[List.foldl_cons,QS k l,List.reverse_cons,List.find?_append,Xn]
  cases hf:l.reverse.find? (λx=>decide (x.fKey=k)) with
  | some y=>rfl
  | none=>
   simp only[Option.none_or,List.find?_cons,List.find?_nil];have e:decide (k=x.fKey)=decide (x.fKey=k):=decide_eq_decide.2 eq_comm;rw[e]
   cases decide (x.fKey=k)<;>rfl
theorem VS {l:List Bt}(h:P9 l=0):∀(j i:Nat) (hj:j<l.length) (hi:i<j),Cz (l[i]'(by omega)).fKey l[j].fKey=true:=by
 have hz:∀i:Nat,i<l.length→UE l i=0:=by
  unfold P9 at h
  cases hb:decide (256<(l.length:Int)) with
  | true=>rw[hb] at h;exact absurd (show(3:Int)=0 from h) (by decide)
  | false=>rw[hb,Aem] at h;exact λi hi=>N2 h i (AeO _) (by omega)
 have step:∀(i:Nat) (hi:i+1<l.length),Cz (l[i]'(by omega)).fKey l[i+1].fKey=true:=by
  intro i hi;have:=hz (i+1) hi;unfold UE at this
  cases hk:LV (An l ((i+1:Nat):Int)).fKey with
  | false=>rw[hk] at this;exact absurd (show(4:Int)=0 from this) (by decide)
  | true=>
   rw[hk,Aeo,Aem] at this;have:=(Ja this).2
   cases hv:decide ((An l ((i+1:Nat):Int)).fVersion<1) with
   | true=>rw[hv] at this;exact absurd (show(2:Int)=0 from this) (by decide)
   | false=>
    rw[hv,Aem,Aek (show(0:Int)<((i+1:Nat):Int) by omega),Aex,show(((i+1:Nat):Int)-1)=(i:Int) from by omega,BN hi,BN (show i<l.length by omega)] at this
    cases hs:(Cz l[i+1].fKey (l[i]'(by omega)).fKey||decide (l[i+1].fKey=(l[i]'(by omega)).fKey)) with
    | true=>rw[hs] at this;exact absurd (show(11:Int)=0 from this) (by decide)
    | false=>
     simp only[AeN,Aei] at hs;rcases OX (l[i]'(by omega)).fKey l[i+1].fKey with e | e | e
     ·exact e
     ·exact absurd e.symm hs.2
     ·rw[e] at hs;exact absurd hs.1 (by decide)
 intro j
 induction j with
 | zero=>intro i _ hi;omega
 | succ j ih=>
  intro i hj hi
  by_cases hij:i=j
  ·subst hij;exact step i hj
  ·exact Mp (ih i (by omega) (by omega)) (step j hj)
theorem Za {l:List Bt}(h:P9 l=0){x y:Bt}(hx:x∈l)(hy:y∈l)(e:x.fKey=y.fKey):x=y:=by
 obtain⟨i,hi,rfl⟩:=List.getElem_of_mem hx;obtain⟨j,hj,rfl⟩:=List.getElem_of_mem hy;rcases Nat.lt_trichotomy i j with hij | hij | hij
 ·exact absurd e (Yp (VS h j i hj hij))
 ·subst hij;rfl
 ·exact absurd e.symm (Yp (VS h i j hi hij))
theorem Tn {l:List Bt}(k:Ae):CA (LL l) k=(l.reverse.find? (λx=>decide (x.fKey=k))).map (·.fValue):=by
 unfold LL;rw[QS]
 cases l.reverse.find? (λx=>decide (x.fKey=k))<;>rfl
theorem YL {l:List Bt}(h:P9 l=0){x:Bt}(hx:x∈l):DL (LL l) x.fKey=true∧E9 (LL l) x.fKey []=x.fValue:=by
 unfold DL E9;rw[Tn]
 cases hf:l.reverse.find? (λy=>decide (y.fKey=x.fKey)) with
 | none=>
  have:=List.find?_eq_none.1 hf x (by simpa using hx);simp at this
 | some y=>
  have hy:y∈l:=by have:=List.mem_of_find?_eq_some hf;simpa using this
  have e:y.fKey=x.fKey:=by have:=List.find?_some hf;simpa using this
  have:=Za h hy hx e;subst this;exact⟨rfl,rfl⟩
theorem Aa6 {l:List Bt}{k:Ae}(h:∀x∈l,x.fKey≠k):DL (LL l) k=false:=by
 unfold DL;rw[Tn];have:l.reverse.find? (λy=>decide (y.fKey=k))=none:=List.find?_eq_none.2 λx hx=>by simpa using h x (by simpa using hx)
 rw[this];rfl
theorem QI {R:Type}(key:Ae):∀(l:List AE) (i:Nat) (acc:Int),∃r:Int,Oj (R:=R) (λi acc x=>.go (bif G1 key x then(i:Int) else acc)) i acc l = .go r∧((l.reverse.find? (G1 key)=none∧r=acc)∨∃ (j:Nat) (hj:j<l.length),r=((i+j:Nat):Int)∧l.reverse.find? (G1 key)=some l[j])
 | [],i,acc=>⟨acc,rfl,.inl ⟨rfl,rfl⟩⟩
 | x::l,i,acc=>by
  obtain⟨r,h1,h2⟩:=QI (R:=R) key l (i+1) (bif G1 key x then(i:Int) else acc);refine⟨r,h1,?_⟩;rw[List.reverse_cons,List.find?_append];rcases h2 with⟨h2,h3⟩ | ⟨j,hj,h2,h3⟩
  ·rw[h2]
   cases hp:G1 key x with
   | true=>
    rw[hp] at h3;exact .inr ⟨0,by simp,by rw[h3];rfl,by simp[hp]⟩
   | false=>
    rw[hp] at h3;exact .inl ⟨by simp[hp],h3⟩
  ·rw[h3];exact .inr ⟨j+1,by simp;omega,by rw[h2];congr 1;omega,by simp⟩
theorem Xt {l:List AE}(hl:l.length≤2000000)(key:Ae):∃r:Int,Cl (λσ:Int×Int=>C8 key l σ.1 σ.2) FB (-1,0)=some (.go r)∧((Km l key=none∧r = -1)∨∃ (j:Nat) (hj:j<l.length),r=(j:Int)∧Km l key=some l[j]):=by
 have hr:=(KM (l:=l) (mk:=λi acc=>(acc,(i:Int))) (body:=λσ=>C8 key l σ.1 σ.2) (fin:=λacc:Int=>acc) (λi acc x=>(.go (bif G1 key x then(i:Int) else acc):Out Bool Int)) (λ_ _=>True) (λi hi acc _=>by
  refine⟨?_,λ_ _=>trivial⟩;show C8 key l acc (i:Int)=_;unfold C8 El;rw[Bx (Aek (by omega)),Bi (by omega) (by omega),BN hi,Bn (by omega) (by omega),Bn (by omega) (by omega)];unfold G1
  cases(decide (l[i].fKey=key)&&(decide (l[i].fKind=1)||decide (l[i].fKind=2)))<;>rfl) (λacc _=>by show C8 key l acc _=_;unfold C8;rw[Bp (Aej (by omega))]) (F:=FB) (by show l.length<5000000;omega) (a:=(-1:Int)) trivial).1
 obtain⟨r,h1,h2⟩:=QI (R:=Bool) key l 0 (-1);refine⟨r,?_,?_⟩
 ·rw[show Cl (λσ:Int×Int=>C8 key l σ.1 σ.2) FB (-1,0)=_ from hr,h1];rfl
 ·rcases h2 with h2 | ⟨j,hj,h3,h4⟩
  ·exact .inl h2
  ·exact .inr ⟨j,hj,by rw[h3];simp,h4⟩
def roB (dof:Au→A7→Option (B9×Au))(F:Nat)(x:Bv)(i:Int)(o:Au):Option (Stp (Int×Bool×Ae×Ae×(List Ae)×(List Ad)×(List AG)×Int×Int×(List AE)×(List Ae)×(List Ae)×(List (Ae×(List Ab)))) (Out (Bool) (Bool×Ae×Ae×(List Ae)×(List Ad)×(List AG)×Int×Int×(List AE)×(List Ae)×(List Ae)×(List (Ae×(List Ab)))))):=
 BB (decide (i<(x.fL.length:Int))) (Bk (Ck i (x.fL.length:Int))<|Bs (dof o (An x.fL i)) λhb=>Bk (Cb .i64 (i+1))<|some (.next (i+1,hb.2.fMade,hb.2.fA.fTenant,hb.2.fA.fFunction,hb.2.fA.fOps,hb.2.fA.fPolicy,hb.2.fA.fNet,hb.2.fA.fNow,hb.2.fCalls,hb.2.fEffects,hb.2.fReads,hb.2.fLog,hb.2.fItems))) (some (.out (.go (o.fMade,o.fA.fTenant,o.fA.fFunction,o.fA.fOps,o.fA.fPolicy,o.fA.fNet,o.fA.fNow,o.fCalls,o.fEffects,o.fReads,o.fLog,o.fItems))))
def roK (dof:Au→A7→Option (B9×Au))(F:Nat)(x:Bv)(key:Ae)(o:Au)(l:List AE)(j:Int):Option Bool:=
 Bs (BC key) λhd=>Bs (dof o (A7.mk ([103,101,116]:Ae) ([hd]:List (List Ab)))) λhb=>BB (!decide (hb.1.fErr=0)) (Bk ((BC key).isSome)<|Bk ((Ch F x.fA (A7.mk ([103,101,116]:Ae) ([(ov (BC key))]:List (List Ab)))).isSome)<|Bk (imp (decide (hb.1.fErr=(ov (Ch F x.fA (A7.mk ([103,101,116]:Ae) ([(ov (BC key))]:List (List Ab))))))) ((Bz F).isSome))<|some ((decide (hb.1.fErr=(ov (Ch F x.fA (A7.mk ([103,101,116]:Ae) ([(ov (BC key))]:List (List Ab)))))))&&(ov (Bz F)))) (Bk (imp (decide (0≤j)) (Ck j (l.length:Int)))<|BB (((decide (0≤j))&&(decide (((An l j).fKind)=1)))) (Bk (Ck j (l.length:Int))<|Bk ((BJ F hb.1.fValue ((An l j).fValue)).isSome)<|Bk (imp ((ov (BJ F hb.1.fValue ((An l j).fValue)))) ((Bz F).isSome))<|some ((ov (BJ F hb.1.fValue ((An l j).fValue)))&&(ov (Bz F)))) (BB (decide (0≤j)) (Bk ((BJ F hb.1.fValue ([(Ab.mk 1 0 ([]:Ae) 0)]:List Ab)).isSome)<|Bk (imp ((ov (BJ F hb.1.fValue ([(Ab.mk 1 0 ([]:Ae) 0)]:List Ab)))) ((Bz F).isSome))<|some ((ov (BJ F hb.1.fValue ([(Ab.mk 1 0 ([]:Ae) 0)]:List Ab)))&&(ov (Bz F)))) (Bs (Ik (Au.mk hb.2.fMade hb.2.fA hb.2.fItems () hb.2.fCalls hb.2.fEffects hb.2.fReads hb.2.fLog)) λhe=>Bs (PE F he key) λhf=>BB (!hf) (some false) (Bs (Cl (λσ=>CM F x key hb σ) F 0) (Co λν=>DF F hb )))))
def rst (i:Nat)(o:Au):Int×Bool×Ae×Ae×(List Ae)×(List Ad)×(List AG)×Int×Int×(List AE)×(List Ae)×(List Ae)×(List (Ae×(List Ab))):=((i:Int),o.fMade,o.fA.fTenant,o.fA.fFunction,o.fA.fOps,o.fA.fPolicy,o.fA.fNet,o.fA.fNow,o.fCalls,o.fEffects,o.fReads,o.fLog,o.fItems)
def rgo (o:Au):Bool×Ae×Ae×(List Ae)×(List Ad)×(List AG)×Int×Int×(List AE)×(List Ae)×(List Ae)×(List (Ae×(List Ab))):=(o.fMade,o.fA.fTenant,o.fA.fFunction,o.fA.fOps,o.fA.fPolicy,o.fA.fNet,o.fA.fNow,o.fCalls,o.fEffects,o.fReads,o.fLog,o.fItems)
theorem UO (o:Au)(k:Ae):(Qv o k).fItems=o.fItems:=by
 unfold Qv;cases Km o.fEffects k<;>rfl
theorem X3 (rd:Ae→Ae→Ae×Int×Int)(rx:Ae→Ae)(o:Au)(q:A7):(Ue rd rx o q).2.fItems=o.fItems:=by
 unfold Ue;refine H5 (λr:B9×Au=>r.2.fItems=o.fItems) rfl (H5 (λr:B9×Au=>r.2.fItems=o.fItems) rfl ?_)
 cases PJ q with
 | some x=>rfl
 | none=>
  refine H5 (λr:B9×Au=>r.2.fItems=o.fItems) (UO _ _) (H5 (λr:B9×Au=>r.2.fItems=o.fItems) rfl (H5 (λr:B9×Au=>r.2.fItems=o.fItems) rfl (H5 (λr:B9×Au=>r.2.fItems=o.fItems) rfl rfl)))
theorem CI.step' {a:AR}{i:Nat}{g:Int}{o:Au}(h:CI a i g o){q:A7}(hq:PY q){rd:Ae→Ae→Ae×Int×Int}(hr:∀n f,(rd n f).1.length≤1048576)(rx:Ae→Ae):∃g',CI a (i+1) g' (Ue rd rx o q).2:=by
 obtain⟨s1,s2,_⟩:=h.step hq hr rx
 by_cases hz:(Ue rd rx o q).1.fErr=0
 ·exact⟨_,(s1 hz).2.2⟩
 ·exact⟨_,(s2 hz).2.2.2⟩
theorem Vz {dof:Au→A7→Option (B9×Au)}{rd:Ae→Ae→Ae×Int×Int}{rx:Ae→Ae}(hd:∀o q,HoA o→PY q→dof o q=some (Ue rd rx o q))(hr:∀n f,(rd n f).1.length≤1048576){x:Bv}(hq:∀q∈x.fL,PY q)(hl:x.fL.length≤30)
  {body:(Int×Bool×Ae×Ae×(List Ae)×(List Ad)×(List AG)×Int×Int×(List AE)×(List Ae)×(List Ae)×(List (Ae×(List Ab))))→Option (Stp (Int×Bool×Ae×Ae×(List Ae)×(List Ad)×(List AG)×Int×Int×(List AE)×(List Ae)×(List Ae)×(List (Ae×(List Ab)))) (Out (Bool) (Bool×Ae×Ae×(List Ae)×(List Ad)×(List AG)×Int×Int×(List AE)×(List Ae)×(List Ae)×(List (Ae×(List Ab))))))}
  (hb:∀(i:Nat) (o:Au),body (rst i o)=roB dof FB x (i:Int) o) {o:Au} (h:CI x.fA 0 0 o) :
  ∃i g o',Cl body FB (rst 0 o)=some (.go (rgo o'))∧CI x.fA i g o'∧i≤30∧o'.fItems=o.fItems:=by
 obtain⟨r,h1,h2⟩:=HB (body:=body) (λσ=>∃g i o',σ=rst i o'∧CI x.fA i g o'∧i≤x.fL.length∧o'.fItems=o.fItems) (λσ=>((x.fL.length:Int)-σ.1).toNat) (λr=>∃g o' i,r = .go (rgo o')∧CI x.fA i g o'∧i≤30∧o'.fItems=o.fItems) (λσ hI=>by
  obtain⟨g,i,o',rfl,hc,hi,hit⟩:=hI;rw[hb]
  by_cases hlt:i<x.fL.length
  ·have hqi:PY (An x.fL (i:Int)):=by rw[BN hlt];exact hq _ (List.getElem_mem hlt)
   obtain⟨g',hc'⟩:=hc.step' hqi hr rx;refine .inl ⟨rst (i+1) (Ue rd rx o' (An x.fL (i:Int))).2,?_,⟨g',i+1,_,rfl,hc',by omega,by rw[X3,hit]⟩,?_⟩
   ·unfold roB;rw[Bx (Aek (by omega)),Bi (by omega) (by omega),hd o' _ (hc.ho (by omega)) hqi,AX,Bn (by omega) (by omega)];rfl
   ·show((x.fL.length:Int)-((i+1:Nat):Int)).toNat<((x.fL.length:Int)-(i:Int)).toNat;omega
  ·refine .inr ⟨.go (rgo o'),?_,g,o',i,rfl,hc,by omega,hit⟩;unfold roB;rw[Bp (Aej (by omega))];rfl) FB (rst 0 o) ⟨0,0,o,rfl,h,AeO _,rfl⟩ (by show((x.fL.length:Int)-((0:Nat):Int)).toNat<5000000;omega)
 obtain⟨g,o',i,rfl,h3,h4,h5⟩:=h2;exact⟨i,g,o',h1,h3,h4,h5⟩
def rqG (key:Ae):A7:=⟨[103,101,116],[[⟨4,0,key,0⟩]]⟩
theorem AbG {key:Ae}(hk:key.length≤1048576):PY (rqG key):=⟨by show 1≤2000000;decide,λv hv=>by
 obtain rfl:v=[⟨4,0,key,0⟩]:=by simpa[rqG] using hv
 exact Gw.one1 hk (show Cb .i64 0=true from by decide) rfl⟩
theorem Pf {v w:List Ab}(e:w=v)(hv:v.length≤2000000){K:Bool→Option Bool}:(Bk ((BJ FB v w).isSome)<|Bk (imp ((ov (BJ FB v w))) ((Bz FB).isSome))<|some ((ov (BJ FB v w))&&(ov (Bz FB))))=some true:=by
 subst e;rw[Pm (v:=w) (by show w.length<5000000;omega) (by omega),Eb];rfl
theorem Aal {dof:Au→A7→Option (B9×Au)}{rd:Ae→Ae→Ae×Int×Int}{rx:Ae→Ae}(hd:∀o q,HoA o→PY q→dof o q=some (Ue rd rx o q)){x:Bv}(hx:XH x)(hz:P9 x.fItems=0){key:Ae}(hk:key.length≤1048576){i:Nat}{g:Int}{o:Au}(h:CI x.fA i g o)(hi:i≤30)(hit:o.fItems=LL x.fItems){j:Int}
  (hj:(Km o.fEffects key=none∧j = -1)∨∃ (n:Nat) (hn:n<o.fEffects.length),j=(n:Int)∧Km o.fEffects key=some o.fEffects[n]):roK dof FB x key o o.fEffects j=some true:=by
 have hho:=h.ho (by omega);have hrq:=AbG hk;have hc:=h.calls;obtain⟨gv1,gv2⟩:=VZ h key;have gvl:(Io o key).length≤1048576:=gv1.hv;unfold roK;rw[show BC key=some [⟨4,0,key,0⟩] from rfl,AX];rw[show(A7.mk ([103,101,116]:Ae) ([[(⟨4,0,key,0⟩:Ab)]]:List (List Ab)))=rqG key from rfl,hd o _ hho hrq,AX,EZ];rw[show(A7.mk ([103,101,116]:Ae) ([[(⟨4,0,key,0⟩:Ab)]]:List (List Ab)))=rqG key from rfl,Oa h.ha hrq];have hS:Ue rd rx o (rqG key)=bif !decide (Lg x.fA (rqG key)=0) then(⟨Lg x.fA (rqG key),[]⟩,{ o with fCalls:=o.fCalls+1 }) else(⟨0,Io o key⟩,Qv { o with fCalls:=o.fCalls+1 } key):=by
  unfold Ue;rw[Aej (show ¬ (32:Int)≤o.fCalls by omega),Aem,h.acc];rfl
 rw[hS]
 by_cases ha:Lg x.fA (rqG key)=0
 ·rw[Aek ha,Aeo,Aem];rw[show(!decide (((⟨0,Io o key⟩:B9),Qv { o with fCalls:=o.fCalls+1 } key).1.fErr=0))=false from rfl,B4];rcases hj with⟨hn,rfl⟩ | ⟨n,hn,rfl,he⟩
  ·rw[show imp (decide ((0:Int)≤-1)) (Ck (-1) (o.fEffects.length:Int))=true from rfl,CC,show(decide ((0:Int)≤-1)&&decide ((An o.fEffects (-1)).fKind=1))=false from rfl,B4,show decide ((0:Int)≤-1)=false from rfl,B4];have hO:Qv { o with fCalls:=o.fCalls+1 } key = { o with fCalls:=o.fCalls+1,fReads:=o.fReads++[key] }:=by
    unfold Qv;rw[show Km ({ o with fCalls:=o.fCalls+1 }:Au).fEffects key=none from hn]
   rw[hO];have hR:Ik (Au.mk o.fMade o.fA o.fItems () (o.fCalls+1) o.fEffects (o.fReads++[key]) o.fLog)=some (Ew (o.fReads++[key])):=Xz (by show(o.fReads++[key]).length≤_;have:=hho.r;simp;omega);show(Bs (Ik (Au.mk o.fMade o.fA o.fItems () (o.fCalls+1) o.fEffects (o.fReads++[key]) o.fLog)) λhb=>_)=_;have hlen:(Ew (o.fReads++[key])).length≤2000000:=by
    have h1:(Ew (o.fReads++[key])).length≤(o.fReads++[key]).length:=by unfold Ew;exact Nat.le_trans (Lib.compact_length_le _) (by simp)
    have:=hho.r;simp only[Aes,AeA] at h1;omega
   have hin:Qu (Ew (o.fReads++[key])) key=true:=by
    unfold Qu;exact List.any_eq_true.2 ⟨key,((Ql _).2 key).2 (by simp),Aek rfl⟩
   rw[hR,AX,Zg hlen,AX,hin,Aeo,B4];have hgv:Io o key=bif DL o.fItems key then E9 o.fItems key [] else Ke:=by unfold Io;rw[hn]
   rw[Ic (l:=x.fItems) (p:=λy=>decide (y.fKey=key)) (ret:=λ_=>true) (u:=()) (F:=FB) (body:=λσ=>CM FB x key ((⟨0,Io o key⟩:B9),({ o with fCalls:=o.fCalls+1,fReads:=o.fReads++[key] }:Au)) σ) (by have:=hx.it.len;show x.fItems.length<5000000;omega) (λm hm=>by
    have hml:=hx.it.len;show CM FB x key _ (m:Int)=_;unfold CM;rw[Bx (Aek (by omega)),Bi (by omega) (by omega),BN hm,Bn (by omega) (by omega)]
    by_cases hkey:x.fItems[m].fKey=key
    ·rw[Aek hkey,BR,BR];have e:x.fItems[m].fValue=Io o key:=by
      obtain⟨q1,q2⟩:=YL hz (List.getElem_mem hm);rw[hkey] at q1 q2;rw[hgv,hit,q1,q2];rfl
     simp only;rw[e,Pm (v:=Io o key) (by show _<5000000;omega) (by omega),Eb];rfl
    ·rw[Aej hkey,B4,B4]) (by show CM FB x key _ _=_;unfold CM;rw[Bp (Aej (by omega))]),AX]
   cases hf:x.fItems.findIdx? (λy=>decide (y.fKey=key)) with
   | some m=>rfl
   | none=>
    have hno:∀y∈x.fItems,y.fKey≠key:=λy hy=>by simpa using List.findIdx?_eq_none_iff.1 hf y hy
    rw[hit,Aa6 hno,Aem] at hgv;show DF FB ((⟨0,Io o key⟩:B9),({ o with fCalls:=o.fCalls+1,fReads:=o.fReads++[key] }:Au))=_;unfold DF;exact Pf (K:=some) (show[(⟨1,0,[],0⟩:Ab)]=Io o key from hgv.symm) (by show(Io o key).length≤_;omega)
  ·rw[Aek (Int.natCast_nonneg n),On (by omega) (by omega),Dx,CC,Aex,BN hn];have hgv:Io o key=bif decide (o.fEffects[n].fKind=1) then o.fEffects[n].fValue else Ke:=by unfold Io;rw[he]
   cases hkd:decide (o.fEffects[n].fKind=1) with
   | true=>
    rw[hkd] at hgv;rw[BR,CC];exact Pf (K:=some) (show o.fEffects[n].fValue=Io o key from hgv.symm) (by show(Io o key).length≤_;omega)
   | false=>
    rw[hkd] at hgv;rw[B4,BR];exact Pf (K:=some) (show[(⟨1,0,[],0⟩:Ab)]=Io o key from hgv.symm) (by show(Io o key).length≤_;omega)
 ·rw[Aej ha,Aev,Aeq];simp only;rw[Aej ha,Aev,BR,Option.isSome_some,Option.isSome_some,CC,CC,EZ,Aek rfl,Eb];rfl
theorem Abt {dof:Au→A7→Option (B9×Au)}{rd:Ae→Ae→Ae×Int×Int}{rx:Ae→Ae}(hd:∀o q,HoA o→PY q→dof o q=some (Ue rd rx o q)){x:Bv}(hx:XH x)(hz:P9 x.fItems=0){key:Ae}(hk:key.length≤1048576){i:Nat}{g:Int}{o:Au}(h:CI x.fA i g o)(hi:i≤30)(hit:o.fItems=LL x.fItems) :
  (Bs (Hk FB o) λl=>Bs (Cl (λσ:Int×Int=>C8 key l σ.1 σ.2) FB (-1,0)) (Co λj=>roK dof FB x key o l j))=some true:=by
 have hho:=h.ho (by omega);have he:=hho.e;obtain⟨j,h1,h2⟩:=Xt (l:=o.fEffects) (by omega) key;rw[TC (by omega) (λx hx=>Nat.le_trans (hho.ev x hx) (by decide)),AX,h1,AX];exact Aal hd hx hz hk h hi hit h2
theorem P7 {x:Bv}(h:XH x){key:Ae}(hk:key.length≤1048576):If FB x key=some true:=by
 have hT:=Zj h.a h.it;unfold If
 cases hN:x.fNone with
 | false=>
  obtain⟨r4,e4,hv⟩:=Tw hN h.se;rw[Aev,BR,e4,AX]
  by_cases hz:RB x.fA x.fItems=0
  ·rw[Aek hz,Aeq] at hT;rw[hT,Option.isSome_some,BR,AX]
   by_cases hl:30<x.fL.length
   ·rw[Bx (Aek (by omega)),Eb];rfl
   ·rw[Bp (Aej (by omega))];have hd:∀o q,HoA o→PY q→Lf FB o r4.1.1 r4.1.2 q=some (Ue (λn f=>(LB r4.1.1 r4.1.2 n f).getD default) (λs=>(HU FB r4.1.1 r4.1.2 s).getD default) o q):=λo q ho hq=>by
     rw[Acl];refine VY ho hq (λn f=>?_) (λs hs hl=>?_)
     ·obtain⟨r,q1,q2⟩:=QH hv n f;rw[q1];exact⟨rfl,q2⟩
     ·obtain⟨r,q1,q2⟩:=SI hv hs (by omega);rw[q1];rfl
    obtain⟨i,g,o',e1,hc,hi,hit⟩:=Vz (dof:=λo q=>Lf FB o r4.1.1 r4.1.2 q) hd (λn f=>by
     obtain⟨r,q1,q2⟩:=QH hv n f;rw[q1];exact q2) h.q (by omega) (body:=λσ=>ES FB x r4 σ.1 σ.2.1 σ.2.2.1 σ.2.2.2.1 σ.2.2.2.2.1 σ.2.2.2.2.2.1 σ.2.2.2.2.2.2.1 σ.2.2.2.2.2.2.2.1 σ.2.2.2.2.2.2.2.2.1 σ.2.2.2.2.2.2.2.2.2.1 σ.2.2.2.2.2.2.2.2.2.2.1 σ.2.2.2.2.2.2.2.2.2.2.2.1 σ.2.2.2.2.2.2.2.2.2.2.2.2) (λi o=>rfl) (CI.new h.a h.now h.it hz)
    rw[show(0,(Dl x.fA x.fItems,()).1.fMade,(Dl x.fA x.fItems,()).1.fA.fTenant,(Dl x.fA x.fItems,()).1.fA.fFunction,(Dl x.fA x.fItems,()).1.fA.fOps,(Dl x.fA x.fItems,()).1.fA.fPolicy,(Dl x.fA x.fItems,()).1.fA.fNet,(Dl x.fA x.fItems,()).1.fA.fNow,(Dl x.fA x.fItems,()).1.fCalls,(Dl x.fA x.fItems,()).1.fEffects,(Dl x.fA x.fItems,()).1.fReads,(Dl x.fA x.fItems,()).1.fLog,(Dl x.fA x.fItems,()).1.fItems)=rst 0 (Dl x.fA x.fItems) from rfl,e1,AX];exact Abt (dof:=λo q=>Lf FB o r4.1.1 r4.1.2 q) hd h (Ja hz).2 hk hc hi hit
  ·rw[Aej hz,Aem] at hT;rw[hT,Option.isSome_none,B4,T9 h.a h.it hz,AX];rw[C0 (by simp[hz]),Eb];rfl
 | true=>
  rw[Aeo,B4];have eN:Ko FB x=some ((),()):=by unfold Ko;rw[hN];rfl
  rw[eN,AX]
  by_cases hz:RB x.fA x.fItems=0
  ·rw[Aek hz,Aeq] at hT;rw[hT,Option.isSome_some,BR,AX]
   by_cases hl:30<x.fL.length
   ·rw[Bx (Aek (by omega)),Eb];rfl
   ·rw[Bp (Aej (by omega))];have hd:∀o q,HoA o→PY q→TE FB o q=some (Ue (λn f=>([],0,10)) (λs=>s) o q):=λo q ho hq=>by
     rw[Acm];exact VY ho hq (λn f=>⟨rfl,by simp⟩) (λs hs hl=>rfl)
    obtain⟨i,g,o',e1,hc,hi,hit⟩:=Vz (dof:=λo q=>TE FB o q) hd (λn f=>by simp) h.q (by omega) (body:=λσ=>ER FB x σ.1 σ.2.1 σ.2.2.1 σ.2.2.2.1 σ.2.2.2.2.1 σ.2.2.2.2.2.1 σ.2.2.2.2.2.2.1 σ.2.2.2.2.2.2.2.1 σ.2.2.2.2.2.2.2.2.1 σ.2.2.2.2.2.2.2.2.2.1 σ.2.2.2.2.2.2.2.2.2.2.1 σ.2.2.2.2.2.2.2.2.2.2.2.1 σ.2.2.2.2.2.2.2.2.2.2.2.2) (λi o=>rfl) (CI.new h.a h.now h.it hz);rw[show(0,(Dl x.fA x.fItems,()).1.fMade,(Dl x.fA x.fItems,()).1.fA.fTenant,(Dl x.fA x.fItems,()).1.fA.fFunction,(Dl x.fA x.fItems,()).1.fA.fOps,(Dl x.fA x.fItems,()).1.fA.fPolicy,(Dl x.fA x.fItems,()).1.fA.fNet,(Dl x.fA x.fItems,()).1.fA.fNow,(Dl x.fA x.fItems,()).1.fCalls,(Dl x.fA x.fItems,()).1.fEffects,(Dl x.fA x.fItems,()).1.fReads,(Dl x.fA x.fItems,()).1.fLog,(Dl x.fA x.fItems,()).1.fItems)=rst 0 (Dl x.fA x.fItems) from rfl,e1,AX];exact Abt (dof:=λo q=>TE FB o q) hd h (Ja hz).2 hk hc hi hit
  ·rw[Aej hz,Aem] at hT;rw[hT,Option.isSome_none,B4,T9 h.a h.it hz,AX];rw[C0 (by simp[hz]),Eb];rfl
end Go.Proofs.YtmjlemhondjfhaaGreatDoor
namespace Go.Proofs.YtmjlemhondjfhaaGreatDoor.lawHostReadsOwn
open Go
set_option linter.unusedVariables false
theorem law:Law:=λx key h hk=>⟨FB,P7 (XH.ofB h) (HY hk)⟩
end Go.Proofs.YtmjlemhondjfhaaGreatDoor.lawHostReadsOwn
