/-
  Texts of the proof, put together: LmA, LmB, LmS, LmC, LmD, LmF, LmE, LwTimerRecovers.
-/
import Derived.Test.YtmmbdclkpijkpaaGreatDoorTV4
namespace Go.Proofs.YtmmbdclkpijkpaaGreatDoor
open Go
set_option linter.unusedVariables false
set_option linter.unusedSimpArgs false
theorem I6 {R V:Type}(K:V→Option R)(v:V):BN K (.go v)=K v:=rfl
theorem PC {R V:Type}(K:V→Option R)(r:R):BN K (.ret r)=some r:=rfl
theorem Wu {α:Type}[Inhabited α](a:α):ov (some a)=a:=rfl
theorem J9 {α R U:Type}[Inhabited α](l:List α)(P:α→Prop)(B:R→Prop)(u:U)(body:Int→Option (Stp Int (Out R U)))
  (h1:∀(x:Int) (c:α),0≤x→x<(l.length:Int)→c∈l→Ar l x=c→(body x=some (.next (x+1))∧P c)∨∃q,body x=some (.out (.ret q))∧B q)
  (h2:body (l.length:Int)=some (.out (.go u))) {F:Nat} (hF:l.length<F) :
  ∃o,Cs body F 0=some o∧((∃q,o = .ret q∧B q)∨(o = .go u∧∀c∈l,P c)):=by
 refine E8 (λx=>0≤x∧x≤(l.length:Int)∧∀c∈l.take x.toNat,P c) (λx=>l.length-x.toNat) _ (λx ⟨h0,hl,ha⟩=>?_) F 0 ⟨YQ 0,by omega,by simp⟩ (by show l.length-0<F;omega)
 by_cases hx:x<(l.length:Int)
 ·obtain⟨c,hc⟩:∃c,l[x.toNat]? =some c:=⟨l[x.toNat]'(by omega),Y1 (by omega)⟩
  have hat:Ar l x=c:=by simp[Ar,hc]
  rcases h1 x c h0 hx (Y6 hc) hat with⟨hb,hp⟩ | ⟨q,hb,hq⟩
  ·refine .inl ⟨x+1,hb,⟨by omega,by omega,λd hd=>?_⟩,by omega⟩;rw[show(x+1).toNat=x.toNat+1 from by omega,List.take_add_one,hc] at hd;simp only[Option.toList_some,List.mem_append,Zj,List.not_mem_nil,or_false] at hd;rcases hd with hd | rfl
   ·exact ha d hd
   ·exact hp
  ·exact .inr ⟨.ret q,hb,.inl ⟨q,rfl,hq⟩⟩
 ·have e:x=(l.length:Int):=by omega
  subst e;refine .inr ⟨.go u,h2,.inr ⟨rfl,λc hc=>ha c ?_⟩⟩;rw[show((l.length:Int)).toNat=l.length from by omega,Zo];exact hc
abbrev QD (x y:Ad):Bool:=Dc x.fAt y.fAt x.fID y.fID
abbrev HH (x y:Ab):Bool:=QD x.fTimer y.fTimer
theorem Xm:VL QD:=PH (λx:Ad=>x.fAt) (λx=>x.fID)
theorem Xn:VL HH:=PH (λx:Ab=>x.fTimer.fAt) (λx=>x.fTimer.fID)
structure Sz (t:Ad):Prop where
 body:JS 5000 t.fBody
 id:t.fID.length≤300
 ten:t.fTenant.length≤300
 src:t.fSource.length≤300
 len:t.fBody.length≤300
structure TI (ts:List Ab):Prop where
 srt:ts.Pairwise λa b=>HH a b=true
 ids:ts.Pairwise λa b=>a.fTimer.fID≠b.fTimer.fID
 len:ts.length≤256
 sm:∀x∈ts,Sz x.fTimer
structure Ha (m:List (Ae×Ab)) (ts:List Ab):Prop where
 ms:Ms m
 pm:m.Perm (ts.map λx=>(x.fTimer.fID,x))
 ti:TI ts
def G4 (t:Ad):Int:=bif !(QK t.fID) then 4 else bif !(decide (0≤t.fAt)&&decide (t.fAt≤1073741824)) then 2 else bif (!(CS t.fTenant)||!(CS t.fSource)) then 4 else Kj t.fBody
def K4 (x:Ab)(now:Int):Ab:=⟨x.fTimer,x.fTold||decide (x.fTimer.fAt≤now)⟩
def Kr (ts:List Ab)(id:Ae):Bool:=ts.any λx=>decide (x.fTimer.fID=id)
def Nk (ts:List Ab)(id:Ae):Bool:=ts.any λx=>decide (x.fTimer.fID=id)&&x.fTold
def WJ (ts:List Ab)(id:Ae):List Ab:=ts.filter λx=>!decide (x.fTimer.fID=id)
def Pf (ts:List Ab)(t:Ad)(now:Int):Int×List Ab:=
 bif !decide (G4 t=0) then(G4 t,ts) else bif (!(decide (0≤now)&&decide (now≤1073741824))||decide (t.fAt<now)) then(2,ts) else bif Kr ts t.fID then(6,ts) else bif decide (256≤ts.length) then(3,ts) else(0,KJ HH ⟨t,false⟩ ts)
def PZ (ts:List Ab)(id:Ae):Int×List Ab:=bif !Kr ts id then(5,ts) else(0,WJ ts id)
def Is (ts:List Ab)(id:Ae):Int×List Ab:=bif Nk ts id then(10,ts) else PZ ts id
def BF (ts:List Ab):List Ad:=ts.map (·.fTimer)
def Ya (ts:List Ab)(now:Int):List Ad:=(BF ts).filter λt=>!decide (now<t.fAt)
def Me (ts:List Ab)(now:Int):List Ab:=ts.map λx=>K4 x now
theorem TI.nil:TI []:=⟨List.Pairwise.nil,List.Pairwise.nil,by decide,λ_ h=>by cases h⟩
theorem Ha.nil:Ha [] []:=⟨Ms.nil,Ys _,TI.nil⟩
theorem Sl {v:List Aa}(h:v.length≤1000000):LZ v=some v:=by
 unfold LZ;rw[Sn (by simp;omega)];rfl
theorem Qk {t:Ad}(h:Sz t):Rs t=some t:=by
 unfold Rs;rw[Sl (by have:=h.len;omega),AC rfl]
theorem Ru {F:Nat}(hF:5000<F){t:Ad}(h:Sz t):H7 F t=some (G4 t):=by
 unfold H7 G4 H6;rw[AC rfl,Ia h.body (by decide) hF,AC rfl]
 cases QK t.fID with
 | false=>rfl
 | true=>
  cases(decide (0≤t.fAt)&&decide (t.fAt≤1073741824)) with
  | false=>rfl
  | true=>cases(!CS t.fTenant||!CS t.fSource)<;>rfl
theorem Sm {α:Type}{n:Nat}{x:Option α}(h:n≤1000000000):Bc (Ea 80 n) x=x:=BG (Y0 (by omega))
theorem Jv {T:Type}{lt:T→T→Bool}:∀{xs:List T},xs.Pairwise (λa b=>lt a b=true)→GK lt xs=true
 | [],_=>rfl
 | x::r,h=>by
  rw[List.pairwise_cons] at h;simp only[GK,Yv,YL];exact⟨λy hy=>by rw[h.1 y hy];rfl,Jv h.2⟩
theorem Wl {T:Type}{lt:T→T→Bool}(L:VL lt){xs:List T}(h:xs.Pairwise λa b=>lt a b=true):srt lt xs=xs:=(P3 L (Jv h) (Ys _) (h.imp λh=>L.asym _ _ h)).symm
theorem M6:∀(ord:List (Ae×Ab)) (s:List Ad),s.length+ord.length≤100000→(∀p∈ord,Sz p.2.fTimer)→QC (λp τ=>Gh p.1 p.2 τ) ord s=some (.go (s++ord.map λp=>p.2.fTimer))
 | [],s,_,_=>by simp[QC]
 | p::r,s,hl,h=>by
  simp only[Yu] at hl;have e:Gh p.1 p.2 s=some (.next (s++[p.2.fTimer])):=by
   unfold Gh;rw[Qk (h p (List.mem_cons_self ..)),AC rfl,Sm (by simp;omega)]
  rw[QC,e];simp only;rw[M6 r _ (by simp;omega) λq hq=>h q (List.mem_cons_of_mem _ hq)];simp
theorem Ha.len {m:List (Ae×Ab)}{ts:List Ab}(h:Ha m ts):m.length=ts.length:=by rw[h.pm.length_eq,Y4]
theorem Ha.mem {m:List (Ae×Ab)}{ts:List Ab}(h:Ha m ts){p:Ae×Ab}(hp:p∈m):p.2∈ts∧p.1=p.2.fTimer.fID:=by
 obtain⟨x,hx,rfl⟩:=List.mem_map.1 (h.pm.subset hp);exact⟨hx,rfl⟩
theorem TI.lst {ts:List Ab}(h:TI ts):(BF ts).Pairwise λa b=>QD a b=true:=List.pairwise_map.2 h.srt
theorem L0 {m:List (Ae×Ab)}{ts:List Ab}(h:Ha m ts):K5 ⟨m⟩=some (BF ts,⟨m⟩):=by
 unfold K5 Hv;rw[AC rfl,A8 (by rfl)];dsimp only;refine TE λord ho=>?_;have hl:ord.length≤256:=by rw[ho.length_eq,h.len];exact h.ti.len
 rw[M6 ord [] (by simp;omega) λp hp=>h.ti.sm _ (h.mem (ho.subset hp)).1,AC rfl,I6];unfold Gg;have hp:(ord.map λp=>p.2.fTimer).Perm (BF ts):=by
  have:=((ho.trans h.pm).map λp=>p.2.fTimer)
  rwa [Zh] at this
 rw[Zf,BG (P5 (Jv h.ti.lst) hp),BG (by rw[Y4];simp;omega),Rv Xm (Jv h.ti.lst) hp,Wl Xm h.ti.lst]
theorem In {T:Type}(m:List (Ae×T))(k:Ae):E3 m k=(B8 m k).isSome:=rfl
theorem Ha.get {m:List (Ae×Ab)}{ts:List Ab}(h:Ha m ts)(id:Ae):(B8 m id=none∧Kr ts id=false∧Nk ts id=false)∨∃x,B8 m id=some x∧x∈ts∧x.fTimer.fID=id∧Kr ts id=true∧Nk ts id=x.fTold:=by
 cases hg:B8 m id with
 | none=>
  have hn:∀x∈ts,¬ x.fTimer.fID=id:=λx hx=>Hh.1 hg _ (h.pm.symm.subset (List.mem_map.2 ⟨x,hx,rfl⟩));refine .inl ⟨rfl,List.any_eq_false.2 λx hx=>by simp[hn x hx],List.any_eq_false.2 λx hx=>by simp[hn x hx]⟩
 | some x=>
  obtain⟨hx,hid⟩:=h.mem (E7 hg);simp only at hx hid;refine .inr ⟨x,rfl,hx,hid.symm,List.any_eq_true.2 ⟨x,hx,by simp[hid]⟩,?_⟩
  cases ht:x.fTold with
  | true=>exact List.any_eq_true.2 ⟨x,hx,by simp[hid,ht]⟩
  | false=>
   refine List.any_eq_false.2 λy hy=>?_
   by_cases e:y.fTimer.fID=id
   ·have:y=x:=by
     have h1:B8 m id=some y:=HE h.ms.nodup (h.pm.symm.subset (List.mem_map.2 ⟨y,hy,by rw[e]⟩));rw[hg] at h1;exact(Option.some.inj h1).symm
    subst this;simp[ht]
   ·simp[e]
theorem TI.del {ts:List Ab}(h:TI ts)(id:Ae):TI (WJ ts id):=⟨h.srt.sublist (List.filter_sublist ..),h.ids.sublist (List.filter_sublist ..),Nat.le_trans (List.length_filter_le ..) h.len,λx hx=>h.sm x (List.mem_filter.1 hx).1⟩
theorem Ha.del {m:List (Ae×Ab)}{ts:List Ab}(h:Ha m ts)(id:Ae):Ha (mdel m id) (WJ ts id):=by
 refine⟨h.ms.mdel id,?_,h.ti.del id⟩;have:=h.pm.filter λp=>!decide (p.1=id);rw[List.filter_map] at this;exact this
theorem TI.ins {ts:List Ab}(h:TI ts){t:Ad}(ht:Sz t)(hn:Kr ts t.fID=false)(hl:ts.length<256)(b:Bool):TI (KJ HH ⟨t,b⟩ ts):=by
 have hp:=ER HH ⟨t,b⟩ ts;have hne:∀x∈ts,¬ x.fTimer.fID=t.fID:=λx hx e=>by
  have:=List.any_eq_false.1 hn x hx;simp[e] at this
 have hids:(KJ HH ⟨t,b⟩ ts).Pairwise λa b=>a.fTimer.fID≠b.fTimer.fID:=
  (hp.pairwise_iff (fun {x y} h e=>h e.symm)).2 (List.pairwise_cons.2 ⟨λx hx e=>hne x hx e.symm,h.ids⟩)
 have hs:=HA Xn ⟨t,b⟩ (h.srt.imp λh=>Xn.asym _ _ h);refine⟨?_,hids,by rw[hp.length_eq];exact hl,λx hx=>?_⟩
 ·refine(hs.and hids).imp fun {x y} h=>?_
  cases h1:HH x y with
  | true=>rfl
  | false=>exact absurd (OG h1 h.1).2 h.2
 ·rcases List.mem_cons.1 (hp.subset hx) with e | h1
  ·rw[e];exact ht
  ·exact h.sm x h1
theorem Ha.ins {m:List (Ae×Ab)}{ts:List Ab}(h:Ha m ts){t:Ad}(ht:Sz t)(hn:Kr ts t.fID=false)(hl:ts.length<256):Ha (mset m t.fID ⟨t,false⟩) (KJ HH ⟨t,false⟩ ts):=by
 have hg:B8 m t.fID=none:=by
  rcases h.get t.fID with h1 | ⟨x,_,_,_,h1,_⟩
  ·exact h1.1
  ·rw[hn] at h1;cases h1
 refine⟨h.ms.mset _ _,?_,h.ti.ins ht hn hl false⟩;have e:mset m t.fID ⟨t,false⟩=mins t.fID ⟨t,false⟩ m:=by
  unfold mset E3;rw[hg];rfl
 rw[e];refine(Ke _ _ m).trans ((h.pm.cons _).trans ?_);exact((ER HH ⟨t,false⟩ ts).map λx=>(x.fTimer.fID,x)).symm
theorem Qj {F:Nat}(hF:5000<F){m:List (Ae×Ab)}{ts:List Ab}(h:Ha m ts){t:Ad}(ht:Sz t)(now:Int):∃m',Mq F ⟨m⟩ t now=some ((Pf ts t now).1,⟨m'⟩)∧Ha m' (Pf ts t now).2:=by
 unfold Mq Hv Pf H6;rw[AC rfl,A8 (by rfl),Ru hF ht,AC rfl];dsimp only
 cases h1 : !decide (G4 t=0) with
 | true=>exact⟨m,rfl,h⟩
 | false=>
  rw[A8 rfl,BG (by rfl),Wu]
  cases h2:(!(decide (0≤now)&&decide (now≤1073741824))||decide (t.fAt<now)) with
  | true=>exact⟨m,rfl,h⟩
  | false=>
   rw[A8 rfl];have hh:E3 m t.fID=Kr ts t.fID:=by
    rcases h.get t.fID with⟨h3,h4,_⟩ | ⟨x,h3,_,_,h4,_⟩
    ·rw[In,h3,h4];rfl
    ·rw[In,h3,h4];rfl
   rw[hh]
   cases h3:Kr ts t.fID with
   | true=>exact⟨m,rfl,h⟩
   | false=>
    have h5:decide (256≤(m.length:Int))=decide (256≤ts.length):=by rw[h.len,Y9];simp;omega
    rw[A8 rfl,h5]
    cases h4:decide (256≤ts.length) with
    | true=>exact⟨m,rfl,h⟩
    | false=>
     rw[A8 rfl,Qk ht,AC rfl];exact⟨_,rfl,h.ins ht h3 (by simpa using h4)⟩
theorem Qm {m:List (Ae×Ab)}{ts:List Ab}(h:Ha m ts)(id:Ae):∃m',P1 ⟨m⟩ id=some ((PZ ts id).1,⟨m'⟩)∧Ha m' (PZ ts id).2:=by
 unfold P1 Hv PZ;rw[AC rfl,A8 (by rfl)];dsimp only;have hh:E3 m id=Kr ts id:=by
  rcases h.get id with⟨h3,h4,_⟩ | ⟨x,h3,_,_,h4,_⟩
  ·rw[In,h3,h4];rfl
  ·rw[In,h3,h4];rfl
 rw[hh]
 cases Kr ts id with
 | false=>exact⟨m,rfl,h⟩
 | true=>exact⟨_,rfl,h.del id⟩
theorem Pz {m:List (Ae×Ab)}{ts:List Ab}(h:Ha m ts)(id:Ae):∃m',Id ⟨m⟩ id=some ((Is ts id).1,⟨m'⟩)∧Ha m' (Is ts id).2:=by
 unfold Id Hv Is Ez;rw[AC rfl,AL (by rfl)];dsimp only;have hh:(AM m id (Ab.mk (Ad.mk ([]:Ae) 0 ([]:Ae) ([]:Ae) ([]:(List Aa))) false)).fTold=Nk ts id:=by
  unfold AM;rcases h.get id with⟨h3,_,h4⟩ | ⟨x,h3,_,_,_,h4⟩
  ·rw[h3,h4];rfl
  ·rw[h3,h4];rfl
 rw[hh]
 cases Nk ts id with
 | true=>exact⟨m,rfl,h⟩
 | false=>
  obtain⟨m',h1,h2⟩:=Qm h id;refine⟨m',?_,h2⟩;rw[A8 rfl,h1,AC rfl];rfl
theorem Gf {α:Type}{l:List α}{k:Nat}{c:α}(h:l[k]? =some c):l.take (k+1)=l.take k++[c]:=by
 rw[List.take_add_one,h];rfl
theorem Uj {α:Type}{l l':List α}{k:Nat}(h:l.drop k=l'.drop k){c:α}(hc:l'[k]? =some c):l[k]? =some c:=by
 have:(l.drop k)[0]? =(l'.drop k)[0]?:=by rw[h]
 simpa[List.getElem?_drop,hc] using this
abbrev IC (now:Int)(t:Ad):Bool:=!decide (now<t.fAt)
theorem N9 {F:Nat}{ys:List Ad}(hF:ys.length<F)(hl:ys.length≤100000)(now:Int):∃i:Int,GT F ys now=some i∧((i = -1∧ys.filter (IC now)=ys)∨∃k:Nat,i=k∧k<ys.length∧(ys.take k).filter (IC now)=ys.take k∧∃c,ys[k]? =some c∧IC now c=false):=by
 obtain⟨o,h1,h2⟩:=E8 (body:=λσ=>C5 ys now σ) (λx=>0≤x∧x≤(ys.length:Int)∧(ys.take x.toNat).filter (IC now)=ys.take x.toNat) (λx=>ys.length-x.toNat)
  (λo=>(o = .go ()∧ys.filter (IC now)=ys)∨∃k:Nat,o = .ret (k:Int)∧k<ys.length∧(ys.take k).filter (IC now)=ys.take k∧∃c,ys[k]? =some c∧IC now c=false) (λx ⟨h0,hx,ha⟩=>by
   by_cases hlt:x<(ys.length:Int)
   ·obtain⟨c,hc⟩:∃c,ys[x.toNat]? =some c:=⟨ys[x.toNat]'(by omega),Y1 (by omega)⟩
    have hat:Ar ys x=c:=by simp[Ar,hc]
    have hb:C5 ys now x=Bw (decide (now<c.fAt)) (some (.out (.ret x))) (some (.next (x+1))):=by
     unfold C5 L3;rw[AL (Y0 hlt),Bg h0 hlt,hat,AC rfl,AV (by omega) (by omega)]
    cases hq:decide (now<c.fAt) with
    | true=>
     refine .inr ⟨.ret x,hb.trans (AL hq),.inr ⟨x.toNat,by rw[show((x.toNat:Nat):Int)=x from by omega],by omega,ha,c,hc,by show(!decide (now<c.fAt))=false;rw[hq];rfl⟩⟩
    | false=>
     refine .inl ⟨x+1,hb.trans (A8 hq),⟨by omega,by omega,?_⟩,by omega⟩;rw[show(x+1).toNat=x.toNat+1 from by omega,Gf hc,List.filter_append,ha,List.filter_cons_of_pos (by show(!decide (now<c.fAt))=true;rw[hq];rfl)];rfl
   ·refine .inr ⟨.go (),by unfold C5;rw[A8 (Yx hlt)],.inl ⟨rfl,?_⟩⟩;rw[show x.toNat=ys.length from by omega,Zo] at ha;exact ha) F 0 ⟨YQ 0,by omega,by simp⟩ (by show ys.length-0<F;omega)
 unfold GT;rcases h2 with⟨rfl,h⟩ | ⟨k,rfl,h⟩
 ·exact⟨-1,by rw[AC h1,I6];rfl,.inl ⟨rfl,h⟩⟩
 ·exact⟨k,by rw[AC h1,PC],.inr ⟨k,rfl,h⟩⟩
theorem My {F:Nat}{ys:List Ad}(hF:ys.length<F)(hl:ys.length≤100000)(now:Int):Gn F ys now=some (ys.filter (IC now)):=by
 unfold Gn;obtain⟨i,hi,hc⟩:=N9 hF hl now;rw[hi,AC rfl];rcases hc with⟨rfl,h⟩ | ⟨k,rfl,hk,ht,c,hck,hq⟩
 ·rw[AL (by rfl),h]
 ·rw[A8 (Yx (by omega)),AV (by omega) (by omega)];obtain⟨o,h1,h2⟩:=E8 (body:=λσ:Int×Int×List Ad=>Cp now σ.1 σ.2.1 σ.2.2) (λσ=>0≤σ.1∧σ.1<σ.2.1∧σ.2.1≤(ys.length:Int)∧σ.2.2.length=ys.length∧σ.2.2.take σ.1.toNat=(ys.take σ.2.1.toNat).filter (IC now)∧σ.2.2.drop σ.2.1.toNat=ys.drop σ.2.1.toNat) (λσ=>ys.length-σ.2.1.toNat)
   (λo=>∃ (a:Int) (zs:List Ad),o = .go (a,zs)∧0≤a∧a≤(ys.length:Int)∧zs.length=ys.length∧zs.take a.toNat=ys.filter (IC now)) (λ⟨a,b,zs⟩ ⟨h0,hab,hb,hzl,h3,h4⟩=>by
    dsimp only at h0 hab hb hzl h3 h4 ⊢
    by_cases hlt:b<(ys.length:Int)
    ·obtain⟨d,hd⟩:∃d,ys[b.toNat]? =some d:=⟨ys[b.toNat]'(by omega),Y1 (by omega)⟩
     have hdz:zs[b.toNat]? =some d:=Uj h4 hd;have hat:Ar zs b=d:=by simp[Ar,hdz]
     have hs:(ys.take (b+1).toNat)=ys.take b.toNat++[d]:=by rw[show(b+1).toNat=b.toNat+1 from by omega];exact Gf hd
     have hdr:zs.drop (b+1).toNat=ys.drop (b+1).toNat:=by
      rw[show(b+1).toNat=b.toNat+1 from by omega,← List.drop_drop,← List.drop_drop,h4]
     cases hp:decide (now<d.fAt) with
     | true=>
      refine .inl ⟨(a,b+1,zs),?_,⟨h0,by show a<b+1;omega,by show b+1≤_;omega,hzl,?_,hdr⟩,by show ys.length-(b+1).toNat<ys.length-b.toNat;omega⟩
      ·unfold Cp L3 C9;rw[AL (Y0 (by omega)),Bg (by omega) (by omega),hat,AC rfl,hp,A8 (by rfl),AV (by omega) (by omega)]
      ·dsimp only;rw[hs,List.filter_append,h3,List.filter_cons_of_neg (by show ¬ (!decide (now<d.fAt))=true;rw[hp];simp)];simp
     | false=>
      refine .inl ⟨(a+1,b+1,zs.set a.toNat d),?_,⟨by show 0≤a+1;omega,by show a+1<b+1;omega,by show b+1≤_;omega,by simpa using hzl,?_,?_⟩,by show ys.length-(b+1).toNat<ys.length-b.toNat;omega⟩
      ·unfold Cp L3 C9;rw[AL (Y0 (by omega)),Bg (by omega) (by omega),hat,AC rfl,hp,AL (by rfl),Bg h0 (by omega),Er,AV (by omega) (by omega),AV (by omega) (by omega)]
      ·dsimp only;rw[hs,List.filter_append,List.filter_cons_of_pos (by show(!decide (now<d.fAt))=true;rw[hp];rfl),← h3,show(a+1).toNat=a.toNat+1 from by omega,Gf (c:=d) (by rw[List.getElem?_set_self (by omega)])]
       congr 1
       rw[List.take_set_of_le (Y8 _)]
      ·dsimp only;rw[← hdr,List.drop_set_of_lt (by omega)]
    ·have e:b=(ys.length:Int):=by omega
     refine .inr ⟨.go (a,zs),by unfold Cp;rw[A8 (Yx (by omega))],a,zs,rfl,h0,by omega,hzl,?_⟩;rw[h3,show b.toNat=ys.length from by omega,Zo]) F ((k:Int),(k:Int)+1,ys) ⟨by show(0:Int)≤k;omega,by show(k:Int)<k+1;omega,by show(k:Int)+1≤_;omega,rfl,by
     dsimp only;rw[show((k:Int)+1).toNat=k+1 from by omega,Gf hck,List.filter_append,ht,List.filter_cons_of_neg (by rw[hq];simp)];simp,rfl⟩ (by show ys.length-((k:Int)+1).toNat<F;omega)
  obtain⟨a,zs,rfl,ha,ha2,hzl,hz⟩:=h2;rw[AC h1,I6];unfold DC;dsimp only;have hlt:(zs.take a.toNat).length=a.toNat:=by rw[List.length_take];omega
  rw[C7 ha (by omega),C7 ha (by simp;omega),List.take_append_of_le_length (by omega),List.take_take,Nat.min_self,hz]
theorem Ha.tell {m:List (Ae×Ab)}{ts:List Ab}(h:Ha m ts)(now:Int):Ha (AY (λx=>K4 x now) m) (Me ts now):=by
 refine⟨?_,?_,⟨List.pairwise_map.2 h.ti.srt,List.pairwise_map.2 h.ti.ids,by unfold Me;rw[Y4];exact h.ti.len,λx hx=>?_⟩⟩
 ·unfold Ms AY;exact List.pairwise_map.2 h.ms
 ·have:=h.pm.map λp:Ae×Ab=>(p.1,K4 p.2 now)
  rw[Zh] at this;unfold AY Me;rw[Zh];exact this
 ·obtain⟨y,hy,rfl⟩:=List.mem_map.1 hx;exact h.ti.sm y hy
theorem Ha.keysOk {m:List (Ae×Ab)}{ts:List Ab}(h:Ha m ts):keysOk m=true:=by
 unfold Go.Proofs.YtmmbdclkpijkpaaGreatDoor.keysOk;simp only[Yv,Yq,YL];have hl:=h.len;have h2:=h.ti.len;refine⟨by omega,λp hp=>?_⟩;obtain⟨h3,h4⟩:=h.mem hp;rw[h4];have:=(h.ti.sm _ h3).id;unfold UA;simp;omega
theorem SU {F:Nat}{m:List (Ae×Ab)}{ts:List Ab}(h:Ha m ts)(now:Int){ks:List Ae}(hp:ks.Perm (m.map Prod.fst))(hF:256<F):Cs (λσ:Int×List (Ae×Ab)=>Gu now ks σ.1 σ.2) F (0,m)=some (.go (AY (λx=>K4 x now) m)):=by
 have hkl:ks.length≤256:=by rw[hp.length_eq,Y4,h.len];exact h.ti.len
 have hnd:ks.Nodup:=hp.nodup_iff.2 h.ms.nodup;obtain⟨o,h1,h2⟩:=E8 (body:=λσ:Int×List (Ae×Ab)=>Gu now ks σ.1 σ.2) (λσ=>0≤σ.1∧σ.1≤(ks.length:Int)∧Ms σ.2∧∀k,B8 σ.2 k=bif (ks.take σ.1.toNat).contains k then(B8 m k).map (λx=>K4 x now) else B8 m k) (λσ=>ks.length-σ.1.toNat)
  (λo=>o = .go (AY (λx=>K4 x now) m)) (λ⟨i,mi⟩ ⟨h0,hi,hms,hg⟩=>by
   dsimp only at h0 hi hms hg ⊢
   by_cases hlt:i<(ks.length:Int)
   ·obtain⟨k,hk⟩:∃k,ks[i.toNat]? =some k:=⟨ks[i.toNat]'(by omega),Y1 (by omega)⟩
    have hat:Ar ks i=k:=by simp[Ar,hk]
    have hkm:k∈m.map Prod.fst:=hp.subset (Y6 hk);obtain⟨⟨k',x⟩,hx,rfl⟩:=List.mem_map.1 hkm;have hgk:B8 m k'=some x:=HE h.ms.nodup hx;have hnt:(ks.take i.toNat).contains k'=false:=by
     cases hc:(ks.take i.toNat).contains k' with
     | false=>rfl
     | true=>
      obtain⟨j,hj⟩:=List.mem_iff_getElem?.1 (List.contains_iff_mem.1 hc);rw[YR] at hj
      split at hj
      ·rename_i hji
       obtain⟨a1,a2⟩:=List.getElem?_eq_some_iff.1 hj;obtain⟨b1,b2⟩:=List.getElem?_eq_some_iff.1 hk;have:=(List.getElem_inj hnd).1 (a2.trans b2.symm);omega
      ·cases hj
    have hv:AM mi k' (Ab.mk (Ad.mk ([]:Ae) 0 ([]:Ae) ([]:Ae) ([]:(List Aa))) false)=x:=by
     unfold AM;rw[hg k',hnt,Yt,hgk];rfl
    refine .inl ⟨(i+1,mset mi k' (K4 x now)),?_,⟨by show 0≤i+1;omega,by show i+1≤_;omega,hms.mset _ _,λq=>?_⟩,by show ks.length-(i+1).toNat<ks.length-i.toNat;omega⟩
    ·unfold Gu;rw[AL (Y0 hlt),Bg h0 hlt,hat,hv,AV (by omega) (by omega)];rfl
    ·dsimp only;rw[RK,show(i+1).toNat=i.toNat+1 from by omega,Gf hk,hg q]
     by_cases e:q=k'
     ·subst e;rw[Y0 rfl,Yw,hgk];simp
     ·rw[Yx e,Yt];have:(List.take i.toNat ks++[k']).contains q=(List.take i.toNat ks).contains q:=by
       rw[Y9];simp[e]
      rw[this]
   ·refine .inr ⟨.go mi,by unfold Gu;rw[A8 (Yx hlt)],?_⟩
    congr 1
    refine Ms.ext hms ((h.tell now).ms) λk=>?_;rw[hg k,show i.toNat=ks.length from by omega,Zo,HF]
    cases hgk:B8 m k with
    | none=>cases ks.contains k<;>rfl
    | some x=>
     have:ks.contains k=true:=List.contains_iff_mem.2 (hp.symm.subset (List.mem_map.2 ⟨_,E7 hgk,rfl⟩));rw[this];rfl) F (0,m) ⟨YQ 0,by omega,h.ms,λk=>by simp⟩ (by show ks.length-0<F;omega)
 rw[h1,h2]
theorem UX {F:Nat}(hF:256<F){m:List (Ae×Ab)}{ts:List Ab}(h:Ha m ts)(now:Int):∃m',Px F ⟨m⟩ now=some (Ya ts now,⟨m'⟩)∧Ha m' (Me ts now):=by
 refine⟨AY (λx=>K4 x now) m,?_,h.tell now⟩;unfold Px Hv;rw[AC rfl,A8 (by rfl)];dsimp only;rw[BG h.keysOk];refine TE λks hp=>?_;rw[AC (SU h now hp hF),I6];unfold Jo;have hal:BF (Me ts now)=BF ts:=by unfold BF Me;rw[Zh];rfl
 have hll:(BF ts).length≤256:=by unfold BF;rw[Y4];exact h.ti.len
 rw[L0 (h.tell now),AC rfl,hal];dsimp only;rw[My (by omega) (by omega),AC rfl];rfl
def X6 (v:List Aa):Prop:=∀c∈v,BT .i64 c.fInt=true∧c.fN≤9223372036854775807
theorem Tg {F:Nat}(hF:5000<F){t:Ad}(ho:X6 t.fBody):∃b,L9 F t=some b∧(b=true→Sz t):=by
 unfold L9
 cases hA:((decide (300<(t.fID.length:Int)))||((decide (300<(t.fTenant.length:Int)))||((decide (300<(t.fSource.length:Int)))||(decide (300<(t.fBody.length:Int)))))) with
 | true=>exact⟨false,AL rfl,λh=>by cases h⟩
 | false=>
  simp only[YM,Yr] at hA;obtain⟨a1,a2,a3,a4⟩:=hA;rw[A8 rfl];obtain⟨o,h1,h2⟩:=J9 t.fBody (λc=>c.fStr.length≤5000) (λq=>q=false) () (λσ=>Dw t σ) (λx c h0 hx hc hat=>by
   have e:Dw t x=Bw (decide (5000<(c.fStr.length:Int))) (some (.out (.ret false))) (some (.next (x+1))):=by
    unfold Dw;rw[AL (Y0 hx),Bg h0 hx,hat,AV (by omega) (by omega)]
   cases hL:decide (5000<(c.fStr.length:Int)) with
   | false=>exact .inl ⟨e.trans (A8 hL),by simp at hL;omega⟩
   | true=>exact .inr ⟨false,e.trans (AL hL),rfl⟩) (by
   show Dw t _=_;unfold Dw;rw[A8 (Yx (by omega))]) (F:=F) (by omega)
  rw[AC h1];rcases h2 with⟨q,rfl,rfl⟩ | ⟨rfl,h⟩
  ·exact⟨false,PC ..,λh=>by cases h⟩
  ·exact⟨true,by rw[I6];rfl,λ_=>⟨⟨by decide,by omega,λc hc=>⟨h c hc,ho c hc⟩⟩,by omega,by omega,by omega,by omega⟩⟩
theorem TQ {F:Nat}(hF:5000<F){l:List AQ}(ho:∀o∈l,X6 o.fTimer.fBody):∃b,LL F l=some b∧(b=true→l.length≤300∧∀o∈l,Sz o.fTimer):=by
 unfold LL
 cases hA:decide (300<(l.length:Int)) with
 | true=>exact⟨false,AL rfl,λh=>by cases h⟩
 | false=>
  simp only[Yr] at hA;rw[A8 rfl];obtain⟨o,h1,h2⟩:=J9 l (λc=>Sz c.fTimer) (λq=>q=false) () (λσ=>D3 F l σ) (λx c h0 hx hc hat=>by
   obtain⟨b,hb,hs⟩:=Tg hF (ho c hc);have e:D3 F l x=Bw (!b) (some (.out (.ret false))) (some (.next (x+1))):=by
    unfold D3;rw[AL (Y0 hx),Bg h0 hx,hat,hb,AC rfl,AV (by omega) (by omega)]
   cases b with
   | true=>exact .inl ⟨e,hs rfl⟩
   | false=>exact .inr ⟨false,e,rfl⟩) (by
   show D3 F l _=_;unfold D3;rw[A8 (Yx (by omega))]) (F:=F) (by omega)
  rw[AC h1];rcases h2 with⟨q,rfl,rfl⟩ | ⟨rfl,h⟩
  ·exact⟨false,PC ..,λh=>by cases h⟩
  ·exact⟨true,by rw[I6];rfl,λ_=>⟨by omega,h⟩⟩
theorem Or {F:Nat}{t:Ad}(hF:t.fBody.length<F)(hl:t.fBody.length≤100000):LA F t t=some true:=by
 unfold LA;rw[A8 (by simp)];obtain⟨o,h1,h2⟩:=J9 t.fBody (λ_=>True) (λ_=>False) () (λσ=>Dy t t σ) (λx c h0 hx hc hat=>.inl ⟨by
  show Dy t t x=_;unfold Dy;rw[AL (Y0 hx),Bg h0 hx,Bg h0 hx,A8 (by simp),AV (by omega) (by omega)],trivial⟩) (by
  show Dy t t _=_;unfold Dy;rw[A8 (Yx (by omega))]) hF
 rw[AC h1];rcases h2 with⟨q,rfl,h⟩ | ⟨rfl,h⟩
 ·exact h.elim
 ·rw[I6];rfl
theorem Oq {F:Nat}{l:List Ad}(hF:6000<F)(hl:l.length≤300)(hb:∀t∈l,t.fBody.length≤5000):JX F l l=some true:=by
 unfold JX;rw[A8 (by simp)];obtain⟨o,h1,h2⟩:=J9 l (λ_=>True) (λ_=>False) () (λσ=>Dx F l l σ) (λx c h0 hx hc hat=>.inl ⟨by
  show Dx F l l x=_;unfold Dx;have:=hb c hc;rw[AL (Y0 hx),Bg h0 hx,Bg h0 hx,hat,Or (by omega) (by omega),AC rfl,A8 (by rfl),AV (by omega) (by omega)],trivial⟩) (by
  show Dx F l l _=_;unfold Dx;rw[A8 (Yx (by omega))]) (F:=F) (by omega)
 rw[AC h1];rcases h2 with⟨q,rfl,h⟩ | ⟨rfl,h⟩
 ·exact h.elim
 ·rw[I6];rfl
theorem TI.llen {ts:List Ab}(h:TI ts):(BF ts).length≤256:=by unfold BF;rw[Y4];exact h.len
theorem TI.lbody {ts:List Ab}(h:TI ts):∀t∈BF ts,t.fBody.length≤300:=λt ht=>by
 obtain⟨x,hx,rfl⟩:=List.mem_map.1 ht;exact(h.sm x hx).len
theorem TI.same {F:Nat}(hF:6000<F){ts:List Ab}(h:TI ts){l:List Ad}(hs:l.Sublist (BF ts)):JX F l l=some true:=
 Oq hF (by have:=hs.length_le;have:=h.llen;omega) λt ht=>Nat.le_trans (h.lbody t (hs.subset ht)) (by decide)
def X4 (ts:List Ab)(o:AQ):Int×List Ab:=
 bif decide (o.fKind=0) then Pf ts o.fTimer o.fNow else bif decide (o.fKind=2) then PZ ts o.fTimer.fID else bif decide (o.fKind=3) then Is ts o.fTimer.fID else(0,ts)
theorem OI {F:Nat}(hF:5000<F){m:List (Ae×Ab)}{ts:List Ab}(h:Ha m ts){o:AQ}(ho:Sz o.fTimer):∃m',MU F ⟨m⟩ o=some ((X4 ts o).1,⟨m'⟩)∧Ha m' (X4 ts o).2:=by
 unfold MU X4
 cases decide (o.fKind=0) with
 | true=>
  obtain⟨m',h1,h2⟩:=Qj hF h ho o.fNow;exact⟨m',by rw[AL rfl,h1,AC rfl];rfl,h2⟩
 | false=>
  rw[A8 rfl]
  cases decide (o.fKind=2) with
  | true=>
   obtain⟨m',h1,h2⟩:=Qm h o.fTimer.fID;exact⟨m',by rw[AL rfl,h1,AC rfl];rfl,h2⟩
  | false=>
   rw[A8 rfl]
   cases decide (o.fKind=3) with
   | true=>
    obtain⟨m',h1,h2⟩:=Pz h o.fTimer.fID;exact⟨m',by rw[AL rfl,h1,AC rfl];rfl,h2⟩
   | false=>exact⟨m,rfl,h⟩
theorem MV:LM 40000=some true:=by decide +kernel
theorem WI {α:Type}[Inhabited α]{l:List α}{x:Int}(h0:0≤x)(h:x<(l.length:Int)):l[x.toNat]? =some (Ar l x):=by
 have hx:x.toNat<l.length:=by omega
 simp[Ar,hx]
def conv(ts:List Ab):List ID:=ts.map λx=>⟨x.fTimer,x.fTold⟩
theorem Ym {n:Nat}(h:n≤1000000):Ea 1 n=true:=Y0 (by omega)
theorem UY {F M:Nat}(hF:5000<F)(hM:M≤5000){t:Ad}(h:JS M t.fBody):H7 F t=some (G4 t):=by
 unfold H7 G4 H6;rw[AC rfl,Ia h (by omega) (by omega),AC rfl]
 cases QK t.fID with
 | false=>rfl
 | true=>
  cases(decide (0≤t.fAt)&&decide (t.fAt≤1073741824)) with
  | false=>rfl
  | true=>cases(!CS t.fTenant||!CS t.fSource)<;>rfl
theorem OW (v:List Aa):(Iz v).2=Kj v:=by
 unfold Iz Kj
 cases whole v with
 | none=>rfl
 | some f=>
  simp only
  cases h:decide (Gl f=0) with
  | true=>rw[YG h];rfl
  | false=>rfl
def Eo (t:Ad):List Ae:=[t.fID,Lib.itoa t.fAt,t.fTenant,t.fSource,(Iz t.fBody).1]
def I0 (t:Ad):Ae×Int:=bif decide (G4 t=0) then K7 (Eo t) else([],G4 t)
theorem JL {t:Ad}(h:G4 t=0):QK t.fID=true∧0≤t.fAt∧t.fAt≤1073741824∧CS t.fTenant=true∧CS t.fSource=true∧Kj t.fBody=0:=by
 unfold G4 at h
 cases h1:QK t.fID with
 | false=>rw[h1] at h;cases h
 | true=>
  rw[h1] at h
  cases h2:(decide (0≤t.fAt)&&decide (t.fAt≤1073741824)) with
  | false=>rw[h2] at h;cases h
  | true=>
   rw[h2] at h;simp only[Yv,Yq] at h2
   cases h3:CS t.fTenant with
   | false=>rw[h3] at h;cases h
   | true=>
    rw[h3] at h
    cases h4:CS t.fSource with
    | false=>rw[h4] at h;cases h
    | true=>rw[h4] at h;exact⟨rfl,h2.1,h2.2,rfl,rfl,h⟩
theorem L2 {F M:Nat}(hF:30000<F)(hM:M≤5000){t:Ad}(h:JS M t.fBody):Ic F t=some (I0 t):=by
 unfold Ic I0;rw[UY (by omega) hM h,AC rfl]
 cases h0:decide (G4 t=0) with
 | false=>rfl
 | true=>
  obtain⟨_,h1,h2,_,_,h3⟩:=JL (YG h0);rw[A8 (p:=!true) rfl,Pr h (by omega) (by omega),AC rfl,OW,h3,A8 (by decide),AV (by omega) (by omega),Uf (by omega),AC rfl];rfl
def zT:Ad:=Ad.mk [] 0 [] [] []
def PG (l:List Ae)(b:List Aa):Ad:=Ad.mk (Ar l 0) (Bn (Ar l 1)) (Ar l 2) (Ar l 3) b
def W9 (l:List Ae)(r:List Aa×Int):Ad×Int:=
 bif !decide (r.2=0) then(zT,13) else bif !decide (G4 (PG l r.1)=0) then(zT,13) else(PG l r.1,0)
def VE (s:Ae):Ad×Int:=
 bif (!decide ((Dv s).2=0)||!decide (((Dv s).1.length:Int)=5)) then(zT,13)
 else bif !decide (B1 (Ar (Dv s).1 1)=0) then(zT,13) else W9 (Dv s).1 (ov (JO (Ar (Dv s).1 4)))
theorem VD {s:Ae}{r:List Aa×Int}(h:JO s=some r):JS 4000 r.1:=by
 by_cases h0:r.2=0
 ·exact(QR h h0).1
 ·have:r.1=[]:=by
   unfold JO at h
   cases h4:decide (4000<s.length) with
   | true=>rw[h4] at h;cases h;rfl
   | false=>
    rw[h4] at h;simp only[Yt] at h
    split at h
    ·rename_i f _
     cases he:decide (Gl f=0) with
     | true=>rw[he] at h;cases h;exact absurd rfl h0
     | false=>rw[he] at h;cases h;rfl
    ·cases h;rfl
  rw[this];exact⟨by decide,by simp,λc hc=>by cases hc⟩
theorem WH {l:List Ae}(h:∀f∈l,f.length≤4000)(i:Int):(Ar l i).length≤4000:=by
 unfold Ar
 cases hi:l[i.toNat]? with
 | none=>exact YU _
 | some f=>exact h f (Y6 hi)
theorem XT {l:List Ae}(h:(l.length:Int)=5):∃a b c d e,l=[a,b,c,d,e]:=by
 match l,h with
 | [a,b,c,d,e],_=>exact⟨a,b,c,d,e,rfl⟩
 | [],h=>simp at h
 | [_],h=>simp at h
 | [_,_],h=>simp at h
 | [_,_,_],h=>simp at h
 | [_,_,_,_],h=>simp at h
 | _::_::_::_::_::_::r,h=>simp at h;omega
theorem Wj {s:Ae}{r:List Aa×Int}(h1:(Dv s).2=0)(h2:((Dv s).1.length:Int)=5)(h3:B1 (Ar (Dv s).1 1)=0)(hr:JO (Ar (Dv s).1 4)=some r)(h4:r.2=0)(h5:G4 (PG (Dv s).1 r.1)=0):I0 (PG (Dv s).1 r.1)=(s,0):=by
 obtain⟨k1,k2⟩:=Ox (s:=s) (l:=(Dv s).1) (by rw[← h1]);generalize(Dv s).1=l at *;obtain⟨a,b,c,d,e,rfl⟩:=XT h2;have e1:Ar [a,b,c,d,e] 1=b:=rfl;have e4:Ar [a,b,c,d,e] 4=e:=rfl;rw[e1] at h3;rw[e4] at hr;obtain⟨_,d2,_⟩:=QR hr h4;have hf:Eo (PG [a,b,c,d,e] r.1)=[a,b,c,d,e]:=by
  show[a,Lib.itoa (Bn b),c,d,(Iz r.1).1]=_;rw[Ou h3,d2]
 unfold I0 K7;rw[h5,hf,k1,k2];rfl
theorem Py {F:Nat}(hF:30000<F){s:Ae}(hs:s.length≤1000000):Jp F s=some (VE s):=by
 unfold Jp VE;rw[PP (by omega) (by omega),AC rfl]
 cases h1:decide ((Dv s).2=0) with
 | false=>rfl
 | true=>
  have hsm:∀f∈(Dv s).1,f.length≤4000:=λf hf=>Ro hf (YG h1);have hb:=λr=>Wj (s:=s) (r:=r);have h1':=YG h1
  cases h2:decide (((Dv s).1.length:Int)=5) with
  | false=>rfl
  | true=>
   have h5:=YG h2;have e1:=WH hsm 1;rw[A8 (by rfl),Bg (by omega) (by omega),BG (Ym (by omega)),Bg (by omega) (by omega)];obtain⟨r,hr⟩:=Sh (Ar (Dv s).1 4);rw[Oh (by omega),hr,AC rfl,Q0];simp only[Y3,Yt,YD]
   cases h3:decide (B1 (Ar (Dv s).1 1)=0) with
   | false=>rfl
   | true=>
    unfold W9
    cases h4:decide (r.2=0) with
    | false=>rfl
    | true=>
     rw[A8 (by rfl),Bg (by omega) (by omega),Bg (by omega) (by omega),Bg (by omega) (by omega)];have he:=L2 (F:=F) (M:=4000) hF (by decide) (t:=PG (Dv s).1 r.1) (VD hr);unfold PG at he;rw[he,AC rfl];simp only[Y3,Yt];show Bw (!decide ((I0 (PG (Dv s).1 r.1)).2=0)||!decide ((I0 (PG (Dv s).1 r.1)).1=s)) (some (zT,13)) (some (PG (Dv s).1 r.1,0))=_
     cases h6:decide (G4 (PG (Dv s).1 r.1)=0) with
     | true=>
      rw[hb r h1' h5 (YG h3) hr (YG h4) (YG h6),A8 (by simp)];rfl
     | false=>
      have:I0 (PG (Dv s).1 r.1)=([],G4 (PG (Dv s).1 r.1)):=by unfold I0;rw[h6];rfl
      rw[this,AL (by simp[of_decide_eq_false h6])];rfl
theorem R8 {l:List Ae}(h:Q3 l=true):(J1 l).length≤300000:=by
 unfold Q3 at h;simp only[Yv,Yq] at h;have key:∀l:List Ae,(l.all λf=>decide (f.length≤4000))=true→(l.flatMap Kk).length≤l.length*4002:=by
  intro l
  induction l with
  | nil=>intro _;simp
  | cons f l ih=>
   intro h;simp only[YT,Yv,Yq] at h;have:=ih (by simpa using h.2);rw[List.flatMap_cons,Yz,Yu,Nat.succ_mul];simp only[Kk,Yu];omega
 have h1:=key l h.2;have h2:l.length*4002≤64*4002:=Nat.mul_le_mul_right _ h.1;unfold J1;rw[Yu];omega
theorem QP {t:Ad}(h:(I0 t).2=0):G4 t=0∧Q3 (Eo t)=true∧I0 t=(J1 (Eo t),0):=by
 unfold I0 at h ⊢
 cases h1:decide (G4 t=0) with
 | false=>rw[h1] at h;exact absurd h (of_decide_eq_false h1)
 | true=>
  rw[h1] at h;simp only[Yw] at h ⊢;unfold K7 at h ⊢
  cases h2:Q3 (Eo t) with
  | false=>rw[h2] at h;cases h
  | true=>exact⟨YG h1,rfl,rfl⟩
theorem Rr {t:Ad}(h:(I0 t).2=0):VE (I0 t).1=(t,0):=by
 obtain⟨h1,h2,h3⟩:=QP h;obtain⟨_,a0,a1,_,_,a2⟩:=JL h1;obtain⟨p1,p2⟩:=RX a0 (by omega);have hv:JO (Iz t.fBody).1=some (t.fBody,0):=V8 (by rw[OW,a2]);rw[h3];unfold VE;rw[SO h2];have e4:Ar (Eo t) 1=Lib.itoa t.fAt:=rfl;have e6:Ar (Eo t) 4=(Iz t.fBody).1:=rfl;have em:PG (Eo t) t.fBody=t:=by
  unfold PG;rw[e4,p2];rfl
 simp only[e4,e6,p1,hv,Q0,decide_true,Y3,Yt,Y7];rw[show decide (((Eo t).length:Int)=5)=true from rfl];simp only[Y3,Yt];unfold W9;simp only[decide_true,Y3,Yt,em,h1]
theorem VI {α:Type}[Inhabited α]{l:List α}{x:Int}(h0:0≤x)(h:x<(l.length:Int)):l[x.toNat]? =some (Ar l x):=by
 have hx:x.toNat<l.length:=by omega
 simp[Ar,hx]
def TV (ts:List Ab):Prop:=∀x∈ts,G4 x.fTimer=0
theorem TV.set {ts:List Ab}(h:TV ts)(t:Ad)(now:Int):TV (Pf ts t now).2:=by
 unfold Pf
 cases h1 : !decide (G4 t=0) with
 | true=>exact h
 | false=>
  cases(!(decide (0≤now)&&decide (now≤1073741824))||decide (t.fAt<now)) with
  | true=>exact h
  | false=>
   cases Kr ts t.fID with
   | true=>exact h
   | false=>
    cases decide (256≤ts.length) with
    | true=>exact h
    | false=>
     intro x hx;rcases List.mem_cons.1 ((ER HH ⟨t,false⟩ ts).subset hx) with rfl | hx
     ·simpa using h1
     ·exact h x hx
theorem TV.ack {ts:List Ab}(h:TV ts)(id:Ae):TV (PZ ts id).2:=by
 unfold PZ
 cases !Kr ts id with
 | true=>exact h
 | false=>exact λx hx=>h x (List.mem_filter.1 hx).1
theorem TV.cancel {ts:List Ab}(h:TV ts)(id:Ae):TV (Is ts id).2:=by
 unfold Is
 cases Nk ts id with
 | true=>exact h
 | false=>exact h.ack id
theorem TV.do {ts:List Ab}(h:TV ts)(o:AQ):TV (X4 ts o).2:=by
 unfold X4
 cases decide (o.fKind=0) with
 | true=>exact h.set _ _
 | false=>
  cases decide (o.fKind=2) with
  | true=>exact h.ack _
  | false=>
   cases decide (o.fKind=3) with
   | true=>exact h.cancel _
   | false=>exact h
theorem TV.tell {ts:List Ab}(h:TV ts)(now:Int):TV (Me ts now):=λx hx=>by
 obtain⟨y,hy,rfl⟩:=List.mem_map.1 hx;exact h y hy
theorem PL {F:Nat}(hF:6000<F){l:List AQ}(hl:l.length≤300)(hs:∀o∈l,Sz o.fTimer):∃m ts,JE F l=some ⟨m⟩∧Ha m ts∧TV ts:=by
 unfold JE;have hN:Pv=some ⟨[]⟩:=rfl;rw[hN,AC rfl];obtain⟨o,h1,h2⟩:=E8 (body:=λσ:Int×List (Ae×Ab)=>DN F l σ.1 σ.2) (λσ=>0≤σ.1∧σ.1≤(l.length:Int)∧∃ts,Ha σ.2 ts∧TV ts) (λσ=>l.length-σ.1.toNat) (λo=>∃m ts,o = .go m∧Ha m ts∧TV ts) (λ⟨x,m⟩ ⟨h0,hx,ts,h,hv⟩=>by
  dsimp only at h0 hx h ⊢
  by_cases hlt:x<(l.length:Int)
  ·have hg:=VI h0 hlt;have ho:Sz (AQ.mk ((Ar l x).fKind) ((Ar l x).fNow) ((Ar l x).fTimer)).fTimer:=hs _ (Y6 hg);unfold DN;rw[AL (Y0 hlt),Bg h0 hlt]
   cases decide ((Ar l x).fKind=1) with
   | true=>
    obtain⟨m1,h3,h4⟩:=UX (F:=F) (by omega) h (Ar l x).fNow;obtain⟨m2,h5,h6⟩:=OI (F:=F) (by omega) h4 ho;refine .inl ⟨(x+1,m2),?_,⟨by show 0≤x+1;omega,by show x+1≤_;omega,_,h6,(hv.tell _).do _⟩,by show l.length-(x+1).toNat<l.length-x.toNat;omega⟩;rw[AL rfl,h3,AC rfl];dsimp only;rw[h5,AC rfl,AV (by omega) (by omega)]
   | false=>
    obtain⟨m2,h5,h6⟩:=OI (F:=F) (by omega) h ho;refine .inl ⟨(x+1,m2),?_,⟨by show 0≤x+1;omega,by show x+1≤_;omega,_,h6,hv.do _⟩,by show l.length-(x+1).toNat<l.length-x.toNat;omega⟩;rw[A8 rfl,h5,AC rfl,AV (by omega) (by omega)]
  ·refine .inr ⟨.go m,?_,m,ts,rfl,h,hv⟩;unfold DN;rw[A8 (Yx hlt)]) F (0,[]) ⟨YQ 0,by show(0:Int)≤_;omega,[],Ha.nil,λx hx=>by cases hx⟩ (by show l.length-0<F;omega)
 obtain⟨m,ts,rfl,h,hv⟩:=h2;exact⟨m,ts,by rw[AC h1,I6];rfl,h,hv⟩
end Go.Proofs.YtmmbdclkpijkpaaGreatDoor
namespace Go.Proofs.YtmmbdclkpijkpaaGreatDoor
open Go
set_option linter.unusedVariables false
set_option linter.unusedSimpArgs false
theorem PQ {t:Ad}(h:G4 t=0):(I0 t).2=0:=by
 obtain⟨h1,h2,h3,h4,h5,h6⟩:=JL h;have a1:t.fID.length≤64:=by unfold QK at h1;simp only[Yv,Yq] at h1;exact h1.2
 have a2:t.fTenant.length≤24:=by unfold CS at h4;simp only[Yv,Yq] at h4;exact h4.2
 have a3:t.fSource.length≤24:=by unfold CS at h5;simp only[Yv,Yq] at h5;exact h5.2
 have a4:(Lib.itoa t.fAt).length≤4000:=Nat.le_trans (TT t.fAt (by omega) (by omega)) (by decide);have a5:(Iz t.fBody).1.length≤4000:=by
  unfold Iz;unfold Kj at h6
  cases hw:whole t.fBody with
  | none=>rw[hw] at h6;cases h6
  | some f=>
   rw[hw] at h6;simp only at h6 ⊢;rw[h6];exact(LU h6).2.2.2.2
 have hk:Q3 (Eo t)=true:=by
  unfold Q3 Eo;simp only[Yu,Zc,YT,List.all_nil,YB,Yv,Yq];refine⟨by decide,by omega,a4,by omega,by omega,a5⟩
 unfold I0 K7;rw[h,hk];rfl
theorem MB {T:Type}(lt:T→T→Bool)(y:T):∀(ts:List T),(∀x∈ts,lt x y=true)→KJ lt y ts=ts++[y]
 | [],_=>rfl
 | z::r,h=>by
  rw[KJ,h z (List.mem_cons_self ..),Yw,MB lt y r λx hx=>h x (List.mem_cons_of_mem _ hx)];rfl
theorem Oo {F:Nat}(hF:30000<F){ts us:List Ab}(h:TI ts)(hv:TV ts)(m0:A5){k:Nat}(hk:k<(BF ts).length){m:List (Ae×Ab)}(hu:Ha m us)(hul:BF us=(BF ts).take k) :
  ∃m' us',C4 F (BF ts,m0) (k:Int) m=some (.next ((k:Int)+1,m'))∧Ha m' us'∧BF us'=(BF ts).take (k+1):=by
 have hll:=h.llen;have hg:(BF ts)[k]? =some (Ar (BF ts) (k:Int)):=by have:=WI (l:=BF ts) (x:=(k:Int)) (by omega) (by omega);rwa [Int.toNat_natCast] at this
 unfold C4;rw[AL (Y0 (by show(k:Int)<((BF ts).length:Int);omega)),Bg (by omega) (by show(k:Int)<((BF ts).length:Int);omega)];generalize Ar (BF ts) (k:Int)=t at hg;have hm:=Y6 hg;obtain⟨x,hx,rfl⟩:=List.mem_map.1 hm;have ht:=h.sm x hx;have he:=PQ (hv x hx);have h8:=QP he;have hlen:(I0 x.fTimer).1.length≤1000000:=by rw[h8.2.2];exact Nat.le_trans (R8 h8.2.1) (by decide)
 rw[L2 (F:=F) hF (by decide) ht.body,AC rfl,Py (F:=F) hF hlen,Rr he,AC rfl,he,A8 (by rfl),A8 (by rfl)];obtain⟨m',h1,h2⟩:=Qj (F:=F) (by omega) hu ht 0;have hmem:∀y∈us,QD y.fTimer x.fTimer=true:=λy hy=>by
  have:y.fTimer∈(BF ts).take k:=by rw[← hul];exact List.mem_map.2 ⟨y,hy,rfl⟩
  obtain⟨j,hj⟩:=List.mem_iff_getElem?.1 this;rw[YR] at hj
  split at hj
  ·obtain⟨b1,e1⟩:=List.getElem?_eq_some_iff.1 hj;obtain⟨b2,e2⟩:=List.getElem?_eq_some_iff.1 hg;have:=List.pairwise_iff_getElem.1 h.lst j k b1 b2 (by assumption)
   rwa [e1,e2] at this
  ·cases hj
 have hne:Kr us x.fTimer.fID=false:=List.any_eq_false.2 λy hy=>by
  have:y.fTimer∈(BF ts).take k:=by rw[← hul];exact List.mem_map.2 ⟨y,hy,rfl⟩
  obtain⟨j,hj⟩:=List.mem_iff_getElem?.1 this;rw[YR] at hj
  split at hj
  ·obtain⟨b1,e1⟩:=List.getElem?_eq_some_iff.1 hj;obtain⟨b2,e2⟩:=List.getElem?_eq_some_iff.1 hg;have hp:(BF ts).Pairwise λa b=>a.fID≠b.fID:=List.pairwise_map.2 h.ids;have:=List.pairwise_iff_getElem.1 hp j k b1 b2 (by assumption);rw[e1,e2] at this;simpa using this
  ·cases hj
 have hlu:us.length=k:=by
  have:(BF us).length=((BF ts).take k).length:=by rw[hul]
  rw[List.length_take] at this;unfold BF at this hk;rw[Y4] at this;rw[Y4] at hk this;omega
 have hA:Pf us x.fTimer 0=(0,us++[⟨x.fTimer,false⟩]):=by
  unfold Pf;obtain⟨_,i2,i3,_⟩:=JL (hv x hx);have c1:(!(decide ((0:Int)≤0)&&decide ((0:Int)≤1073741824))||decide (x.fTimer.fAt<0))=false:=by
   have : ¬ x.fTimer.fAt<0:=by omega
   simp[this]
  have c2:decide (256≤us.length)=false:=Yx (by unfold BF at hk hll;rw[Y4] at hk hll;omega);rw[hv x hx,c1,hne,c2,MB HH ⟨x.fTimer,false⟩ us hmem];rfl
 rw[hA] at h1 h2;refine⟨m',us++[⟨x.fTimer,false⟩],?_,h2,?_⟩
 ·rw[h1,AC rfl];unfold CM;rw[A8 (by rfl),AV (by omega) (by omega)]
 ·rw[List.take_add_one,hg,← hul];simp[BF]
theorem Mv {l:List AQ}(ho:∀o∈l,X6 o.fTimer.fBody):GR 40000 l=some true:=by
 obtain⟨b,hb,hs⟩:=TQ (F:=40000) (by decide) ho;unfold GR;rw[hb,AC rfl]
 cases b with
 | false=>rw[AL (by rfl),MV,AC rfl]
 | true=>
  obtain⟨hl,hs⟩:=hs rfl;obtain⟨m,ts,h1,h,hv⟩:=PL (F:=40000) (by decide) hl hs;have hll:=h.ti.llen;have hN:Pv=some ⟨[]⟩:=rfl;rw[A8 (by rfl),h1,AC rfl,hN,AC rfl,L0 h,AC rfl];obtain⟨o,h4,h5⟩:=E8 (body:=λσ:Int×List (Ae×Ab)=>C4 40000 (BF ts,⟨m⟩) σ.1 σ.2) (λσ=>∃ (k:Nat) (us:List Ab),σ.1=(k:Int)∧k≤(BF ts).length∧Ha σ.2 us∧BF us=(BF ts).take k) (λσ=>(BF ts).length-σ.1.toNat) (λo=>∃m' us,o = .go m'∧Ha m' us∧BF us=BF ts) (λ⟨x,m1⟩ ⟨k,us,hx,hk,hu,hul⟩=>by
   dsimp only at hx hu hul ⊢;subst hx
   by_cases hlt:k<(BF ts).length
   ·obtain⟨m',us',g1,g2,g3⟩:=Oo (F:=40000) (by decide) h.ti hv ⟨m⟩ hlt hu hul;exact .inl ⟨_,g1,⟨k+1,us',by show(k:Int)+1=((k+1:Nat):Int);omega,by omega,g2,g3⟩,by show(BF ts).length-((k:Int)+1).toNat<(BF ts).length-((k:Int)).toNat;omega⟩
   ·refine .inr ⟨.go m1,?_,m1,us,rfl,hu,?_⟩
    ·unfold C4;rw[A8 (Yx (by show ¬ ((k:Int)<((BF ts).length:Int));omega))]
    ·rw[hul,List.take_of_length_le (by omega)]) 40000 (0,[]) ⟨0,[],rfl,YU _,Ha.nil,rfl⟩ (by show(BF ts).length-0<40000;omega)
  obtain⟨m',us,rfl,hu,hul⟩:=h5;rw[AC h4,I6];unfold El;rw[L0 hu,AC rfl];dsimp only;rw[hul,h.ti.same (F:=40000) (by decide) (List.Sublist.refl _),AC rfl,AL rfl,MV,AC rfl];rfl
end Go.Proofs.YtmmbdclkpijkpaaGreatDoor
namespace Go.Proofs.YtmmbdclkpijkpaaGreatDoor.lawTimerRecovers
open Go
set_option linter.unusedVariables false
theorem Xe {t:Ad}(h2:T2 t=true):X6 t.fBody:=λc hc=>by
 unfold T2 at h2;simp only[Yv,YL] at h2;have h3:=h2.2.1 c hc;unfold T1 at h3;simp only[Yv] at h3;exact⟨h3.1.1.2,(JG h3.2).2⟩
theorem Wr {o:AQ}(h:R9 o=true):X6 o.fTimer.fBody:=by
 unfold R9 at h;simp only[Yv] at h;exact Xe h.2
theorem Yf:Yo:=λl h=>⟨40000,Mv λo ho=>Wr (by
 simp only[Yv,YL] at h;exact h.1 o ho)⟩
end Go.Proofs.YtmmbdclkpijkpaaGreatDoor.lawTimerRecovers
