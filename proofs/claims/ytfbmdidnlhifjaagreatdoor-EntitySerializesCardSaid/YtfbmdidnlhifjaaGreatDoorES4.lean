/-
  Texts of the proof, put together: LvK, LvL, LnS, LnA, LnB, LnC, PN, LnF, LnG, LnH, LnI, LnJ, LnK, LnL, LnM, LwESerial.
-/
import Derived.Test.YtfbmdidnlhifjaaGreatDoorES3
import Derived.Sort.Walk0
namespace Go.Proofs.YtfbmdidnlhifjaaGreatDoor
open Go
set_option linter.unusedVariables false
set_option linter.unusedSimpArgs false
def Qy (c:UInt8):Ak:=bif (decide (c=34)||decide (c=92)) then[92,c] else[c]
theorem Qx {s:Ak}{k:Nat}{c:UInt8}(h:s[k]? =some c):KF (s.take (k+1))=KF (s.take k)++Qy c:=by
 rw[List.take_add_one,h];simp[KF,List.flatMap_append,Qy]
theorem NA (s:Ak):(KF s).length≤3*s.length:=by
 rw[KE];have h1:s.count 34≤s.length:=List.count_le_length;have h2:s.count 92≤s.length:=List.count_le_length;omega
theorem NU {s:Ak}{x:Int}{c:UInt8}(h0:0≤x)(h:s[x.toNat]? =some c):List.take (Int.toNat (x+1)-Int.toNat x) (List.drop (Int.toNat x) s)=[c]:=by
 have hl:=(List.getElem?_eq_some_iff.1 h).1;have hc:=(List.getElem?_eq_some_iff.1 h).2;rw[show Int.toNat (x+1)-Int.toNat x=1 from by omega,List.drop_eq_getElem_cons hl,hc];rfl
theorem Ur {s:Ak}{x:Int}{c:UInt8}(h:s[x.toNat]? =some c):decide (KO s x=34)=decide (c=34):=by
 rw[Mx h,Vl,decide_eq_true_iff,decide_eq_true_iff,← UInt8.toNat_inj];show _↔c.toNat=34;omega
theorem Uq {s:Ak}{x:Int}{c:UInt8}(h:s[x.toNat]? =some c):decide (KO s x=92)=decide (c=92):=by
 rw[Mx h,Vl,decide_eq_true_iff,decide_eq_true_iff,← UInt8.toNat_inj];show _↔c.toNat=92;omega
theorem LW {s out:Ak}{x:Int}{c:UInt8}(h0:0≤x)(hx:x<(s.length:Int))(hs:s.length≤1152921504606846976)(ho:out.length≤3*s.length+1)(hc:s[x.toNat]? =some c):CE s out x=some (.next (out++Qy c,x+1)):=by
 unfold CE Qy;rw[Az (UT hx),AH h0 hx,Ur hc,Uq hc,NU h0 hc];have l1:(([92]:Ak).length:Int)=1:=rfl;have l2:(([c]:Ak).length:Int)=1:=rfl
 cases hq:(decide (c=34)||decide (c=92)) with
 | true=>
  have l3:((out++([92]:Ak)).length:Int)=out.length+1:=by rw[Vd,V2,Int.natCast_add];rfl
  rw[Az rfl,l1,l2,l3,AA (by omega) (by omega),AA (by omega) (by omega),Gy (by omega) (by omega),Gy (by omega) (by omega),AA (by omega) (by omega),Vo];rfl
 | false=>
  rw[Ao rfl,l2,AA (by omega) (by omega),Gy (by omega) (by omega),Gy (by omega) (by omega),AA (by omega) (by omega)];rfl
theorem Cn {R V:Type}(K:V→Option R)(v:V):B9 K (.go v)=K v:=rfl
theorem Kk {R V:Type}(K:V→Option R)(r:R):B9 K (.ret r)=some r:=rfl
theorem MU {s out:Ak}{x:Int}(hx : ¬ x<(s.length:Int)):CE s out x=some (.out (.go out)):=by
 unfold CE;rw[Ao (UR hx)]
theorem PO {out:Ak}(h:out.length≤4611686018427387904):DB out=some (out++[34]):=by
 unfold DB;have l1:(([34]:Ak).length:Int)=1:=rfl;rw[l1,AA (by omega) (by omega)]
theorem HN {F:Nat}{s:Ak}(hF:s.length<F)(hs:s.length≤1152921504606846976):Iy F s=some (HS s):=by
 obtain⟨o,h1,h2⟩:=DJ (body:=λσ=>CE s σ.1 σ.2) (λσ=>0≤σ.2∧σ.2≤(s.length:Int)∧σ.1=34::KF (s.take σ.2.toNat)) (λσ=>s.length-σ.2.toNat)
  (λo=>B9 (λν=>DB ν) o=some (HS s)) (λσ ⟨h0,hl,ha⟩=>by
   obtain⟨out,x⟩:=σ;simp only at h0 hl ha;show(∃s',CE s out x=_∧_)∨∃o,CE s out x=_∧_;have hb:=NA (s.take x.toNat);have hb2:(s.take x.toNat).length≤s.length:=by rw[List.length_take];omega
   have hol:out.length≤3*s.length+1:=by rw[ha,UZ];omega
   by_cases hx:x<(s.length:Int)
   ·obtain⟨c,hc⟩:∃c,s[x.toNat]? =some c:=⟨s[x.toNat]'(by omega),UW (by omega)⟩
    have a1:0≤x+1:=by omega
    have a2:x+1≤s.length:=by omega
    have a3:s.length-(x+1).toNat<s.length-x.toNat:=by omega
    have a4:out++Qy c=34::KF (s.take (x+1).toNat):=by rw[show(x+1).toNat=x.toNat+1 from by omega,Qx hc,ha];rfl
    exact .inl ⟨(out++Qy c,x+1),LW h0 hx hs hol hc,⟨a1,a2,a4⟩,a3⟩
   ·have e:x.toNat=s.length:=by omega
    have hk:DB out=some (out++[34]):=PO (by omega);have hf:out++[34]=HS s:=by rw[ha,e,List.take_length];rfl
    exact .inr ⟨.go out,MU hx,(Cn (λν=>DB ν) out).trans (hk.trans (congrArg some hf))⟩) F ([34],0) ⟨Vm 0,by show(0:Int)≤s.length;omega,by show([34]:Ak)=34::KF (s.take 0);simp[KF]⟩ (by show s.length-0<F;omega)
 unfold Iy;rw[AF h1,h2]
section
variable {M : Nat} {v : List Ab}
theorem UA (a b c d e:Ak):(((a++b)++c)++d)++e=a++(b++(c++d)++e):=by simp
theorem UB (a b c d:Ak):((a++b)++c)++d=a++([]++(b++c)++d):=by simp
theorem UC (a b c:Ak):(a++b)++c=a++(b++[]++c):=by simp
theorem UD (a b:Ak):a++b=a++([]++[]++b):=by simp
theorem SO (a:Ak)(c:UInt8):((a++[c]).length:Int)=a.length+1:=by rw[Vd,V2,Int.natCast_add];rfl
theorem Ny (a b:Ak):((a++b).length:Int)=a.length+b.length:=by rw[Vd,Int.natCast_add]
theorem Lo {F:Nat}{i:Int}{rec:List Ab→Int→Option Ak}{out tx:Ak}{at_ x:Int}{m:Bool}{p q:Int}{pc:Ab}{key:Option Ak}{last:Option Ak}(hpc:Ae v i=pc)(hm:decide (pc.fKind=6)=m)(hx:x<pc.fN)(hx0:0≤x)(hpcN:pc.fN≤9223372036854775807)
  (ha0:0≤at_) (haM:at_<v.length) (hvM:(v.length:Int)≤1152921504606846976) (hk:BW m last key=true) (hkey:∀s,key=some s→(Ae v at_).fStr=s∧s.length<F∧s.length≤1152921504606846976) (hp:p=bif m then at_+1 else at_) (hr:rec v p=some tx) (hq:D7 F v p=some q)
  (hlen:((out++(EJ (decide (x=0))++KX key++tx)).length:Int)≤4611686018427387904):DM F v i rec out at_ x=some (.next (out++(EJ (decide (x=0))++KX key++tx),q,x+1)):=by
 have hb:(([44]:Ak).length:Int)=1:=rfl;have hd:(([58]:Ak).length:Int)=1:=rfl;have hx1:Ba (BB .i64 (x+1)) (some (Stp.next (out++(EJ (decide (x=0))++KX key++tx),q,x+1)):Option (Stp (Ak×Int×Int) (Out Ak Ak)))=some (Stp.next (out++(EJ (decide (x=0))++KX key++tx),q,x+1)):=AA (by omega) (by omega);unfold DM;rw[hpc,Az (UT hx),hm]
 cases ha:decide (x=0) with
 | true=>
  rw[ha] at hx1 hlen;simp only[UU] at ha;rw[Ao (UR (by omega))]
  cases m with
  | true=>
   cases key with
   | none=>simp[BW] at hk
   | some s=>
    obtain⟨e1,e2,e3⟩:=hkey s rfl;simp only[Vf] at hp;have e:((out++HS s)++[58])++tx=out++(EJ true++KX (some s)++tx):=UB _ _ _ _;rw[← e] at hx1 hlen ⊢;have h1:=Ny ((out++HS s)++[58]) tx;have h2:=SO (out++HS s) 58;have h3:=Ny out (HS s);rw[Az rfl,AH ha0 haM,e1,HN e2 e3,AF rfl,AA (by omega) (by omega),hd,AA (by omega) (by omega),AA (by omega) (by omega),← hp,hr,AF rfl,AA (by omega) (by omega),hq,AF rfl,hx1]
  | false=>
   cases key with
   | some s=>simp[BW] at hk
   | none=>
    simp only[Va] at hp;have e:out++tx=out++(EJ true++KX none++tx):=UD _ _;rw[← e] at hx1 hlen ⊢;have h1:=Ny out tx;rw[Ao rfl,← hp,hr,AF rfl,AA (by omega) (by omega),hq,AF rfl,hx1]
 | false=>
  rw[ha] at hx1 hlen;simp only[UV] at ha;rw[Az (UT (by omega))]
  cases m with
  | true=>
   cases key with
   | none=>simp[BW] at hk
   | some s=>
    obtain⟨e1,e2,e3⟩:=hkey s rfl;simp only[Vf] at hp;have e:(((out++[44])++HS s)++[58])++tx=out++(EJ false++KX (some s)++tx):=UA _ _ _ _ _;rw[← e] at hx1 hlen ⊢;have h1:=Ny (((out++[44])++HS s)++[58]) tx;have h2:=SO ((out++[44])++HS s) 58;have h3:=Ny (out++[44]) (HS s);have h4:=SO out 44;rw[hb,AA (by omega) (by omega),Az rfl,AH ha0 haM,e1,HN e2 e3,AF rfl,AA (by omega) (by omega),hd,AA (by omega) (by omega),AA (by omega) (by omega),← hp,hr,AF rfl,AA (by omega) (by omega),hq,AF rfl,hx1]
  | false=>
   cases key with
   | some s=>simp[BW] at hk
   | none=>
    simp only[Va] at hp;have e:(out++[44])++tx=out++(EJ false++KX none++tx):=UC _ _ _;rw[← e] at hx1 hlen ⊢;have h1:=Ny (out++[44]) tx;have h4:=SO out 44;rw[hb,AA (by omega) (by omega),Ao rfl,← hp,hr,AF rfl,AA (by omega) (by omega),hq,AF rfl,hx1]
theorem OR {i:Int}{pc:Ab}{out:Ak}(hpc:Ae v i=pc)(h:out.length≤4611686018427387904):Iv v i out=some (QE pc out):=by
 unfold Iv QE;have l1:(([123]:Ak).length:Int)=1:=rfl;have l2:(([91]:Ak).length:Int)=1:=rfl;have l3:(([125]:Ak).length:Int)=1:=rfl;have l4:(([93]:Ak).length:Int)=1:=rfl;have h1:=Ny [123] out;have h2:=Ny [91] out;rw[hpc]
 cases hk:decide (pc.fKind=6) with
 | true=>rw[Az rfl,AA (by omega) (by omega),AA (by omega) (by omega)];rfl
 | false=>rw[Ao rfl,AA (by omega) (by omega),AA (by omega) (by omega)];rfl
theorem Kd {F:Nat}{p:Int}{c:Ab}{r:List Ab}(h0:0≤p)(hpM:p≤1152921504606846976)(hd:v.drop p.toNat=c::r)(hp:pl c=true)(hn:decide (0<c.fN)=false)(hs:c.fStr.length<F+1)(hs2:c.fStr.length≤1152921504606846976)(hi:BB .i64 c.fInt=true):GJ (F+2) v p=some (IC c):=by
 obtain⟨g1,g2,g3⟩:=B8 h0 hd;rw[GJ];unfold LU IC;rw[AH h0 g3,Co h0 hd]
 cases k1:decide (c.fKind=1) with
 | true=>rw[Az rfl];rfl
 | false=>
 rw[Ao rfl]
 cases k2:decide (c.fKind=2) with
 | true=>rw[Az rfl];cases decide (c.fInt=1)<;>rfl
 | false=>
 rw[Ao rfl]
 cases k3:decide (c.fKind=3) with
 | true=>rw[Az rfl,Bx hi];rfl
 | false=>
 rw[Ao rfl]
 cases k4:decide (c.fKind=4) with
 | true=>rw[Az rfl,HN hs hs2,AF rfl];rfl
 | false=>
 have hgo:DM (F+1) v p (GJ (F+1)) [] (p+1) 0=some (.out (.go [])):=by
  unfold DM;rw[Co h0 hd,Ao hn]
 rw[Ao rfl,AA (by omega) (by omega),AF (HF (o:=.go []) hgo),Cn,OR (Co h0 hd) (by simp)];simp only[Va,QE]
 cases decide (c.fKind=6)<;>rfl
end
section
variable {M : Nat} {v : List Ab}
theorem Gp {α:Type}[Inhabited α](a:α):ov (some a)=a:=rfl
theorem RF {at_:Int}{k:Option Ak}{r:List Ab}(h0:0≤at_)(hA:Ie M v){F:Nat}(hF:M<F)(hd:v.drop at_.toNat=Bu k++r):∀s,k=some s→(Ae v at_).fStr=s∧s.length<F∧s.length≤1152921504606846976:=λs e=>by
 subst e;have hd':v.drop at_.toNat=⟨4,0,s,0⟩::r:=by simpa[Bu] using hd
 have h1:=Co h0 hd';have h2:=(hA.hc _ (Vb (B8 h0 hd').1)).1;have hM:=hA.hM;simp only at h2;exact⟨by rw[h1],by omega,by omega⟩
theorem MT (hA:Ie M v):∀(g:Fo) (F L:Nat) (i at_ x:Int) (out:Ak) (m:Bool) (last:Option Ak) (ys:List Ab) (pc:Ab),Ae v i=pc→decide (pc.fKind=6)=m→pc.fN≤9223372036854775807→g.wf m last=true→v.drop at_.toNat=g.flat++ys→0≤at_→at_≤v.length→pc.fN=x+g.cnt→0≤x→(out++g.txt (decide (x=0))).length≤4611686018427387904→g.cnt<L→3*M+5+g.flat.length<F→
  ∃o,BD (λσ=>DM F v i (GJ F) σ.1 σ.2.1 σ.2.2) L (out,at_,x)=some o∧B9 (λν=>Iv v i ν) o=some (QE pc (out++g.txt (decide (x=0)))):=by
 have hM:=hA.hM;have hvM:=hA.hv;intro g
 induction g with
 | nil=>
  intro F L i at_ x out m last ys pc hpc hm hpN hw hd h0 h1 hN hx hlen hL hF;obtain⟨L,rfl⟩:∃K,L=K+1:=⟨L-1,by omega⟩
  have hgo:DM F v i (GJ F) out at_ x=some (.out (.go out)):=by
   simp only[Fo.cnt] at hN;unfold DM;rw[hpc,Ao (UR (by omega))]
  refine⟨.go out,HF hgo,?_⟩;simp only[Fo.txt,Vz] at hlen ⊢;rw[Cn,OR hpc hlen]
 | cell k c r ih=>
  intro F L i at_ x out m last ys pc hpc hm hpN hw hd h0 h1 hN hx hlen hL hF;simp only[Fo.wf,UX,Vq] at hw;obtain⟨⟨⟨w1,w2⟩,w3⟩,w4⟩:=hw;simp only[Fo.flat,Vo,VD] at hd;simp only[Fo.cnt] at hN hL;simp only[Fo.flat,Vd,UZ] at hF;obtain⟨L,rfl⟩:∃K,L=K+1:=⟨L-1,by omega⟩
  obtain⟨F,rfl⟩:∃K,F=K+2:=⟨F-2,by omega⟩
  have hd1:=Cq h0 hd;have hkl:=JQ w1;obtain⟨g1,g2,g3⟩:=B8 (by omega) hd1;have hcM:=hA.hc c (Vb g1);have hp:at_+(Bu k).length=bif m then at_+1 else at_:=by rw[hkl];cases m<;>simp
  have hq:=hA.next (F:=F+2) (by omega) (p:=at_+(Bu k).length) (by omega) (by omega);rw[Mh (f:=.cell none c .nil) (ys:=r.flat++ys) rfl (OL w2 w3) hd1] at hq;have e:out++(Fo.cell k c r).txt (decide (x=0))=(out++(EJ (decide (x=0))++KX k++IC c))++r.txt (decide (x+1=0)):=by
   rw[UR (show ¬ x+1=0 by omega)];simp[Fo.txt]
  rw[e] at hlen ⊢;have hl2:((out++(EJ (decide (x=0))++KX k++IC c)).length:Int)≤4611686018427387904:=by rw[Vd] at hlen;omega
  have hat:at_<v.length:=by omega
  have hb:=Lo hpc hm (by omega) hx hpN h0 hat (by omega) w1 (RF h0 hA (F:=F+2) (by omega) hd) hp (Kd (F:=F) (by omega) (by omega) hd1 w2 w3 (by omega) (by omega) hcM.2.1) hq hl2;obtain⟨o,ho1,ho2⟩:=ih (F+2) L i (at_+(Bu k).length+((Fo.cell none c .nil).flat.length:Int)) (x+1) (out++(EJ (decide (x=0))++KX k++IC c)) m k ys pc hpc hm hpN w4 (by rw[show(Fo.cell none c .nil).flat.length=1 from rfl];exact g2) (by omega) (by rw[show(Fo.cell none c .nil).flat.length=1 from rfl];omega) (by omega) (by omega) hlen (by omega) (by omega);exact⟨o,L0 hb ho1,ho2⟩
 | node k c kids r ihk ih=>
  intro F L i at_ x out m last ys pc hpc hm hpN hw hd h0 h1 hN hx hlen hL hF;simp only[Fo.wf,UX,UU] at hw;obtain⟨⟨⟨⟨⟨w1,w2⟩,w3⟩,w5⟩,w6⟩,w4⟩:=hw;simp only[Fo.flat,Vo,VD] at hd;simp only[Fo.cnt] at hN hL;simp only[Fo.flat,Vd,UZ] at hF;obtain⟨L,rfl⟩:∃K,L=K+1:=⟨L-1,by omega⟩
  obtain⟨F,rfl⟩:∃K,F=K+1:=⟨F-1,by omega⟩
  have hd1:=Cq h0 hd;have hkl:=JQ w1;obtain⟨g1,g2,g3⟩:=B8 (by omega) hd1;have hcN:=(hA.hc c (Vb g1)).2.2;have hp:at_+(Bu k).length=bif m then at_+1 else at_:=by rw[hkl];cases m<;>simp
  have hq:=hA.next (F:=F+1) (by omega) (p:=at_+(Bu k).length) (by omega) (by omega);have hfl:(Fo.node none c kids .nil).flat=c::kids.flat:=by simp[Fo.flat,Bu]
  rw[Mh (f:=.node none c kids .nil) (ys:=r.flat++ys) rfl (OK w2 w3 w5 w6) (by rw[hd1,hfl];simp)] at hq;have hcf:=BR kids;have hvl:(v.drop (at_+(Bu k).length+1).toNat).length=kids.flat.length+(r.flat.length+ys.length):=by rw[g2];simp
  rw[List.length_drop] at hvl;have e:out++(Fo.node k c kids r).txt (decide (x=0))=(out++(EJ (decide (x=0))++KX k++QE c (kids.txt true)))++r.txt (decide (x+1=0)):=by
   rw[UR (show ¬ x+1=0 by omega)];simp[Fo.txt]
  rw[e] at hlen ⊢;have hl2:((out++(EJ (decide (x=0))++KX k++QE c (kids.txt true))).length:Int)≤4611686018427387904:=by rw[Vd] at hlen;omega
  have hl3:(kids.txt true).length≤4611686018427387904:=by
   have:=Mw c (kids.txt true);rw[Vd,Vd] at hl2;omega
  have hat:at_<v.length:=by omega
  have hrec:GJ (F+1) v (at_+(Bu k).length)=some (QE c (kids.txt true)):=by
   rw[GJ];unfold LU;have ha:=(I2 w2 w3).1;rw[AH (by omega) g3,Co (by omega) hd1,Ao (UR (by omega)),Ao (UR (by omega)),Ao (UR (by omega)),Ao (UR (by omega)),AA (by omega) (by omega)];obtain⟨o,ho1,ho2⟩:=ihk F F (at_+(Bu k).length) (at_+(Bu k).length+1) 0 [] _ none (r.flat++ys) c (Co (by omega) hd1) rfl hcN w6 (by rw[g2]) (by omega) (by omega) (by omega) (Vm 0) hl3 (by omega) (by omega);rw[AF ho1,ho2];rfl
  have hb:=Lo hpc hm (by omega) hx hpN h0 hat (by omega) w1 (RF h0 hA (F:=F+1) (by omega) hd) hp hrec hq hl2;obtain⟨o,ho1,ho2⟩:=ih (F+1) L i (at_+(Bu k).length+((Fo.node none c kids .nil).flat.length:Int)) (x+1) (out++(EJ (decide (x=0))++KX k++QE c (kids.txt true))) m k ys pc hpc hm hpN w4 (by
   have:=Cq (by omega) g2;rw[hfl,UZ,show at_+(Bu k).length+((kids.flat.length+1:Nat):Int)=at_+(Bu k).length+1+kids.flat.length from by omega];exact this) (by omega) (by rw[hfl,UZ];omega) (by omega) (by omega) hlen (by omega) (by omega)
  exact⟨o,L0 hb ho1,ho2⟩
theorem Rf (hA:Ie M v){F:Nat}{p:Int}{f:Fo}{ys:List Ab}(h0:0≤p)(h1:f.one=true)(hw:f.wf false none=true)(hd:v.drop p.toNat=f.flat++ys)(hF:3*M+6+f.flat.length<F)(hlen:(f.txt true).length≤4611686018427387904):GJ F v p=some (f.txt true):=by
 have hM:=hA.hM;have hvM:=hA.hv
 cases f with
 | nil=>cases h1
 | cell k c r=>
  cases k with
  | some s=>cases h1
  | none=>
   cases r with
   | nil=>
    simp only[Fo.wf,UX,Vq] at hw;obtain⟨F,rfl⟩:∃K,F=K+2:=⟨F-2,by omega⟩
    have hd':v.drop p.toNat=c::ys:=by simpa[Fo.flat,Bu] using hd
    have hcM:=hA.hc c (Vb (B8 h0 hd').1);rw[Kd h0 (by have:=(B8 h0 hd').2.2;omega) hd' hw.1.1.2 hw.1.2 (by omega) (by omega) hcM.2.1];simp[Fo.txt,EJ,KX]
   | cell _ _ _=>cases h1
   | node _ _ _ _=>cases h1
 | node k c kids r=>
  cases k with
  | some s=>cases h1
  | none=>
   cases r with
   | nil=>
    simp only[Fo.wf,UX,UU] at hw;obtain⟨⟨⟨⟨⟨w1,w2⟩,w3⟩,w5⟩,w6⟩,w4⟩:=hw;have hd':v.drop p.toNat=c::(kids.flat++ys):=by simpa[Fo.flat,Bu] using hd
    obtain⟨g1,g2,g3⟩:=B8 h0 hd';have hcN:=(hA.hc c (Vb g1)).2.2;have hcf:=BR kids;simp only[Fo.flat,Bu,VI,Vz,UZ] at hF;have et:(Fo.node none c kids .nil).txt true=QE c (kids.txt true):=by simp[Fo.txt,EJ,KX]
    rw[et] at hlen ⊢;have hbl:=Mw c (kids.txt true);obtain⟨F,rfl⟩:∃K,F=K+1:=⟨F-1,by omega⟩
    rw[GJ];unfold LU;have ha:=(I2 w2 w3).1;rw[AH h0 g3,Co h0 hd',Ao (UR (by omega)),Ao (UR (by omega)),Ao (UR (by omega)),Ao (UR (by omega)),AA (by omega) (by omega)];obtain⟨o,ho1,ho2⟩:=MT hA kids F F p (p+1) 0 [] _ none ys c (Co h0 hd') rfl hcN w6 g2 (by omega) (by omega) (by omega) (Vm 0) (by show(kids.txt true).length≤_;omega) (by omega) (by omega);rw[AF ho1,ho2];rfl
   | cell _ _ _=>cases h1
   | node _ _ _ _=>cases h1
theorem PV {F:Nat}{K:Option Int}(hF:v.length<F)(hv:v.length≤1152921504606846976):Bp (BD (λσ=>Em v σ) F 0) (B9 λ_=>K)=bif v.any E7 then some 2 else K:=by
 obtain⟨o,h1,h2⟩:=DJ (body:=λσ=>Em v σ) (λx=>0≤x∧x≤(v.length:Int)∧(v.take x.toNat).any E7=false) (λx=>v.length-x.toNat)
  (λo=>B9 (λ_=>K) o=bif v.any E7 then some 2 else K) (λx ⟨h0,hl,ha⟩=>by
   by_cases hx:x<(v.length:Int)
   ·obtain⟨c,hc⟩:∃c,v[x.toNat]? =some c:=⟨v[x.toNat]'(by omega),UW (by omega)⟩
    have hat:Ae v x=c:=by simp[Ae,hc]
    have ho:(decide (c.fKind=3)&&(decide (c.fInt<(-1000000000000))||decide (1000000000000<c.fInt)))=E7 c:=by
     unfold E7
     cases decide (c.fKind=3) with
     | false=>rfl
     | true=>
      rw[Vs,Vs,Vl];simp only[V7,UU,Vq,Bool.and_eq_false_iff,UV];omega
    have hb:Em v x=Bg (E7 c) (some (.out (.ret 2))) (some (.next (x+1))):=by
     unfold Em;rw[Az (UT hx),AH h0 hx,hat,ho,AA (by omega) (by omega)]
    cases hq:E7 c with
    | true=>
     refine .inr ⟨.ret 2,hb.trans (Az hq),?_⟩;have:v.any E7=true:=List.any_eq_true.2 ⟨c,Vb hc,hq⟩;rw[Kk,this];rfl
    | false=>
     have a3:(v.take (x+1).toNat).any E7=false:=by
      rw[show(x+1).toNat=x.toNat+1 from by omega,List.take_add_one,hc,List.any_append,ha];simp[hq]
     exact .inl ⟨x+1,hb.trans (Ao hq),⟨by omega,by omega,a3⟩,by omega⟩
   ·refine .inr ⟨.go (),by unfold Em;rw[Ao (UR hx)],?_⟩;rw[show x.toNat=v.length from by omega,List.take_length] at ha;rw[Cn,ha];rfl) F 0 ⟨Vm 0,by omega,by simp⟩ (by simpa using hF)
 rw[AF h1,h2]
theorem PU {F:Nat}{K:Option Int}(hF:v.length<F)(hv:v.length≤1152921504606846976):Bp (BD (λσ=>El v σ) F 0) (B9 λ_=>K)=bif v.any Eb then some 3 else K:=by
 obtain⟨o,h1,h2⟩:=DJ (body:=λσ=>El v σ) (λx=>0≤x∧x≤(v.length:Int)∧(v.take x.toNat).any Eb=false) (λx=>v.length-x.toNat)
  (λo=>B9 (λ_=>K) o=bif v.any Eb then some 3 else K) (λx ⟨h0,hl,ha⟩=>by
   by_cases hx:x<(v.length:Int)
   ·obtain⟨c,hc⟩:∃c,v[x.toNat]? =some c:=⟨v[x.toNat]'(by omega),UW (by omega)⟩
    have hat:Ae v x=c:=by simp[Ae,hc]
    have hb:El v x=Bg (Eb c) (some (.out (.ret 3))) (some (.next (x+1))):=by
     unfold El;rw[Az (UT hx),AH h0 hx,hat,AA (by omega) (by omega)];rfl
    cases hq:Eb c with
    | true=>
     refine .inr ⟨.ret 3,hb.trans (Az hq),?_⟩;have:v.any Eb=true:=List.any_eq_true.2 ⟨c,Vb hc,hq⟩;rw[Kk,this];rfl
    | false=>
     have a3:(v.take (x+1).toNat).any Eb=false:=by
      rw[show(x+1).toNat=x.toNat+1 from by omega,List.take_add_one,hc,List.any_append,ha];simp[hq]
     exact .inl ⟨x+1,hb.trans (Ao hq),⟨by omega,by omega,a3⟩,by omega⟩
   ·refine .inr ⟨.go (),by unfold El;rw[Ao (UR hx)],?_⟩;rw[show x.toNat=v.length from by omega,List.take_length] at ha;rw[Cn,ha];rfl) F 0 ⟨Vm 0,by omega,by simp⟩ (by simpa using hF)
 rw[AF h1,h2]
theorem Mp:decide (G6 v 0=v.length)=(whole v).isSome:=by
 unfold G6 whole;rw[show v.drop (0:Int).toNat=v from rfl]
 cases hp:EZ v with
 | none=>simp
 | some q=>
  obtain⟨f,ys⟩:=q;have h1:=(Hj hp).1;have hl:v.length=f.flat.length+ys.length:=by rw[h1];simp
  cases ys with
  | nil=>simp at hl ⊢;omega
  | cons c r=>simp at hl ⊢;omega
theorem IW (hA:Ie M v)(hM:M≤1000000){F:Nat}(hF:4*M+6<F):IX F v=some (DF v):=by
 have hvM:=hA.hv;unfold IX;rw[Oc (hA.rf (Vn M)) (λc hc=>(hA.hc c hc).2.2) (by omega),AF rfl,Mp];unfold DF
 cases hwh:whole v with
 | none=>rfl
 | some f=>
  obtain⟨h1,h2,h3⟩:=JX hwh;rw[Ao (p:=!(some f).isSome) rfl]
  change _=some (O7 f)
  have hl:v.length=f.flat.length:=by rw[h1]
  have hc:∀c∈f.flat,c.fStr.length≤M∧BB .i64 c.fInt=true∧c.fN≤9223372036854775807:=λc hc=>hA.hc c (by rw[h1];exact hc);have hb:=LE hM h2 (by omega) hc;have htl:((f.txt true).length:Int)=f.byt:=by rw[Ip f false none true h2,Pe h3];simp
  have hd0:v.drop (0:Int).toNat=f.flat++[]:=by rw[Vz];exact h1
  rw[PV (by omega) (by omega)];unfold O7 Ls;rw[Ob hA (Vm 0) h3 h2 hd0 (by omega),Bx (by simp[imp]),PU (by omega) (by omega)];unfold Lr;rw[Rf hA (Vm 0) h3 h2 hd0 (by omega) (by omega),AF rfl];rw[Gp,hl,← h1];have a1:decide ((200:Int)<(v.length:Int))=decide (200<v.length):=by rw[Vl];simp;omega
  have a2:decide ((8:Int)<(f.dep:Int))=decide (8<f.dep):=by rw[Vl];simp;omega
  have a3:decide ((4000:Int)<((f.txt true).length:Int))=decide (4000<(f.txt true).length):=by rw[Vl];simp;omega
  rw[a1,a2,a3]
  cases v.any E7<;>cases v.any Eb<;>cases decide (200<v.length)<;>cases decide (8<f.dep)<;>cases decide (4000<(f.txt true).length)<;>rfl
end
def Gq (c:Ab):Bool:=BB .i64 c.fKind&&BB .i64 c.fInt&&Sk c.fStr&&BB .i64 c.fN
theorem H4 (a:Bool):imp a true=true:=by cases a<;>rfl
theorem Qz {f:Fo}(h:O7 f=0):f.flat.any E7=false∧f.flat.any Eb=false∧f.flat.length≤200∧f.dep≤8∧(f.txt true).length≤4000:=by
 unfold O7 at h
 cases h1:f.flat.any E7 with
 | true=>rw[h1] at h;cases h
 | false=>
  rw[h1] at h
  cases h2:(f.flat.any Eb||(decide (200<f.flat.length)||(decide (8<f.dep)||decide (4000<(f.txt true).length)))) with
  | true=>rw[h2] at h;cases h
  | false=>
   simp only[Vy,UV] at h2;exact⟨rfl,h2.1,by omega,by omega,by omega⟩
theorem LP {α:Type}{a b:List α}{n:Nat}(h:a.take n=b.take n)(h1:a.length≤n)(h2:b.length≤n):a=b:=by
 rw[List.take_of_length_le h1,List.take_of_length_le h2] at h;exact h
theorem GG {F:Nat}{a b:List Ab}(hF:a.length<F)(hv:a.length≤1152921504606846976):Ee F a b=some (decide (a=b)):=by
 unfold Ee
 by_cases hl:(a.length:Int)=(b.length:Int)
 ·rw[Ao (by simp[hl])];obtain⟨o,h1,h2⟩:=DJ (body:=λσ=>CC a b σ) (λx=>0≤x∧x≤(a.length:Int)∧a.take x.toNat=b.take x.toNat) (λx=>a.length-x.toNat) (λo=>B9 (λ_=>Eu) o=some (decide (a=b))) (λx ⟨h0,hx,ht⟩=>by
   by_cases h:x<(a.length:Int)
   ·have hb:x<(b.length:Int):=by omega
    obtain⟨c,hc⟩:∃c,a[x.toNat]? =some c:=⟨a[x.toNat]'(by omega),UW (by omega)⟩
    obtain⟨d,hd⟩:∃d,b[x.toNat]? =some d:=⟨b[x.toNat]'(by omega),UW (by omega)⟩
    have ac:Ae a x=c:=by simp[Ae,hc]
    have bd:Ae b x=d:=by simp[Ae,hd]
    have heq:(decide (c.fKind=d.fKind)&&decide (c.fInt=d.fInt)&&decide (c.fStr=d.fStr)&&decide (c.fN=d.fN))=decide (c=d):=by
     cases c;cases d
     rw[Vl];simp only[Ab.mk.injEq,UX,UU];constructor
     ·rintro⟨⟨⟨h1,h2⟩,h3⟩,h4⟩;exact⟨h1,h2,h3,h4⟩
     ·rintro⟨h1,h2,h3,h4⟩;exact⟨⟨⟨h1,h2⟩,h3⟩,h4⟩
    have hb1:CC a b x=Bg (!decide (c=d)) (some (.out (.ret false))) (some (.next (x+1))):=by
     unfold CC;rw[Az (UT h),AH h0 h,AH h0 hb,ac,bd,heq,AA (by omega) (by omega)]
    by_cases hcd:c=d
    ·refine .inl ⟨x+1,hb1.trans (by rw[Ao (by simp[hcd])]),⟨by omega,by omega,?_⟩,by omega⟩;rw[show(x+1).toNat=x.toNat+1 from by omega,List.take_add_one,List.take_add_one,ht,hc,hd,hcd]
    ·refine .inr ⟨.ret false,hb1.trans (by rw[Az (by simp[hcd])]),?_⟩;rw[Kk,UR];intro e;subst e;rw[hc] at hd;cases hd;exact hcd rfl
   ·refine .inr ⟨.go (),by unfold CC;rw[Ao (UR h)],?_⟩;rw[Cn,UT (LP ht (by omega) (by omega))];rfl) F 0 ⟨Vm 0,by omega,rfl⟩ (by show a.length-0<F;omega)
  rw[AF h1,h2]
 ·rw[Az (by simp[hl]),UR];intro e;subst e;exact hl rfl
theorem Hi {F:Nat}{a b:List Ab}(hF:a.length<F)(hv:a.length≤1152921504606846976):E9 F a b=some (decide (a=b)):=(show E9 F a b=Ee F a b from rfl).trans (GG hF hv)
theorem Dg {α:Type}{n:Nat}{x:Option α}(h:n≤1000000000):Ba (Lb 16 n) x=x:=Bx (UT (by omega))
theorem OA {α:Type}{n:Nat}{x:Option α}(h:n≤1000000000):Ba (Lb 24 n) x=x:=Bx (UT (by omega))
theorem B6 {α:Type}[Inhabited α]{l:List α}{i:Nat}(h:i<l.length):Ae l (i:Int)=l[i]:=by simp[Ae,h]
def EN {α:Type}(f:α→Int):List α→Int
 | []=>0
 | x::r=>if f x=0 then EN f r else f x
theorem Qr {α U:Type}{l:List α}{f:α→Int}{body:Int→Option (Stp Int (Out Int U))}{u:U}(hb:∀(i:Nat) (h:i<l.length),body (i:Int)=Bg (!decide (f l[i]=0)) (some (.out (.ret (f l[i])))) (some (.next ((i:Int)+1))))(he:body (l.length:Int)=some (.out (.go u))) :
  ∀(d n i:Nat),i+d=l.length→d<n→BD body n (i:Int)=some (if EN f (l.drop i)=0 then .go u else .ret (EN f (l.drop i))):=by
 intro d
 induction d with
 | zero=>
  intro n i h hn;obtain⟨n,rfl⟩:∃m,n=m+1:=⟨n-1,by omega⟩
  obtain rfl:i=l.length:=by omega
  rw[BD,he,List.drop_length];rfl
 | succ d ih=>
  intro n i h hn;obtain⟨n,rfl⟩:∃m,n=m+1:=⟨n-1,by omega⟩
  have hi:i<l.length:=by omega
  rw[BD,hb i hi,List.drop_eq_getElem_cons hi]
  by_cases hf:f l[i]=0
  ·rw[Ao (by simp[hf])];have:=ih n (i+1) (by omega) (by omega);rw[EN,Vi hf];exact this
  ·rw[Az (by simp[hf]),EN,Ve hf,Ve hf]
theorem Kv {α U:Type}{l:List α}{f:α→Int}{body:Int→Option (Stp Int (Out Int U))}{u:U}{F:Nat}(hF:l.length<F)(hb:∀(i:Nat) (h:i<l.length),body (i:Int)=Bg (!decide (f l[i]=0)) (some (.out (.ret (f l[i])))) (some (.next ((i:Int)+1))))(he:body (l.length:Int)=some (.out (.go u))) :
  Bp (BD body F 0) (B9 λ_=>some 0)=some (EN f l):=by
 have h:=Qr hb he l.length F 0 (by omega) hF;have h':BD body F 0=_:=h;rw[List.drop_zero] at h';rw[AF h']
 by_cases h0:EN f l=0
 ·rw[Vi h0,h0];rfl
 ·rw[Ve h0];rfl
theorem SM {α U:Type}{l:List α}{body:Int→Option (Stp Int (Out Bool U))}{bad:α→Bool}{u:U}(hb:∀(i:Nat) (h:i<l.length),body (i:Int)=Bg (bad l[i]) (some (.out (.ret false))) (some (.next ((i:Int)+1))))(he:body (l.length:Int)=some (.out (.go u))) :
  ∀(d n i:Nat),i+d=l.length→d<n→BD body n (i:Int)=some (if (l.drop i).any bad=true then .ret false else .go u):=by
 intro d
 induction d with
 | zero=>
  intro n i h hn;obtain⟨n,rfl⟩:∃m,n=m+1:=⟨n-1,by omega⟩
  obtain rfl:i=l.length:=by omega
  rw[BD,he,List.drop_length];rfl
 | succ d ih=>
  intro n i h hn;obtain⟨n,rfl⟩:∃m,n=m+1:=⟨n-1,by omega⟩
  have hi:i<l.length:=by omega
  rw[BD,hb i hi,List.drop_eq_getElem_cons hi,List.any_cons]
  cases hf:bad l[i] with
  | false=>rw[Ao rfl,Vv];exact ih n (i+1) (by omega) (by omega)
  | true=>rw[Az rfl,VL,Vi rfl]
theorem E0 {α U:Type}{l:List α}{body:Int→Option (Stp Int (Out Bool U))}{bad:α→Bool}{u:U}{F:Nat}(hF:l.length<F)(hb:∀(i:Nat) (h:i<l.length),body (i:Int)=Bg (bad l[i]) (some (.out (.ret false))) (some (.next ((i:Int)+1))))(he:body (l.length:Int)=some (.out (.go u)))(k:U→Option Bool) :
  Bp (BD body F 0) (B9 k)=bif l.any bad then some false else k u:=by
 have h:=SM hb he l.length F 0 (by omega) hF;have h':BD body F 0=_:=h;rw[List.drop_zero] at h';rw[AF h']
 cases l.any bad<;>rfl
def KJ (v:List Ab):Bool:=decide (100<v.length)||v.any λc=>decide (250<c.fStr.length)
theorem E4 {α:Type}(n:Nat)(f:List α):decide (((n:Nat):Int)<(f.length:Int))=decide (n<f.length):=by rw[Vl];simp
theorem Qv {F:Nat}(hF:100<F)(v:List Ab):K1 F v=some (!KJ v):=by
 unfold K1 KJ;rw[show decide ((100:Int)<(v.length:Int))=decide (100<v.length) from E4 100 v]
 cases hl:decide (100<v.length) with
 | true=>rfl
 | false=>
  have hl' : ¬ 100<v.length:=of_decide_eq_false hl;rw[Ao rfl,E0 (l:=v) (bad:=λc=>decide (250<c.fStr.length)) (u:=()) (by omega) (λi h=>by
   unfold Eq;rw[Az (UT (by omega)),AH (by omega) (by omega),B6 h,AA (by omega) (by omega),show decide ((250:Int)<((v[i]).fStr.length:Int))=decide (250<(v[i]).fStr.length) from E4 250 _]) (by unfold Eq;rw[Ao (UR (by omega))])]
  cases v.any _<;>rfl
def Hd (op:Ar):Bool:=(decide (100<op.fEntity.length)||(decide (100<op.fID.length)||(decide (100<op.fOp.length)||decide (4<op.fArgs.length))))||op.fArgs.any KJ
theorem Qu {F:Nat}(hF:100<F)(op:Ar):K0 F op=some (!Hd op):=by
 unfold K0 Hd;have hk:((decide (100<(op.fEntity.length:Int)))||((decide (100<(op.fID.length:Int)))||((decide (100<(op.fOp.length:Int)))||(decide (4<(op.fArgs.length:Int))))))=(decide (100<op.fEntity.length)||(decide (100<op.fID.length)||(decide (100<op.fOp.length)||decide (4<op.fArgs.length)))):=by
  rw[← E4 100 op.fEntity,← E4 100 op.fID,← E4 100 op.fOp,← E4 4 op.fArgs];rfl
 rw[hk]
 cases hb:(decide (100<op.fEntity.length)||(decide (100<op.fID.length)||(decide (100<op.fOp.length)||decide (4<op.fArgs.length)))) with
 | true=>rfl
 | false=>
  simp only[Vy,UV] at hb;rw[Ao rfl,E0 (l:=op.fArgs) (bad:=KJ) (u:=()) (by omega) (λi h=>by
   unfold Ep;rw[Az (UT (by omega)),AH (by omega) (by omega),B6 h,Qv hF,AF rfl,Bool.not_not,AA (by omega) (by omega)]) (by unfold Ep;rw[Ao (UR (by omega))])]
  cases op.fArgs.any KJ<;>rfl
theorem Ie.ofN {v:List Ab}(hs:KJ v=false)(hc:v.all Gq=true):Ie 250 v:=by
 unfold KJ at hs;simp only[Vy,UV,List.any_eq_false,V1,UU] at hs hc;refine⟨by decide,by omega,λc h=>?_⟩;have h1:=hs.2 c h;have h2:=hc c h;unfold Gq at h2;simp only[UX] at h2;exact⟨by omega,h2.1.1.2,(JS h2.2).2⟩
structure Le (M:Nat) (op:Ar):Prop where
 e:op.fEntity.length≤1000000
 i:op.fID.length≤1000000
 o:op.fOp.length≤1000000
 n:op.fArgs.length≤1000000
 a:∀v∈op.fArgs,Ie M v
theorem Le.of {op:Ar}(hs:Hd op=false)(hc:op.fArgs.all (λv=>v.all Gq)=true):Le 250 op:=by
 unfold Hd at hs;simp only[Vy,UV,List.any_eq_false] at hs;exact⟨by omega,by omega,by omega,by omega,λv hv=>Ie.ofN (by have:=hs.2 v hv;simpa using this) (List.all_eq_true.1 hc v hv)⟩
abbrev It:Ak:=[114,101,97,100]
abbrev Dz:Ak:=[119,114,105,116,101]
abbrev JD:Ak:=[97,100,100]
abbrev Iu:Ak:=[99,97,115]
def CM (op:Ak):Int:=if op=It then 0 else if op=Dz then 1 else if op=JD then 1 else if op=Iu then 2 else -1
theorem Q5:mset (mset (mset (mset ([]:List (Ak×Int)) It 0) Dz 1) JD 1) Iu 2=[(JD,1),(Iu,2),(It,0),(Dz,1)]:=by decide
theorem Qf (op:Ak):∃n,Ks op=some (n,decide (0≤CM op))∧(0≤CM op→n=CM op):=by
 unfold Ks;rw[show mset (mset (mset (mset ([]:List (Ak×Int)) ([114,101,97,100]:Ak) 0) ([119,114,105,116,101]:Ak) 1) ([97,100,100]:Ak) 1) ([99,97,115]:Ak) 2=[(JD,1),(Iu,2),(It,0),(Dz,1)] from Q5];unfold Aw Bq CM
 by_cases h1:op=It
 ·subst h1;exact⟨0,rfl,λ_=>rfl⟩
 ·by_cases h2:op=Dz
  ·subst h2;exact⟨1,rfl,λ_=>rfl⟩
  ·by_cases h3:op=JD
   ·subst h3;exact⟨1,rfl,λ_=>rfl⟩
   ·by_cases h4:op=Iu
    ·subst h4;exact⟨2,rfl,λ_=>rfl⟩
    ·have hn:B4 [(JD,(1:Int)),(Iu,2),(It,0),(Dz,1)] op=none:=by
      simp only[B4];rw[UR (λe=>h3 e.symm),UR (λe=>h4 e.symm),UR (λe=>h1 e.symm),UR (λe=>h2 e.symm)];rfl
     rw[hn,Ve h1,Ve h2,Ve h3,Ve h4];exact⟨0,rfl,λe=>by omega⟩
theorem Of (op:Ak):Mc op=some (CM op):=by
 unfold Mc CM
 by_cases h1:op=It
 ·rw[Az (UT h1),Vi h1]
 ·rw[Ao (UR h1),Ve h1]
  by_cases h2:op=Dz
  ·rw[Az (UT h2),Vi h2]
  ·rw[Ao (UR h2),Ve h2]
   by_cases h3:op=JD
   ·rw[Az (UT h3),Vi h3]
   ·rw[Ao (UR h3),Ve h3]
    by_cases h4:op=Iu
    ·rw[Az (UT h4),Vi h4]
    ·rw[Ao (UR h4),Ve h4]
def D9 (op:Ar):Int:=if (GC op.fEntity&&(GC op.fID&&decide (0≤CM op.fOp)))=false then 4 else if (op.fArgs.length:Int)=CM op.fOp then EN DF op.fArgs else 7
theorem Dp {M F:Nat}{op:Ar}(hA:Le M op)(hM:M≤1000000)(hF:M<F)(hF2:op.fArgs.length<F):Jh F op=some (D9 op):=by
 obtain⟨n,h1,h2⟩:=Qf op.fOp;unfold Jh D9;rw[h1,AF rfl];simp only;have hk:((!(GC op.fEntity))||((!(GC op.fID))||(!decide (0≤CM op.fOp)))) = !(GC op.fEntity&&(GC op.fID&&decide (0≤CM op.fOp))):=by
  cases GC op.fEntity<;>cases GC op.fID<;>cases decide (0≤CM op.fOp)<;>rfl
 rw[hk]
 cases hb:(GC op.fEntity&&(GC op.fID&&decide (0≤CM op.fOp))) with
 | false=>rfl
 | true=>
  have h0:0≤CM op.fOp:=by
   simp only[UX,UU] at hb;exact hb.2.2
  rw[Ao (by rfl),h2 h0,Ve (by simp)]
  by_cases hl:(op.fArgs.length:Int)=CM op.fOp
  ·rw[Vi hl,Ao (by simp[hl])];exact Kv (l:=op.fArgs) (f:=DF) (u:=()) hF2 (λi h=>by
    unfold Eo;rw[Az (UT (by omega)),AH (by omega) (by omega),B6 h,Lk (hA.a _ (List.getElem_mem h)) hM hF,AF rfl,AA (by omega) (by have:=hA.n;omega)]) (by unfold Eo;rw[Ao (UR (by omega))])
  ·rw[Ve hl,Az (by simp[hl])]
theorem SB:∀a b d e f g h i j:Bool,(Bp (some a) λha=>Bg ha (some true) (Bg d (Bg e (some true) (Bp (some b) λhb=>Bg hb (some true) (Bg f (some true) (Bg g (some true) (Bg h (some true) (Bg i (some true) (some j))))))) (Bp (some b) λhd=>Bg hd (some true) (Bg f (some true) (Bg g (some true) (Bg h (some true) (Bg i (some true) (some j))))))))=some (a||b||(d&&e)||f||g||h||i||j):=by decide
theorem O3 (c:Int):RM c=some (Cl c):=SB (decide (97≤c)&&decide (c≤122)) (decide (48≤c)&&decide (c≤57)) (decide (65≤c)) (decide (c≤90)) (decide (c=45)) (decide (c=95)) (decide (c=46)) (decide (c=58)) (decide (c=47))
theorem IK:∀(s:Ak) (k:Nat),B7 Jm k s=s.all λu=>Cl u.toNat
 | [],k=>rfl
 | u::r,k=>by rw[B7,IK r (k+1),List.all_cons];rfl
theorem N5 {F:Nat}(hF:64<F)(s:Ak):O4 F s=some (GC s):=by
 unfold O4 GC;rw[IK]
 by_cases hl:(s.length:Int)<1∨(64:Int)<(s.length:Int)
 ·rw[Az (by simpa using hl)];have:(decide (1≤s.length)&&decide (s.length≤64))=false:=by
   simp only[Bool.and_eq_false_iff,UV];omega
  rw[Bool.and_assoc,this,V3]
 ·rw[Ao (by simpa using hl)];have hb:(decide (1≤s.length)&&decide (s.length≤64))=true:=by
   simp only[UX,UU];omega
  rw[Bool.and_assoc,hb,VF,E0 (l:=s) (bad:=λu=>!Cl u.toNat) (u:=()) (by omega) (λi h=>by
   unfold Mo;rw[Az (UT (by omega)),AH (by omega) (by omega),TQ (UW h),O3,AF rfl,AA (by omega) (by omega)]) (by unfold Mo;rw[Ao (UR (by omega))])]
  have:(s.any λu=>!Cl u.toNat) = !(s.all λu=>Cl u.toNat):=by rw[List.not_all_eq_any_not]
  rw[this]
  cases s.all λu=>Cl u.toNat<;>rfl
theorem Dj {M F:Nat}{op:Ar}(hA:Le M op)(hM:M≤1000000)(hF:4*M+70<F)(hF2:op.fArgs.length<F):I1 F op=some (D9 op):=by
 unfold I1 D9;rw[Of,AF rfl,N5 (by omega),N5 (by omega),Option.isSome_some,Option.isSome_some,Bx rfl,Bx (by unfold imp;simp),Gp,Gp];have hk:((!(GC op.fEntity))||((!(GC op.fID))||(decide (CM op.fOp<0)))) = !(GC op.fEntity&&(GC op.fID&&decide (0≤CM op.fOp))):=by
  have:decide (CM op.fOp<0) = !decide (0≤CM op.fOp):=by rw[Vl];simp
  rw[this]
  cases GC op.fEntity<;>cases GC op.fID<;>cases decide (0≤CM op.fOp)<;>rfl
 rw[hk]
 cases hb:(GC op.fEntity&&(GC op.fID&&decide (0≤CM op.fOp))) with
 | false=>rfl
 | true=>
  rw[Ao (by rfl),Ve (by simp)]
  by_cases hl:(op.fArgs.length:Int)=CM op.fOp
  ·rw[Vi hl,Ao (by simp[hl])];exact Kv (l:=op.fArgs) (f:=DF) (u:=()) hF2 (λi h=>by
    unfold GK;rw[Az (UT (by omega)),AH (by omega) (by omega),B6 h,IW (hA.a _ (List.getElem_mem h)) hM (by omega),AF rfl,AA (by omega) (by have:=hA.n;omega)]) (by unfold GK;rw[Ao (UR (by omega))])
  ·rw[Ve hl,Az (by simp[hl])]
theorem SV {v:List Ab}(h:DF v=0):∃c r,v=c::r∧pl c=true∧E7 c=false:=by
 unfold DF at h
 cases hw:whole v with
 | none=>rw[hw] at h;simp at h
 | some f=>
  rw[hw] at h;obtain⟨h1,h2,h3⟩:=JX hw;have ho:=(Qz h).1
  cases f with
  | nil=>cases h3
  | cell k c r=>
   cases k with
   | some _=>cases h3
   | none=>
    refine⟨c,r.flat,h1,?_,?_⟩
    ·simp only[Fo.wf,UX] at h2;exact h2.1.1.2
    ·simp only[Fo.flat,Bu,VI,List.any_cons,Vy] at ho;exact ho.1
  | node k c kids r=>
   cases k with
   | some _=>cases h3
   | none=>
    refine⟨c,kids.flat++r.flat,h1,?_,?_⟩
    ·simp only[Fo.wf,UX] at h2;exact h2.1.1.1.1.2
    ·simp only[Fo.flat,Bu,VI,List.any_cons,Vy] at ho;exact ho.1
def DZ (n:Int):Ab:=⟨3,n,[],0⟩
def D8 (n:Int):Bool:=decide ((-1000000000000)≤n)&&decide (n≤1000000000000)
theorem NB {n:Int}(h0 : -9223372036854775808≤n)(h1:n≤9223372036854775807):DF [DZ n]=if D8 n=true then 0 else 2:=by
 have hw:whole [DZ n]=some (.cell none (DZ n) .nil):=QO (f:=.cell none (DZ n) .nil) rfl (by simp[Fo.wf,BW,pl,DZ]);unfold DF;rw[hw];simp only;unfold O7;have hf:(Fo.cell none (DZ n) .nil).flat=[DZ n]:=rfl;have ho:[DZ n].any E7 = !D8 n:=by simp[E7,DZ,D8]
 have ht:((Fo.cell none (DZ n) .nil).txt true).length≤21:=by
  have:(Fo.cell none (DZ n) .nil).txt true=Lib.itoa n:=by simp[Fo.txt,EJ,KX,IC,DZ]
  rw[this];exact RG n h0 h1
 rw[hf,ho];have hl:[DZ n].any Eb=false:=by simp[Eb,DZ]
 have hd:(Fo.cell none (DZ n) .nil).dep=1:=rfl;rw[hl,hd]
 cases hk:D8 n with
 | false=>rfl
 | true=>
  rw[UR (show ¬ 4000<((Fo.cell none (DZ n) .nil).txt true).length from by omega)];simp
theorem Df {v:List Ab}(h:v.length≤1000000):Cr v=some v:=by
 unfold Cr;rw[Bx (show Lb 40 _=true from UT (by simp;omega))];rfl
def BI:List Ab:=[⟨1,0,[],0⟩]
def Tw (b:Bool):List Ab:=[⟨2,if b then 1 else 0,[],0⟩]
def Id (v:List Ab):Int:=(Ae v 0).fKind
def L2 (v:List Ab):Int:=(Ae v 0).fInt
def M0 (state n:List Ab):List Ab×Ax:=
 if (Id state≠1∧Id state≠3)∨Id n≠3 then(state,⟨7,[]⟩) else if D8 (L2 state+L2 n)=true then([DZ (L2 state+L2 n)],⟨0,[DZ (L2 state+L2 n)]⟩) else(state,⟨8,[]⟩)
def Q6 (state:List Ab)(op:Ar):List Ab×Ax:=
 if op.fOp=Dz then(Ae op.fArgs 0,⟨0,BI⟩) else if op.fOp=JD then M0 state (Ae op.fArgs 0)
 else if op.fOp=Iu then(if state=Ae op.fArgs 0 then(Ae op.fArgs 1,⟨0,Tw true⟩) else(state,⟨0,Tw false⟩)) else(state,⟨0,state⟩)
def Gf (state:List Ab)(op:Ar):List Ab×Ax×Int:=
 if D9 op≠0 then([],⟨0,[]⟩,D9 op) else if DF state≠0 then([],⟨0,[]⟩,DF state) else((Q6 state op).1,(Q6 state op).2,0)
theorem IE {v:List Ab}(h:DF v=0):0<v.length∧(Id v=1→L2 v=0)∧(Id v=3→-1000000000000≤L2 v∧L2 v≤1000000000000):=by
 obtain⟨c,r,rfl,hp,ho⟩:=SV h;refine⟨by simp,λhk=>?_,λhk=>?_⟩
 ·have hk':c.fKind=1:=hk;have:c.fInt=0:=by
   unfold pl at hp;rw[UT hk',Vf] at hp;simp only[UX,UU] at hp;exact hp.1
  exact this
 ·have hk':c.fKind=3:=hk;unfold E7 at ho;rw[UT hk',Vs,Bool.not_eq_false',UX,UU,UU] at ho;exact ho
theorem Lx {F:Nat}(hF:10<F){a b:Int}(ha : -1000000000000≤a∧a≤1000000000000)(hb : -1000000000000≤b∧b≤1000000000000):Je F a b=some (if D8 (a+b)=true then(a+b,0) else(0,8)):=by
 have hv:GN F [a,b]=some true:=by
  unfold GN;have hbad:([a,b].any λn=>!D8 n)=false:=by
   simp[D8];omega
  rw[E0 (l:=[a,b]) (bad:=λn=>!D8 n) (u:=()) (by simp;omega) (λi h=>by
   unfold Dm Bj;rw[Az (UT (by omega)),AH (by omega) (by omega),B6 h,AF rfl,AA (by omega) (by simp only[UZ,Vx] at h;omega)];rfl) (by unfold Dm;rw[Ao (UR (by omega))]),hbad]
  rfl
 unfold Je;rw[hv,AF rfl,Ao (by rfl),AA (by omega) (by omega)];unfold Hl Bj;rw[AF rfl];have:(decide (-1000000000000≤a+b)&&decide (a+b≤1000000000000))=D8 (a+b):=rfl;rw[this]
 cases D8 (a+b)<;>rfl
theorem IH {op:Ar}(h:D9 op=0):GC op.fEntity=true∧GC op.fID=true∧0≤CM op.fOp∧(op.fArgs.length:Int)=CM op.fOp∧∀v∈op.fArgs,DF v=0:=by
 unfold D9 at h
 split at h
 ·simp at h
 ·rename_i h1
  rw[Bool.not_eq_false] at h1;simp only[UX,UU] at h1
  split at h
  ·rename_i h2
   refine⟨h1.1,h1.2.1,h1.2.2,h2,?_⟩;have key:∀l:List (List Ab),EN DF l=0→∀v∈l,DF v=0:=by
    intro l
    induction l with
    | nil=>intro _ v hv;cases hv
    | cons x r ih=>
     intro hf v hv;rw[EN] at hf
     by_cases hx:DF x=0
     ·rw[Vi hx] at hf;rcases List.mem_cons.1 hv with rfl | hv
      ·exact hx
      ·exact ih hf v hv
     ·rw[Ve hx] at hf;exact absurd hf hx
   exact key _ h
  ·simp at h
theorem P1 {l:List (List Ab)}{i:Nat}(h:i<l.length):Ae l (i:Int)∈l:=by rw[B6 h];exact List.getElem_mem h
theorem Qh {F:Nat}(hF:10<F){state:List Ab}{args:List (List Ab)}(hs:DF state=0)(hl:args.length=1)(ha:DF (Ae args 0)=0)(hsl:state.length≤1000000):Kt F state args=some (M0 state (Ae args 0)):=by
 obtain⟨s1,s2,s3⟩:=IE hs;obtain⟨a1,a2,a3⟩:=IE ha;unfold Kt M0;rw[AH (by omega) (by omega)];have hk:(Ae state 0).fKind=Id state:=rfl;have hk2:(Ae (Ae args 0) 0).fKind=Id (Ae args 0):=rfl;have hi:(Ae state 0).fInt=L2 state:=rfl;have hi2:(Ae (Ae args 0) 0).fInt=L2 (Ae args 0):=rfl;rw[hk,hk2,hi,hi2];have hcl:∀n:Int,Cr [Ab.mk 3 n [] 0]=some [DZ n]:=λn=>Df (by simp)
 by_cases h3:Id state=3
 ·have hsi:=s3 h3;rw[Az (UT h3),AH (by omega) (by omega),AH (by omega) (by omega)]
  by_cases hn:Id (Ae args 0)=3
  ·have hai:=a3 hn;have hne : ¬ ((Id state≠1∧Id state≠3)∨Id (Ae args 0)≠3):=by omega
   rw[Ao (by simp[hn]),Lx hF hsi hai,AF rfl,Ve hne]
   by_cases ho:D8 (L2 state+L2 (Ae args 0))=true
   ·rw[Vi ho,Vi ho,Ao (by simp)];simp only;rw[hcl,AF rfl];rfl
   ·rw[Ve ho,Ve ho,Az (by simp)]
  ·rw[Az (by simp[hn]),Vi (.inr hn)]
 ·rw[Ao (UR h3)]
  by_cases h1:Id state=1
  ·have hsi:=s2 h1;rw[Az (UT h1),AH (by omega) (by omega),AH (by omega) (by omega)]
   by_cases hn:Id (Ae args 0)=3
   ·have hai:=a3 hn;have hne : ¬ ((Id state≠1∧Id state≠3)∨Id (Ae args 0)≠3):=by omega
    rw[Ao (by simp[hn]),Lx hF (by omega) hai,AF rfl,Ve hne,hsi]
    by_cases ho:D8 (0+L2 (Ae args 0))=true
    ·rw[Vi ho,Vi ho,Ao (by simp)];simp only;rw[hcl,AF rfl];rfl
    ·rw[Ve ho,Ve ho,Az (by simp)]
   ·rw[Az (by simp[hn]),Vi (.inr hn)]
  ·rw[Ao (UR h1),Vi (.inl ⟨h1,h3⟩)]
theorem S9 {F:Nat}(hF:100<F){n:Int}(h0 : -9223372036854775808≤n)(h1:n≤9223372036854775807):T9 F n=some (if D8 n=true then([DZ n],0) else([],2)):=by
 unfold T9 MY;have hA:Ie 10 [DZ n]:=⟨by decide,by simp,λc hc=>by
  simp at hc;subst hc;exact⟨by simp[DZ],ID h0 h1,by simp[DZ]⟩⟩
 have hc:=IW hA (by decide) (F:=F) (by omega);have hc':IX F [Ab.mk 3 n [] 0]=some (DF [DZ n]):=hc;rw[hc',AF rfl,NB h0 h1]
 cases D8 n<;>rfl
theorem PX {F:Nat}(hF:100<F){state n:List Ab}(hs:DF state=0)(ha:DF n=0):Md F state n=some (M0 state n):=by
 obtain⟨s1,s2,s3⟩:=IE hs;obtain⟨a1,a2,a3⟩:=IE ha;unfold Md M0;have hk:(Ae state 0).fKind=Id state:=rfl;have hk2:(Ae n 0).fKind=Id n:=rfl;have hi:(Ae state 0).fInt=L2 state:=rfl;have hi2:(Ae n 0).fInt=L2 n:=rfl;rw[hk,hk2,hi,hi2,La (by omega) (by omega),La (by omega) (by omega),Bx rfl,Bx (by unfold imp;simp),Bx (by unfold imp;simp)]
 by_cases hc:(Id state≠1∧Id state≠3)∨Id n≠3
 ·rw[Vi hc,Az (by
   by_cases h1:Id state=1
   ·rw[UT h1,Vk,Va];have:Id n≠3:=by omega
    simp[this]
   ·rw[UR h1,VA,Vf]
    by_cases h3:Id state=3
    ·have:Id n≠3:=by omega
     simp[this]
    ·simp[h3])]
 ·rw[Ve hc,Ao (by
   have hn:Id n=3:=by omega
   by_cases h1:Id state=1
   ·rw[UT h1,Vk,Va,hn];rfl
   ·rw[UR h1,VA,Vf];have h3:Id state=3:=by omega
    rw[h3,hn];rfl),Bx rfl]
  have hb : -1000000000000≤L2 state∧L2 state≤1000000000000:=by
   by_cases h1:Id state=1
   ·have:=s2 h1;omega
   ·exact s3 (by omega)
  have hb2:=a3 (by omega);rw[AA (by omega) (by omega),S9 hF (by omega) (by omega),AF rfl]
  cases D8 (L2 state+L2 n)<;>rfl
theorem Us {l:List (List Ab)}(h:0<l.length):Ae l 0∈l:=P1 (i:=0) h
theorem UE {l:List (List Ab)}(h:1<l.length):Ae l 1∈l:=P1 (i:=1) h
theorem T3 {F:Nat}{a b:List Ab}(hF:a.length<F)(hv:a.length≤1000000):Lh F a b=some (decide (a=b)):=by
 have:Lh F a b=Ee F a b:=by
  unfold Lh
  cases Ee F a b<;>rfl
 rw[this];exact GG hF (by omega)
theorem Hk {op:Ak}(h:0≤CM op):op=It∨op=Dz∨op=JD∨op=Iu:=by
 unfold CM at h
 by_cases h1:op=It
 ·exact .inl h1
 ·by_cases h2:op=Dz
  ·exact .inr (.inl h2)
  ·by_cases h3:op=JD
   ·exact .inr (.inr (.inl h3))
   ·by_cases h4:op=Iu
    ·exact .inr (.inr (.inr h4))
    ·rw[Ve h1,Ve h2,Ve h3,Ve h4] at h;omega
theorem R2 {M F:Nat}{state:List Ab}{op:Ar}(hS:Ie M state)(hA:Le M op)(hM:M≤1000000)(hF:4*M+100<F)(hF2:op.fArgs.length<F):TW F state op=some (Gf state op):=by
  have hsl:=hS.hv;unfold TW Gf;rw[Dp hA hM (by omega) hF2,AF rfl]
  by_cases he:D9 op=0
  · rw[Ao (by simp[he]),Ve (by simp[he]),Lk hS hM (by omega),AF rfl]
    by_cases hs:DF state=0
    · rw[Ao (by simp[hs]),Ve (by simp[hs])]
      obtain⟨_,_,e0,el,ev⟩:=IH he;have hcs:Cr state=some state:=Df (by omega);unfold Q6;rcases Hk e0 with h | h | h | h
      · rw[h,Az (by decide),hcs,AF rfl,Ve (by decide),Ve (by decide),Ve (by decide)]
        unfold Hp;rw[hcs];rfl
      · have hl:op.fArgs.length=1:=by
                                            rw[h] at el;have:CM Dz=1:=by decide
                                            omega
        have hcl:Cr (Ae op.fArgs 0)=some (Ae op.fArgs 0):=Df (by have:=(hA.a _ (Us (by omega))).hv;omega);rw[h,Ao (by decide),Az (by decide),hcs,AF rfl,Vi rfl];unfold Gu;rw[AH (by omega) (by omega),hcl];rfl
      · have hl:op.fArgs.length=1:=by
                                            rw[h] at el;have:CM JD=1:=by decide
                                            omega
        rw[h,Ao (by decide),Ao (by decide),Az (by decide),hcs,AF rfl,Qh (by omega) hs hl (ev _ (Us (by omega))) (by omega),Ve (by decide),Vi rfl];rfl
      · have hl:op.fArgs.length=2:=by
                                            rw[h] at el;have:CM Iu=2:=by decide
                                            omega
        have hcl:Cr (Ae op.fArgs 1)=some (Ae op.fArgs 1):=Df (by have:=(hA.a _ (UE (by omega))).hv;omega);rw[h,Ao (by decide),Ao (by decide),Ao (by decide),Bx (by decide),hcs,AF rfl,Ve (by decide),Ve (by decide),Vi rfl];unfold IA;rw[AH (by omega) (by omega),T3 (by omega) (by omega),AF rfl]
        by_cases hq:state=Ae op.fArgs 0
        · rw[UT hq,Vi hq,Ao (by rfl),AH (by omega) (by omega),hcl];rfl
        · rw[UR hq,Ve hq,Az (by rfl)];rfl
    · rw[Az (by simp[hs]),Vi hs]
  · rw[Az (by simp[he]),Vi he]
theorem MX {M F:Nat}{state:List Ab}{op:Ar}(hS:Ie M state)(hA:Le M op)(hM:M≤1000000)(hF:4*M+100<F)(hF2:op.fArgs.length<F):OW F state op=some (Gf state op):=by
  have hsl:=hS.hv;unfold OW Gf;rw[Dj hA hM (by omega) hF2,AF rfl]
  by_cases he:D9 op=0
  · rw[Az (by simp[he]),Ve (by simp[he]),IW hS hM (by omega),AF rfl]
    by_cases hs:DF state=0
    · rw[Ao (by simp[hs]),Ve (by simp[hs])]
      obtain⟨_,_,e0,el,ev⟩:=IH he;unfold Q6;rcases Hk e0 with h | h | h | h
      · rw[h,Ao (by decide),Ao (by decide),Ao (by decide),Ve (by decide),Ve (by decide),Ve (by decide)]
      · have hl:op.fArgs.length=1:=by
                                            rw[h] at el;have:CM Dz=1:=by decide
                                            omega
        rw[h,Az (by decide),Vi rfl,AH (by omega) (by omega)];rfl
      · have hl:op.fArgs.length=1:=by
                                            rw[h] at el;have:CM JD=1:=by decide
                                            omega
        rw[h,Ao (by decide),Az (by decide),Ve (by decide),Vi rfl,AH (by omega) (by omega),PX (by omega) hs (ev _ (Us (by omega)))];rfl
      · have hl:op.fArgs.length=2:=by
                                            rw[h] at el;have:CM Iu=2:=by decide
                                            omega
        rw[h,Ao (by decide),Ao (by decide),Az (by decide),Ve (by decide),Ve (by decide),Vi rfl,AH (by omega) (by omega),Hi (by omega) (by omega),AF rfl]
        by_cases hq:state=Ae op.fArgs 0
        · rw[UT hq,Vi hq,Az rfl,AH (by omega) (by omega)];rfl
        · rw[UR hq,Ve hq,Ao rfl];rfl
    · rw[Az (by simp[hs]),Vi hs]
  · rw[Ao (by simp[he]),Az (by simp[he]),Vi he]
theorem J4:GV 30000=some true:=by decide +kernel
theorem KW {F:Nat}{a:Ax}(hF:a.fValue.length<F)(hv:a.fValue.length≤1000000):Cm F a a=some true:=by
 unfold Cm;rw[Hi hF (by omega),UT rfl,UT rfl];rfl
theorem SY {state:List Ab}{op:Ar}{M:Nat}(hS:Ie M state)(hA:Le M op)(hM:1≤M):(Gf state op).1.length≤M∧(Gf state op).2.1.fValue.length≤M:=by
  have hsl:=hS.hv;unfold Gf
  by_cases he:D9 op≠0
  · rw[Vi he];exact⟨Vw _,Vw _⟩
  · rw[Ve he]
    by_cases hs:DF state≠0
    · rw[Vi hs];exact⟨Vw _,Vw _⟩
    · rw[Ve hs]
      rw[Decidable.not_not] at he;obtain⟨_,_,e0,el,ev⟩:=IH he;unfold Q6;rcases Hk e0 with h | h | h | h
      · rw[h,Ve (by decide),Ve (by decide),Ve (by decide)];exact⟨hsl,hsl⟩
      · have hl:op.fArgs.length=1:=by
                                            rw[h] at el;have:CM Dz=1:=by decide
                                            omega
        rw[h,Vi rfl];exact⟨(hA.a _ (Us (by omega))).hv,hM⟩
      · rw[h,Ve (by decide),Vi rfl]
        unfold M0
        split
        · exact⟨hsl,Vw _⟩
        · split
          · exact⟨hM,hM⟩
          · exact⟨hsl,Vw _⟩
      · have hl:op.fArgs.length=2:=by
                                            rw[h] at el;have:CM Iu=2:=by decide
                                            omega
        rw[h,Ve (by decide),Ve (by decide),Vi rfl]
        split
        · exact⟨(hA.a _ (UE (by omega))).hv,hM⟩
        · exact⟨hsl,hM⟩
theorem NN {α:Type}[DecidableEq α]:∀{a b:List α},a.length=b.length→((a.zip b).any λp=>!decide (p.1=p.2)) = !decide (a=b)
 | [],[],_=>rfl
 | x::a,y::b,h=>by
  have ih:=NN (a:=a) (b:=b) (by simpa using h);rw[List.zip_cons_cons,List.any_cons,ih]
  by_cases h1:x=y
  ·subst h1
   by_cases h2:a=b
   ·subst h2;simp
   ·simp[h2]
  ·simp[h1]
 | [],_::_,h=>by simp at h
 | _::_,[],h=>by simp at h
theorem Lu (a b:Ar):a=b↔a.fEntity=b.fEntity∧a.fID=b.fID∧a.fOp=b.fOp∧a.fArgs=b.fArgs:=by
 cases a;cases b;simp
theorem Oa {M F:Nat}{a b:Ar}(hA:Le M a)(hM:M≤1000000)(hF:M<F)(hF2:a.fArgs.length<F):LV F a b=some (decide (a=b)):=by
 unfold LV
 by_cases hc:a.fEntity=b.fEntity∧a.fID=b.fID∧a.fOp=b.fOp∧(a.fArgs.length:Int)=(b.fArgs.length:Int)
 ·rw[Ao (by simp[hc.1,hc.2.1,hc.2.2.1,hc.2.2.2])];have hl:a.fArgs.length=b.fArgs.length:=by have:=hc.2.2.2;omega
  have hn:=hA.n;rw[E0 (l:=a.fArgs.zip b.fArgs) (bad:=λp=>!decide (p.1=p.2)) (u:=()) (by rw[List.length_zip];omega) (λi h=>by
   rw[List.length_zip] at h;unfold HM;have h1:i<a.fArgs.length:=by omega
   have h2:i<b.fArgs.length:=by omega
   rw[Az (UT (by omega)),AH (by omega) (by omega),AH (by omega) (by omega),B6 h1,B6 h2,Hi (by have:=(hA.a _ (List.getElem_mem h1)).hv;omega) (by have:=(hA.a _ (List.getElem_mem h1)).hv;omega),AF rfl,AA (by omega) (by omega),List.getElem_zip]) (by
   unfold HM;rw[List.length_zip,Ao (UR (by omega))]),NN hl]
  have he:decide (a=b)=decide (a.fArgs=b.fArgs):=by
   rw[Vl,UU,UU,Lu];exact⟨λh=>h.2.2.2,λh=>⟨hc.1,hc.2.1,hc.2.2.1,h⟩⟩
  rw[he]
  cases decide (a.fArgs=b.fArgs)<;>rfl
 ·have he : ¬ a=b:=λe=>hc (by subst e;exact⟨rfl,rfl,rfl,rfl⟩);rw[Az (by
   simp only[V7,Vq,UV]
   by_cases h1:a.fEntity=b.fEntity
   ·by_cases h2:a.fID=b.fID
    ·by_cases h3:a.fOp=b.fOp
     ·exact .inr (.inr (.inr λh4=>hc ⟨h1,h2,h3,h4⟩))
     ·exact .inr (.inr (.inl h3))
    ·exact .inr (.inl h2)
   ·exact .inl h1),UR he]
theorem QZ:∀a:Ak,BE a a=false
 | []=>rfl
 | x::a=>by
  show Op.bytesLess (x::a) (x::a)=false;have h : ¬ x<x:=λh=>absurd h (by simp);have ih:Op.bytesLess a a=false:=QZ a;simp[Op.bytesLess,h,ih]
theorem LQ (x y:UInt8)(a b:Ak):BE (x::a) (y::b)=(decide (x<y)||(decide (x=y)&&BE a b)):=by
 show Op.bytesLess (x::a) (y::b)=_;simp only[Op.bytesLess]
 by_cases h:x<y
 ·simp[h]
 ·by_cases e:x=y
  ·subst e;simp[h]
  ·have:y<x:=by
    rcases Nat.lt_trichotomy x.toNat y.toNat with h1 | h1 | h1
    ·exact absurd (UInt8.lt_iff_toNat_lt.2 h1) h
    ·exact absurd (UInt8.toNat_inj.1 h1) e
    ·exact UInt8.lt_iff_toNat_lt.2 h1
   simp[h,e,this]
theorem MO:∀{a b c:Ak},BE a b=true→BE b c=true→BE a c=true
 | [],[],_,h,_=>by cases h
 | [],_::_,[],_,h=>by cases h
 | [],_::_,_::_,_,_=>rfl
 | _::_,[],_,h,_=>by cases h
 | _::_,_::_,[],_,h=>by cases h
 | x::a,y::b,z::c,h,h'=>by
  rw[LQ] at h h' ⊢;simp only[V7,UU,UX] at h h' ⊢;have t:∀{u v:UInt8},u<v↔u.toNat<v.toNat:=UInt8.lt_iff_toNat_lt;rcases h with h | ⟨rfl,h⟩
  ·rcases h' with h' | ⟨rfl,h'⟩
   ·exact .inl (t.2 (Nat.lt_trans (t.1 h) (t.1 h')))
   ·exact .inl h
  ·rcases h' with h' | ⟨rfl,h'⟩
   ·exact .inl h'
   ·exact .inr ⟨rfl,MO h h'⟩
theorem MP:∀(a b:Ak),BE a b=true∨a=b∨BE b a=true
 | [],[]=>.inr (.inl rfl)
 | [],_::_=>.inl rfl
 | _::_,[]=>.inr (.inr rfl)
 | x::a,y::b=>by
  rw[LQ,LQ];simp only[V7,UU,UX];rcases Nat.lt_trichotomy x.toNat y.toNat with h1 | h1 | h1
  ·exact .inl (.inl (UInt8.lt_iff_toNat_lt.2 h1))
  ·have e:=UInt8.toNat_inj.1 h1;subst e;rcases MP a b with h | rfl | h
   ·exact .inl (.inr ⟨rfl,h⟩)
   ·exact .inr (.inl rfl)
   ·exact .inr (.inr (.inr ⟨rfl,h⟩))
  ·exact .inr (.inr (.inl (UInt8.lt_iff_toNat_lt.2 h1)))
theorem TY {a b:Ak}(h:BE a b=true):a≠b:=λe=>by subst e;rw[QZ] at h;cases h
section
variable {T : Type}
def Ms (xs:List (Ak×T)):Prop:=xs.Pairwise λp q=>BE p.1 q.1=true
theorem Ms.nil:Ms ([]:List (Ak×T)):=List.Pairwise.nil
theorem Ms.nodup {xs:List (Ak×T)}(h:Ms xs):(xs.map (·.1)).Nodup:=by
 rw[List.Nodup,List.pairwise_map];exact h.imp λhpq=>TY hpq
theorem Ql (xs:List (Ak×T))(k k':Ak)(v:T):B4 (mput xs k v) k'=bif decide (k'=k) then(B4 xs k).map (λ_=>v) else B4 xs k':=by
 induction xs with
 | nil=>cases decide (k'=k)<;>rfl
 | cons p r ih=>
  show B4 ((bif decide (p.1=k) then(k,v) else p)::mput r k v) k'=_
  by_cases h:p.1=k
  ·rw[UT h];simp only[Vf,B4]
   by_cases e:k'=k
   ·subst e;rw[UT rfl,h,UT rfl];rfl
   ·rw[UR (Ne.symm e),UR e,ih,UR e,h,UR (Ne.symm e)];rfl
  ·rw[UR h];simp only[Va,B4];rw[ih]
   by_cases e:k'=k
   ·subst e;rw[UT rfl,UR h];rfl
   ·rw[UR e]
    cases decide (p.1=k')<;>rfl
theorem Qm (xs:List (Ak×T))(k k':Ak)(v:T)(h:B4 xs k=none):B4 (mins k v xs) k'=bif decide (k'=k) then some v else B4 xs k':=by
 induction xs with
 | nil=>
  show(bif decide (k=k') then some v else none)=bif decide (k'=k) then some v else none
  by_cases e:k'=k
  ·rw[UT e,UT e.symm]
  ·rw[UR e,UR (Ne.symm e)]
 | cons p r ih=>
  rw[B4] at h
  by_cases hk:p.1=k
  ·rw[UT hk] at h;cases h
  ·rw[UR hk] at h;rw[mins]
   cases BE k p.1 with
   | true=>
    simp only[Vf,B4]
    by_cases e:k'=k
    ·subst e;rw[UT rfl]
     try rfl
    ·rw[UR e,UR (Ne.symm e)]
     try rfl
   | false=>
    simp only[Va,B4];rw[ih h]
    by_cases e:k'=k
    ·subst e;rw[UT rfl,UR hk];rfl
    ·rw[UR e]
     cases decide (p.1=k')<;>rfl
theorem Gb (xs:List (Ak×T))(k k':Ak)(v:T):B4 (mset xs k v) k'=bif decide (k'=k) then some v else B4 xs k':=by
 unfold mset Bq
 cases h:B4 xs k with
 | none=>exact Qm xs k k' v h
 | some w=>
  simp only[Option.isSome_some,Vf];rw[Ql,h]
  cases decide (k'=k)<;>rfl
theorem Nv {k:Ak}{v:T}{q:Ak×T}:∀{xs:List (Ak×T)},q∈mins k v xs→q=(k,v)∨q∈xs
 | [],h=>by simp[mins] at h;exact .inl h
 | p::r,h=>by
  rw[mins] at h
  cases hs:BE k p.1 with
  | true=>rw[hs] at h;simpa using h
  | false=>
   rw[hs] at h;rcases List.mem_cons.1 h with h | h
   ·exact .inr (by rw[h];exact List.mem_cons_self ..)
   ·rcases Nv h with h | h
    ·exact .inl h
    ·exact .inr (List.mem_cons_of_mem _ h)
theorem Ms.mins {k:Ak}{v:T}:∀{xs:List (Ak×T)},Ms xs→B4 xs k=none→Ms (mins k v xs)
 | [],_,_=>List.pairwise_singleton ..
 | p::r,h,hk=>by
  obtain⟨h1,h2⟩:=List.pairwise_cons.1 h;rw[B4] at hk
  by_cases e:p.1=k
  ·rw[UT e] at hk;cases hk
  ·rw[UR e] at hk;rw[Proofs.YtfbmdidnlhifjaaGreatDoor.mins]
   cases hs:BE k p.1 with
   | true=>exact List.pairwise_cons.2 ⟨λq hq=>by
     rcases List.mem_cons.1 hq with rfl | hq
     ·exact hs
     ·exact MO hs (h1 q hq),h⟩
   | false=>
    have hp:BE p.1 k=true:=by
     rcases MP p.1 k with h | h | h
     ·exact h
     ·exact absurd h e
     ·rw[h] at hs;cases hs
    exact List.pairwise_cons.2 ⟨λq hq=>by
     rcases Nv hq with rfl | hq
     ·exact hp
     ·exact h1 q hq,Ms.mins h2 hk⟩
theorem Ms.mput {xs:List (Ak×T)}(h:Ms xs)(k:Ak)(v:T):Ms (mput xs k v):=by
 unfold Proofs.YtfbmdidnlhifjaaGreatDoor.mput;unfold Ms;rw[List.pairwise_map];refine h.imp fun {p q} hpq=>?_;have e:∀p:Ak×T,(bif decide (p.1=k) then(k,v) else p).1=p.1:=λp=>by
  by_cases hp:p.1=k
  ·rw[UT hp];exact hp.symm
  ·rw[UR hp];rfl
 rw[e,e];exact hpq
theorem Ms.mset {xs:List (Ak×T)}(h:Ms xs)(k:Ak)(v:T):Ms (mset xs k v):=by
 unfold Proofs.YtfbmdidnlhifjaaGreatDoor.mset Bq
 cases hk:B4 xs k with
 | none=>exact h.mins hk
 | some w=>exact h.mput k v
theorem Ns (k:Ak)(v:T)(xs:List (Ak×T)):(mins k v xs).length=xs.length+1:=(Ji k v xs).length_eq
theorem J3 (xs:List (Ak×T))(k:Ak)(v:T):(mset xs k v).length=bif Bq xs k then xs.length else xs.length+1:=by
 unfold mset
 cases Bq xs k with
 | true=>simp[mput]
 | false=>simp[Ns]
end
theorem SL {α β S O:Type}{l:List α}{mk:Nat→β→S}{body:S→Option (Stp S O)}(g:β→α→β)(P:Nat→β→Prop)
  (hb:∀(i:Nat) (h:i<l.length) (acc:β),P i acc→body (mk i acc)=some (.next (mk (i+1) (g acc l[i])))∧P (i+1) (g acc l[i])) :
  ∀(d i:Nat) (acc:β),i+d=l.length→P i acc→(∀n,BD body (n+d) (mk i acc)=BD body n (mk l.length ((l.drop i).foldl g acc)))∧P l.length ((l.drop i).foldl g acc):=by
 intro d
 induction d with
 | zero=>
  intro i acc h hP;obtain rfl:i=l.length:=by omega
  rw[List.drop_length];exact⟨λn=>rfl,hP⟩
 | succ d ih=>
  intro i acc h hP;have hi:i<l.length:=by omega
  obtain⟨h1,h2⟩:=hb i hi acc hP;obtain⟨h3,h4⟩:=ih (i+1) _ (by omega) h2;rw[List.drop_eq_getElem_cons hi,List.foldl_cons];refine⟨λn=>?_,h4⟩;rw[show n+(d+1)=(n+d)+1 from by omega,BD,h1];exact h3 n
theorem Ku {α β S O:Type}{l:List α}{mk:Nat→β→S}{body:S→Option (Stp S O)}(g:β→α→β)(P:Nat→β→Prop)
  (hb:∀(i:Nat) (h:i<l.length) (acc:β),P i acc→body (mk i acc)=some (.next (mk (i+1) (g acc l[i])))∧P (i+1) (g acc l[i])) {F:Nat} (hF:l.length<F) {a:β} (hP:P 0 a) :
  (∃n,BD body F (mk 0 a)=BD body (n+1) (mk l.length (l.foldl g a)))∧P l.length (l.foldl g a):=by
 obtain⟨h1,h2⟩:=SL g P hb l.length 0 a (by omega) hP;rw[List.drop_zero] at h1 h2;exact⟨⟨F-l.length-1,by rw[← h1,show F-l.length-1+1+l.length=F from by omega]⟩,h2⟩
theorem Gv {α β S O:Type}{l:List α}{mk:Nat→β→S}{body:S→Option (Stp S O)}{fin:β→O}(g:β→α→β)(P:Nat→β→Prop)
  (hb:∀(i:Nat) (h:i<l.length) (acc:β),P i acc→body (mk i acc)=some (.next (mk (i+1) (g acc l[i])))∧P (i+1) (g acc l[i]))
  (he:∀acc,P l.length acc→body (mk l.length acc)=some (.out (fin acc))) {F:Nat} (hF:l.length<F) {a:β} (hP:P 0 a) :
  BD body F (mk 0 a)=some (fin (l.foldl g a))∧P l.length (l.foldl g a):=by
 obtain⟨⟨n,h1⟩,h2⟩:=Ku g P hb hF hP;exact⟨by rw[h1,BD,he _ h2],h2⟩
theorem R7 {α R U:Type}{l:List α}{p:α→Bool}{ret:α→R}{body:Int→Option (Stp Int (Out R U))}{u:U}(hb:∀(i:Nat) (h:i<l.length),body (i:Int)=Bg (p l[i]) (some (.out (.ret (ret l[i])))) (some (.next ((i:Int)+1))))(he:body (l.length:Int)=some (.out (.go u))) :
  ∀(d n i:Nat),i+d=l.length→d<n→BD body n (i:Int)=some (match (l.drop i).find? p with | some x=>.ret (ret x) | none=>.go u):=by
 intro d
 induction d with
 | zero=>
  intro n i h hn;obtain⟨n,rfl⟩:∃m,n=m+1:=⟨n-1,by omega⟩
  obtain rfl:i=l.length:=by omega
  rw[BD,he,List.drop_length];rfl
 | succ d ih=>
  intro n i h hn;obtain⟨n,rfl⟩:∃m,n=m+1:=⟨n-1,by omega⟩
  have hi:i<l.length:=by omega
  rw[BD,hb i hi,List.drop_eq_getElem_cons hi,List.find?_cons]
  cases hp:p l[i] with
  | true=>rfl
  | false=>exact ih n (i+1) (by omega) (by omega)
theorem Qq {α R U:Type}{l:List α}{p:α→Bool}{ret:α→R}{body:Int→Option (Stp Int (Out R U))}{u:U}{F:Nat}(hF:l.length<F)(hb:∀(i:Nat) (h:i<l.length),body (i:Int)=Bg (p l[i]) (some (.out (.ret (ret l[i])))) (some (.next ((i:Int)+1))))(he:body (l.length:Int)=some (.out (.go u))) :
  BD body F 0=some (match l.find? p with | some x=>.ret (ret x) | none=>.go u):=by
 have h:=R7 hb he l.length F 0 (by omega) hF;rw[List.drop_zero] at h;exact h
theorem KC {α:Type}:∀(l a:List α),l.foldl (λa v=>a++[v]) a=a++l
 | [],a=>by simp
 | x::l,a=>by rw[List.foldl_cons,KC l];simp
theorem N9 {α β:Type}(p:α→Bool)(f:α→β):∀(l:List α) (a:List β),l.foldl (λa v=>bif p v then a++[f v] else a) a=a++(l.filter p).map f
 | [],a=>by simp
 | x::l,a=>by
  rw[List.foldl_cons,N9 p f l,List.filter_cons]
  cases p x<;>simp
theorem LC {α:Type}{n:Nat}{x:Option α}(h:n≤1000000000):Ba (Lb 8 n) x=x:=Bx (UT (by omega))
theorem Hb {α:Type}{n:Nat}{x:Option α}(h:n≤1000000000):Ba (Lb 120 n) x=x:=Bx (UT (by omega))
theorem Jg {M F:Nat}{op:Ar}(hA:Le M op)(hM:M≤1000000)(hF:op.fArgs.length<F):HV F op=some op:=by
 have hn:=hA.n;unfold HV;have h:=(Gv (O:=Out Ar (List (List Ab))) (l:=op.fArgs) (mk:=λi (acc:List (List Ab))=>((i:Int),acc)) (body:=λσ=>Do op σ.1 σ.2) (fin:=λacc=>.go acc) (λacc v=>acc++[v]) (λi acc=>acc.length=i) (λi h acc hP=>by
  refine⟨?_,by simp[hP]⟩;unfold Do;simp only;rw[Az (UT (by omega)),AH (by omega) (by omega),B6 h,Df (by have:=(hA.a _ (List.getElem_mem h)).hv;omega),AF rfl,OA (by simp;omega),AA (by omega) (by omega)];rfl) (λacc hP=>by unfold Do;simp only;rw[Ao (UR (by omega))]) hF (a:=[]) rfl).1
 have h':BD (λσ=>Do op σ.1 σ.2) F (0,([]:List (List Ab)))=_:=h;rw[h',AF rfl,Cn,KC,VI];rfl
theorem Ov {M F:Nat}{c:Ai}(hA:Le M c.fOp)(hM:M≤1000000)(hF:c.fOp.fArgs.length<F)(hv:c.fAnswer.fValue.length≤1000000):D2 F c=some c:=by
 unfold D2;rw[Jg hA hM hF,AF rfl,Df hv,AF rfl]
theorem Q0 {M F:Nat}{a b:List (List Ab)}(hA:∀v∈a,Ie M v)(hM:M≤1000000)(hF:M<F)(hn:a.length≤1000000)(hF2:a.length<F):Ha F a b=some (decide (a=b)):=by
 unfold Ha
 by_cases hl:a.length=b.length
 ·rw[Ao (by simp[hl]),E0 (l:=a.zip b) (bad:=λp=>!decide (p.1=p.2)) (u:=()) (by rw[List.length_zip];omega) (λi h=>by
   rw[List.length_zip] at h;unfold Er Mk;have h1:i<a.length:=by omega
   have h2:i<b.length:=by omega
   rw[Az (UT (by omega)),AH (by omega) (by omega),AH (by omega) (by omega),B6 h1,B6 h2,GG (by have:=(hA _ (List.getElem_mem h1)).hv;omega) (by have:=(hA _ (List.getElem_mem h1)).hv;omega),AF rfl,AF rfl,AA (by omega) (by omega),List.getElem_zip]) (by
   unfold Er;rw[List.length_zip,Ao (UR (by omega))]),NN hl]
  cases decide (a=b)<;>rfl
 ·rw[Az (by simp;omega),UR (λe=>hl (by rw[e]))]
theorem No {M F:Nat}{a b:Ar}(hA:Le M a)(hM:M≤1000000)(hF:M<F)(hF2:a.fArgs.length<F):Np F a b=some (decide (a=b)):=by
 unfold Np;rw[Q0 hA.a hM hF hA.n hF2,Option.isSome_some,H4,H4,H4,Bx rfl,Gp]
 congr 1
 rw[Vl,UU,Lu];simp only[UX,UU]
theorem PK {a b c:Ak}(h:a<b)(h2:b<c):a<c:=List.lt_trans h h2
theorem S3 (a b:Ak):a<b∨a=b∨b<a:=by
 by_cases h:a<b
 ·exact .inl h
 ·by_cases h2:b<a
  ·exact .inr (.inr h2)
  ·have e1:a≤b:=h2;have e2:b≤a:=h;exact .inr (.inl (List.le_antisymm e1 e2))
def Br:List Ak→Ak→Nat
 | [],_=>0
 | y::r,x=>if y<x then Br r x+1 else 0
theorem H5:∀(o:List Ak) (x:Ak),Br o x≤o.length
 | [],_=>Vh _
 | y::r,x=>by have:=H5 r x;unfold Br;split<;>simp;omega
def KZ (o:List Ak)(x:Ak):List Ak:=if Br o x=o.length∨KN o (Br o x)≠x then o.take (Br o x)++[x]++o.drop (Br o x) else o
def GI (l:List Ak)(k:Nat):List Ak:=(l.take k).foldl KZ []
theorem L4:∀(o:List Ak) (x:Ak),∀y∈o.take (Br o x),y<x
 | [],x,y,h=>by simp at h
 | z::r,x,y,h=>by
  unfold Br at h
  split at h
  ·rename_i hz
   rcases List.mem_cons.1 (by simpa using h) with rfl | h
   ·exact hz
   ·exact L4 r x y h
  ·simp at h
theorem L5:∀(o:List Ak) (x:Ak),Br o x<o.length→¬ KN o (Br o x)<x
 | [],x,h=>by simp[Br] at h
 | z::r,x,h=>by
  unfold Br at h ⊢
  by_cases hz:z<x
  ·rw[Vi hz] at h ⊢;have:=L5 r x (by simpa using h);have e:KN (z::r) ((Br r x+1:Nat):Int)=KN r (Br r x):=by simp[KN]
   rw[e];exact this
  ·rw[Ve hz];simpa[KN] using hz
theorem O2 {o:List Ak}(h:o.Pairwise (· < ·))(x:Ak):(KZ o x).Pairwise (· < ·)∧∀z,z∈KZ o x↔z∈o∨z=x:=by
 unfold KZ
 by_cases hc:Br o x=o.length∨KN o (Br o x)≠x
 ·rw[Vi hc];have hsplit:o=o.take (Br o x)++o.drop (Br o x):=(VC _ _).symm;have hp:=h;rw[hsplit] at hp;obtain⟨p1,p2,p3⟩:=List.pairwise_append.1 hp;have hgt:∀y∈o.drop (Br o x),x<y:=λy hy=>by
   have hlt:Br o x<o.length:=by
    rcases Nat.lt_or_ge (Br o x) o.length with h' | h'
    ·exact h'
    ·rw[List.drop_of_length_le h'] at hy;simp at hy
   have hne:KN o (Br o x)≠x:=hc.resolve_left (by omega);have hge:=L5 o x hlt;have hx:x<KN o (Br o x):=by
    rcases S3 x (KN o (Br o x)) with e | e | e
    ·exact e
    ·exact absurd e.symm hne
    ·exact absurd e hge
   rw[List.drop_eq_getElem_cons hlt] at hy p2;have e0:o[Br o x]=KN o (Br o x):=by simp[KN,hlt]
   rcases List.mem_cons.1 hy with rfl | hy
   ·rw[e0];exact hx
   ·exact PK hx (by rw[← e0];exact(List.pairwise_cons.1 p2).1 y hy)
  refine⟨?_,λz=>?_⟩
  ·rw[Vo];refine List.pairwise_append.2 ⟨p1,List.pairwise_cons.2 ⟨hgt,p2⟩,λa ha b hb=>?_⟩;rcases List.mem_cons.1 hb with rfl | hb
   ·exact L4 o _ a ha
   ·exact p3 a ha b hb
  ·conv=>rhs;rw[hsplit]
   simp only[List.mem_append,Vj];constructor
   ·rintro((h | h) | h)
    ·exact .inl (.inl h)
    ·exact .inr h
    ·exact .inl (.inr h)
   ·rintro((h | h) | h)
    ·exact .inl (.inl h)
    ·exact .inr h
    ·exact .inl (.inr h)
 ·rw[Ve hc];simp only[not_or,ne_eq,Decidable.not_not] at hc;refine⟨h,λz=>⟨.inl,?_⟩⟩;rintro(hz | rfl)
  ·exact hz
  ·have hlt:Br o z<o.length:=by have:=H5 o z;omega
   have e0:o[Br o z]=KN o (Br o z):=by simp[KN,hlt]
   have e1:o[Br o z]=z:=e0.trans hc.2;have:=List.getElem_mem hlt
   rwa [e1] at this
theorem H9 {ss:List (List UInt8)}{k:Nat}(h:k<ss.length):ss.take (k+1)=ss.take k++[KN ss k]:=by
 rw[List.take_add_one,show ss[k]? =some (KN ss k) from by simp[KN,h]];rfl
theorem MS {l:List Ak}{k:Nat}(h:k<l.length):GI l (k+1)=KZ (GI l k) (KN l k):=by
 unfold GI;rw[H9 h,List.foldl_append];rfl
theorem HK (l:List Ak):∀k,k≤l.length→(GI l k).Pairwise (· < ·)∧(∀z,z∈GI l k↔z∈l.take k)∧(GI l k).length≤k
 | 0,_=>by simp[GI]
 | k+1,hk=>by
  obtain⟨h1,h2,h3⟩:=HK l k (by omega);have hi:=O2 h1 (KN l k);rw[MS (by omega)];refine⟨hi.1,λz=>?_,?_⟩
  ·rw[hi.2,h2,H9 (by omega),List.mem_append,Vj]
  ·unfold KZ
   split
   ·simp;have:=H5 (GI l k) (KN l k);omega
   ·omega
theorem QY (a b:Ak):BE a b=decide (a<b):=bytesLess_eq a b
theorem Tf {α:Type}[Inhabited α]{l:List α}{x:Int}(h0:0≤x)(h:x<(l.length:Int)):l[x.toNat]? =some (Ae l x):=by
 have hx:x.toNat<l.length:=by omega
 simp[Ae,hx]
theorem NT {α:Type}{l:List α}{k:Nat}{c:α}(h:l[k]? =some c):l.take (k+1)=l.take k++[c]:=by
 rw[List.take_add_one,h];rfl
theorem KD:∀(o:List Ak) (c:Ak) (k:Nat),(∀y∈o.take k,y<c)→(∀z,o[k]? =some z→¬ z<c)→k≤o.length→Br o c=k
 | [],c,k,_,_,h=>by simp at h;subst h;rfl
 | y::r,c,0,_,h2,_=>by
  unfold Br;rw[Ve (h2 y rfl)]
 | y::r,c,k+1,h1,h2,h3=>by
  unfold Br;rw[Vi (h1 y (by simp)),KD r c k (λz hz=>h1 z (by simp[hz])) (λz hz=>h2 z (by simpa using hz)) (by simpa using h3)]
theorem RL {F:Nat}{l o:List Ak}{x:Int}(h0:0≤x)(hx:x<(l.length:Int))(hF:o.length<F)(ho:o.length≤100000):∃b,BD (λσ=>EH l o x σ) F 0=some (.go ((Br o (Ae l x):Int),b)):=by
 obtain⟨q,h1,b,h2⟩:=DJ (body:=λσ=>EH l o x σ) (λk=>0≤k∧k≤(o.length:Int)∧∀y∈o.take k.toNat,y<Ae l x) (λk=>o.length-k.toNat) (λq=>∃b,q = .go ((Br o (Ae l x):Int),b)) (λk ⟨g0,gk,ga⟩=>by
  unfold EH
  by_cases hlt:k<(o.length:Int)
  ·have hg:=Tf g0 hlt;rw[UT hlt,Bx (by show imp true _=true;simp only[imp];rw[La g0 hlt];rfl),Bx (by show imp true _=true;simp only[imp];rw[La h0 hx];rfl),Vs]
   cases hs:BE (Ae o k) (Ae l x) with
   | true=>
    have hs':Ae o k<Ae l x:=by rw[QY] at hs;exact V5 hs
    refine .inl ⟨k+1,by rw[Az rfl,AA (by omega) (by omega)],⟨by omega,by omega,λy hy=>?_⟩,by omega⟩;rw[show(k+1).toNat=k.toNat+1 from by omega,NT hg] at hy;rcases List.mem_append.1 hy with hy | hy
    ·exact ga y hy
    ·rw[List.mem_singleton.1 hy];exact hs'
   | false=>
    have hs' : ¬ Ae o k<Ae l x:=by rw[QY] at hs;exact of_decide_eq_false hs
    refine .inr ⟨_,Ao rfl,false,?_⟩;rw[KD o (Ae l x) k.toNat ga (λz hz=>by rw[hg] at hz;rw[← Option.some.inj hz];exact hs') (by omega),show((k.toNat:Nat):Int)=k from by omega]
  ·rw[UR hlt,Bx (by rfl),Bx (by rfl),V6];refine .inr ⟨_,Ao rfl,false,?_⟩;rw[KD o (Ae l x) k.toNat ga (λz hz=>by rw[List.getElem?_eq_none (by omega)] at hz;cases hz) (by omega),show((k.toNat:Nat):Int)=k from by omega]) F 0 ⟨Vm 0,by omega,by simp⟩ (by show o.length-0<F;omega)
 exact⟨b,by rw[h1,h2]⟩
theorem RK {l o:List Ak}{x:Int}(h0:0≤x)(hx:x<(l.length:Int))(hx2:x<100000)(ho:o.length≤100000)(b:Bool):GX l o x (Br o (Ae l x):Int) b=some (.next (KZ o (Ae l x),x+1)):=by
 have hf:=H5 o (Ae l x);unfold GX KZ GY;generalize Ae l x=c at *
 by_cases he:Br o c=o.length
 ·have e1:decide (((Br o c:Nat):Int)=(o.length:Int))=true:=UT (by omega);rw[e1,Bx (by rfl),Bx (by rfl),Az (by rfl),Vi (.inl he)];rw[Gy (by omega) (by omega),Dg (by simp;omega),AH h0 hx,Dg (by simp;omega),Dg (by simp;omega),AA (by omega) (by omega),V9];rfl
 ·have e1:decide (((Br o c:Nat):Int)=(o.length:Int))=false:=UR (by omega);have e2:Ae o ((Br o c:Nat):Int)=KN o ((Br o c:Nat):Int):=rfl;rw[e1,Bx (by show imp true _=true;simp only[imp];rw[La (by omega) (by omega)];rfl),Bx (by show imp true _=true;simp only[imp];rw[La h0 hx];rfl),e2,Vv]
  by_cases hq:KN o ((Br o c:Nat):Int)=c
  ·rw[Ve (by rintro(h | h);exact he h;exact h hq),Ao (by rw[UT hq];rfl),AA (by omega) (by omega)]
  ·rw[Vi (.inr hq),Az (by rw[UR hq];rfl)];rw[Gy (by omega) (by omega),Dg (by simp;omega),AH h0 hx,Dg (by simp;omega),Dg (by simp;omega),AA (by omega) (by omega),V9];rfl
theorem N4 {F:Nat}{l:List Ak}(hl:l.length≤2000)(hF:2000<F):KA F l=some (GI l l.length):=by
 unfold KA;obtain⟨o,h1,h2⟩:=DJ (body:=λσ:List Ak×Int=>GZ F l σ.1 σ.2) (λσ=>0≤σ.2∧σ.2≤(l.length:Int)∧σ.1=GI l σ.2.toNat) (λσ=>l.length-σ.2.toNat) (λq=>q = .go (GI l l.length)) (λ⟨o,x⟩ ⟨h0,hx,ho⟩=>by
  dsimp only at h0 hx ho ⊢;subst ho;unfold GZ
  by_cases hlt:x<(l.length:Int)
  ·have hlen:=(HK l x.toNat (by omega)).2.2;obtain⟨b,hb⟩:=RL (F:=F) h0 hlt (o:=GI l x.toNat) (by omega) (by omega);refine .inl ⟨(KZ (GI l x.toNat) (Ae l x),x+1),?_,⟨by show 0≤x+1;omega,by show x+1≤_;omega,?_⟩,by show l.length-(x+1).toNat<l.length-x.toNat;omega⟩
   ·rw[Az (UT hlt),AF hb,Cn];exact RK h0 hlt (by omega) (by omega) b
   ·show KZ (GI l x.toNat) (Ae l x)=GI l (x+1).toNat;rw[show(x+1).toNat=x.toNat+1 from by omega,MS (by omega)];rw[show((x.toNat:Nat):Int)=x from by omega];rfl
  ·refine .inr ⟨_,Ao (UR hlt),?_⟩;rw[show x.toNat=l.length from by omega]) F ([],0) ⟨Vm 0,by show(0:Int)≤_;omega,by simp[GI]⟩ (by show l.length-0<F;omega)
 subst h2;rw[AF h1,Cn];rfl
theorem RO {F:Nat}{l:List Ak}{s:Ak}(hF:l.length<F)(hn:l.length≤1000000):RP F l s=some (decide (s∈l)):=by
 unfold RP;rw[Qq (l:=l) (p:=λx=>decide (x=s)) (ret:=λ_=>true) (u:=()) hF (λi h=>by
  unfold KB;rw[Az (UT (by omega)),AH (by omega) (by omega),B6 h,AA (by omega) (by omega)]) (by unfold KB;rw[Ao (UR (by omega))])]
 cases hf:l.find? (λx=>decide (x=s)) with
 | some x=>
  have h1:=List.find?_some hf;have h2:=List.mem_of_find?_eq_some hf;rw[UT (by rw[← V5 h1];exact h2)];rfl
 | none=>
  have h1:=List.find?_eq_none.1 hf;rw[UR (λhm=>h1 s hm (UT rfl))];rfl
def BN (cs:List Ai)(e:Ak):List Ai:=cs.filter λc=>decide (c.fOp.fEntity=e)
def NF (c:Ai):Bool:=decide (0≤c.fTo)
def CO (s:List Ab)(l:List Ai):List Ab:=l.foldl (λs c=>(Gf s c.fOp).1) s
def MM (cs:List Ai)(e:Ak):List Ab:=CO BI ((BN cs e).filter NF)
def Uz (cs:List Ai)(id:Ak):Ax×Bool:=match cs.find? (λc=>decide (c.fOp.fID=id)&&decide (0≤c.fTo)) with
 | some c=>(c.fAnswer,true)
 | none=>(⟨0,[]⟩,false)
structure Sh (c:Ai):Prop where
 op:Le 250 c.fOp
 ne:c.fOp.fArgs.length≤4
 er:D9 c.fOp=0
 an:c.fAnswer.fValue.length≤250
 to:c.fTo = -1∨0≤c.fTo
def GS (s:List Ab):Prop:=Ie 250 s∧DF s=0
theorem Sb {c:Ab}(h1:c.fStr.length≤250)(h2:BB .i64 c.fInt=true)(h3:c.fN≤9223372036854775807):Ie 250 [c]:=⟨by decide,(by show 1≤250;decide),λx hx=>by rw[List.mem_singleton.1 hx];exact⟨h1,h2,h3⟩⟩
theorem O5:GS BI:=⟨Sb (by decide) (by decide) (by decide),by decide +kernel⟩
theorem Th (s n:List Ab):(M0 s n).1=s∨∃k,D8 k=true∧(M0 s n).1=[DZ k]:=by
 unfold M0
 split
 ·exact .inl rfl
 ·split
  ·rename_i h;exact .inr ⟨_,h,rfl⟩
  ·exact .inl rfl
theorem N6 {s:List Ab}{op:Ar}(h:GS s)(hA:Le 250 op)(he:D9 op=0):GS (Gf s op).1∧(Gf s op).2.2=0∧(Gf s op).2.1.fValue.length≤250:=by
  have hl:=SY h.1 hA (by decide);refine⟨?_,?_,hl.2⟩
  · unfold Gf
    rw[Ve (λx=>x he),Ve (λx=>x h.2)];obtain⟨_,_,e0,el,ev⟩:=IH he;unfold Q6;have ha:∀v∈op.fArgs,GS v:=λv hv=>⟨hA.a v hv,ev v hv⟩
    rcases Hk e0 with h1 | h1 | h1 | h1
    · rw[h1,Ve (by decide),Ve (by decide),Ve (by decide)];exact h
    · have hl:op.fArgs.length=1:=by
                                          rw[h1] at el;have:CM Dz=1:=by decide
                                          omega
      rw[h1,Vi rfl];exact ha _ (Us (by omega))
    · rw[h1,Ve (by decide),Vi rfl]
      rcases Th s (Ae op.fArgs 0) with h2 | ⟨k,h2,h3⟩
      · rw[h2];exact h
      · rw[h3]
        have h4:=h2;unfold D8 at h4;simp only[UX,UU] at h4;refine⟨Sb (Vw _) (ID (by show _≤k;omega) (by show k≤_;omega)) (by show(0:Int)≤_;omega),?_⟩;rw[NB (by omega) (by omega),Vi h2]
    · have hl:op.fArgs.length=2:=by
                                          rw[h1] at el;have:CM Iu=2:=by decide
                                          omega
      rw[h1,Ve (by decide),Ve (by decide),Vi rfl]
      split
      · exact ha _ (UE (by omega))
      · exact h
  · unfold Gf
    rw[Ve (λx=>x he),Ve (λx=>x h.2)]
theorem RQ:∀{l:List Ai} {s:List Ab},GS s→(∀c∈l,Sh c)→GS (CO s l)
 | [],s,h,_=>h
 | c::l,s,h,hl=>RQ (l:=l) (N6 h (hl c List.mem_cons_self).op (hl c List.mem_cons_self).er).1 (λx hx=>hl x (List.mem_cons_of_mem _ hx))
theorem Pd {cs:List Ai}{e:Ak}{c:Ai}(h:c∈BN cs e):c∈cs∧c.fOp.fEntity=e:=by
 obtain⟨h1,h2⟩:=List.mem_filter.1 h;exact⟨h1,V5 h2⟩
theorem Ps {cs:List Ai}(h:∀c∈cs,Sh c)(e:Ak):GS (MM cs e):=RQ O5 λc hc=>h c (Pd (List.mem_filter.1 hc).1).1
theorem Gn (A B:List Ai)(e:Ak):BN (A++B) e=BN A e++BN B e:=List.filter_append ..
theorem CF (c:Ai)(B:List Ai)(e:Ak):BN (c::B) e=if c.fOp.fEntity=e then c::BN B e else BN B e:=by
 unfold BN;rw[List.filter_cons]
 by_cases h:c.fOp.fEntity=e<;>simp[h]
theorem OG {α:Type}(l:List α)(p q:α→Bool):(l.filter p).filter q=l.filter λa=>p a&&q a:=by
 rw[List.filter_filter];congr 1;funext a;exact Bool.and_comm _ _
theorem N8 {α β:Type}(p:α→Bool)(f:β→α→β):∀(l:List α) (a:β),l.foldl (λa x=>bif p x then f a x else a) a=(l.filter p).foldl f a
 | [],a=>rfl
 | x::l,a=>by
  rw[List.foldl_cons,N8 p f l,List.filter_cons]
  cases p x<;>rfl
def UM (cs:List Ai)(i:Nat)(r:List Ak):Prop:=r.Pairwise (· < ·)∧(∀x,x∈r↔x∈(cs.take i).map λc=>c.fOp.fEntity)∧r.length≤i
section
variable {F : Nat} {t : Int} {cs : List Ai} (hF : 30000 ≤ F) (hn : cs.length ≤ 1000) (hok : ∀ c ∈ cs, Sh c)
include hF hn hok
theorem Kh (e:Ak):Ma F ⟨t,cs⟩ e=some (MM cs e):=by
 unfold Ma OU;rw[AF rfl];have h:=(Gv (O:=Out (List Ab) (List Ab)) (l:=cs) (mk:=λi (acc:List Ab)=>(acc,(i:Int))) (body:=λσ=>DC F ⟨t,cs⟩ e σ.1 σ.2) (fin:=λacc=>.go acc) (λacc c=>bif decide (c.fOp.fEntity=e)&&decide (0≤c.fTo) then(Gf acc c.fOp).1 else acc) (λi acc=>GS acc) (λi h acc hP=>by
  have hc:=hok _ (List.getElem_mem h);unfold DC HQ;simp only;rw[Az (UT (by omega)),AH (by omega) (by omega),B6 h]
  cases hq:decide ((cs[i]).fOp.fEntity=e)&&decide (0≤(cs[i]).fTo) with
  | false=>exact⟨by rw[Ao rfl,AA (by omega) (by omega)];rfl,hP⟩
  | true=>
   refine⟨?_,(N6 hP hc.op hc.er).1⟩;rw[Az rfl,MX hP.1 hc.op (by decide) (by omega) (by have:=hc.ne;omega),AF rfl,AA (by omega) (by omega)];rfl) (λacc hP=>by unfold DC;simp only;rw[Ao (UR (by omega))]) (F:=F) (by omega) (a:=BI) O5).1
 have h':BD (λσ=>DC F ⟨t,cs⟩ e σ.1 σ.2) F (BI,0)=_:=h;have h2:Bp (BD (λσ=>DC F ⟨t,cs⟩ e σ.1 σ.2) F (BI,0)) (B9 λν=>HP ν)=some (MM cs e):=by
  rw[h',AF rfl,Cn,N8 (λc:Ai=>decide (c.fOp.fEntity=e)&&decide (0≤c.fTo)) (λacc c=>(Gf acc c.fOp).1)];unfold HP MM CO BN NF;rw[OG]
 exact h2
omit hok in
theorem Oe:∃r,Mb F ⟨t,cs⟩=some r∧UM cs cs.length r:=by
 unfold Mb;have h:=Gv (O:=Out (List Ak) (List Ak)) (l:=cs) (mk:=λi (acc:List Ak)=>(acc,(i:Int))) (body:=λσ=>Ew F ⟨t,cs⟩ σ.1 σ.2) (fin:=λacc=>.go acc) (λacc c=>bif decide (c.fOp.fEntity∈acc) then acc else GI (acc++[c.fOp.fEntity]) (acc++[c.fOp.fEntity]).length) (UM cs) (λi h acc hP=>by
  obtain⟨p1,p2,p3⟩:=hP;have htk:(cs.take (i+1)).map (λc=>c.fOp.fEntity)=(cs.take i).map (λc=>c.fOp.fEntity)++[(cs[i]).fOp.fEntity]:=by
   rw[List.take_add_one,UW h,VJ];rfl
  unfold Ew HR;simp only;rw[Az (UT (by omega)),AH (by omega) (by omega),B6 h,RO (by omega) (by omega),AF rfl]
  cases hq:decide ((cs[i]).fOp.fEntity∈acc) with
  | true=>
   refine⟨by rw[Ao (by rfl),AA (by omega) (by omega)];rfl,p1,λx=>?_,by simp only[Vf];omega⟩;simp only[Vf];rw[htk,List.mem_append,Vj,p2];refine⟨.inl,?_⟩;rintro(hx | rfl)
   ·exact hx
   ·exact(p2 _).1 (V5 hq)
  | false=>
   obtain⟨q1,q2,q3⟩:=HK (acc++[(cs[i]).fOp.fEntity]) (acc++[(cs[i]).fOp.fEntity]).length (Vh _);refine⟨?_,q1,λx=>?_,by simp only[Va];simp at q3 ⊢;omega⟩
   ·rw[Az (by rfl),Dg (by simp;omega),N4 (by simp;omega) (by omega),AF rfl,AA (by omega) (by omega)];rfl
   ·simp only[Va];rw[q2,htk,List.take_length,List.mem_append,List.mem_append,p2]) (λacc hP=>by unfold Ew;simp only;rw[Ao (UR (by omega))]) (F:=F) (by omega) (a:=[]) ⟨List.Pairwise.nil,λx=>by simp,Vh _⟩
 have h':BD (λσ=>Ew F ⟨t,cs⟩ σ.1 σ.2) F (([]:List Ak),0)=_:=h.1;rw[h',AF rfl,Cn];exact⟨_,rfl,h.2⟩
end
def EQ (e:Ak):Nat→List Ai→List Int
 | _,[]=>[]
 | k,c::r=>if c.fOp.fEntity=e then(k:Int)::EQ e (k+1) r else EQ e (k+1) r
theorem Ef (e:Ak):∀(A B:List Ai) (k:Nat),EQ e k (A++B)=EQ e k A++EQ e (k+A.length) B
 | [],B,k=>rfl
 | c::A,B,k=>by
  show EQ e k (c::(A++B))=_;rw[EQ,EQ,Ef e A B (k+1),show k+1+A.length=k+(c::A).length from by simp;omega]
  split<;>rfl
theorem Gw (e:Ak):∀(A:List Ai) (k:Nat),(EQ e k A).length=(BN A e).length
 | [],k=>rfl
 | c::A,k=>by
  rw[EQ,CF]
  split
  ·rw[UZ,UZ,Gw e A]
  ·exact Gw e A _
theorem CT {α:Type}[Inhabited α](A:List α)(c:α)(B:List α):Ae (A++c::B) (A.length:Int)=c:=by simp[Ae]
theorem EW {α:Type}(A:List α)(c c':α)(B:List α):List.set (A++c::B) A.length c'=A++c'::B:=by simp
theorem NJ {α:Type}[Inhabited α]{cs:List α}{p:Nat}(hp:p<cs.length):∃A c B,cs=A++c::B∧A.length=p∧Ae cs (p:Int)=c:=
 ⟨cs.take p,cs[p],cs.drop (p+1),by rw[← List.drop_eq_getElem_cons hp,VC],by simp;omega,B6 hp⟩
theorem OE {α:Type}[Inhabited α]{cs:List α}{p q:Nat}(y:α)(hp:p<cs.length):Ae (cs.set p y) (q:Int)=if p=q then y else Ae cs (q:Int):=by
 unfold Ae;rw[V9,VG]
 by_cases h:p=q
 ·subst h;rw[Vi rfl,Vi hp,Vi rfl];rfl
 ·rw[Ve h,Ve h]
theorem My {α:Type}[Inhabited α]{A B:List α}{q:Nat}(hq:q<A.length):Ae (A++B) (q:Int)=Ae A (q:Int):=by
 unfold Ae;rw[V9,Vp hq]
theorem Pn (e:Ak):∀(B A:List Ai),(EQ e A.length B).map (Ae (A++B))=BN B e
 | [],A=>rfl
 | c::B,A=>by
  have h:=Pn e B (A++[c]);rw[Vo,Vd] at h;have h':List.map (Ae (A++c::B)) (EQ e (A.length+1) B)=BN B e:=h;rw[EQ,CF]
  split
  ·rw[V0,CT,h']
  ·exact h'
theorem Pm (e:Ak):∀(B:List Ai) (k:Nat),∀i∈EQ e k B,(k:Int)≤i∧i<(k:Int)+(B.length:Int)
 | [],k,i,h=>by cases h
 | c::B,k,i,h=>by
  rw[EQ] at h;rw[UZ];have key:∀i∈EQ e (k+1) B,(k:Int)≤i∧i<(k:Int)+((B.length+1:Nat):Int):=λi hi=>by
   have:=Pm e B (k+1) i hi;omega
  split at h
  ·rcases List.mem_cons.1 h with rfl | h
   ·omega
   ·exact key i h
  ·exact key i h
theorem Ja {e:Ak}:∀{cs D O:List Ai} {c:Ai},BN cs e=D++c::O→∃A B,cs=A++c::B∧BN A e=D∧BN B e=O∧c.fOp.fEntity=e
 | [],D,O,c,h=>by cases D<;>cases h
 | x::r,D,O,c,h=>by
  rw[CF] at h
  by_cases hx:x.fOp.fEntity=e
  ·rw[Vi hx] at h
   cases D with
   | nil=>cases h;exact⟨[],r,rfl,rfl,rfl,hx⟩
   | cons d D'=>
    rw[VD] at h;injection h with h1 h2
    obtain⟨A,B,e1,e2,e3,e4⟩:=Ja h2;exact⟨x::A,B,by rw[e1];rfl,by rw[CF,Vi hx,e2,h1],e3,e4⟩
  ·rw[Ve hx] at h;obtain⟨A,B,e1,e2,e3,e4⟩:=Ja h;exact⟨x::A,B,by rw[e1];rfl,by rw[CF,Ve hx,e2],e3,e4⟩
theorem I3 {cs:List Ai}{e:Ak}(h:∀c∈cs,¬ c.fOp.fEntity=e):BN cs e=[]:=List.filter_eq_nil_iff.2 λc hc=>by simp[h c hc]
def Dn:List Ab→List Ai→Prop
 | _,[]=>True
 | s,c::r=>c.fAnswer=(Gf s c.fOp).2.1∧c.fFrom≤c.fTo∧Dn (Gf s c.fOp).1 r
theorem P9:∀{D:List Ai} {s:List Ab} {c:Ai},Dn s D→c.fAnswer=(Gf (CO s D) c.fOp).2.1→c.fFrom≤c.fTo→Dn s (D++[c])
 | [],s,c,_,h1,h2=>⟨h1,h2,trivial⟩
 | x::D,s,c,h,h1,h2=>⟨h.1,h.2.1,P9 h.2.2 h1 h2⟩
theorem Rb (s:List Ab)(D:List Ai)(c:Ai):CO s (D++[c])=(Gf (CO s D) c.fOp).1:=by
 unfold CO;rw[List.foldl_append];rfl
structure Q7 (en:Ah) (cs:List Ai) (e:Ak):Prop where
 ex:∃D O,BN cs e=D++O∧(∀c∈D,0≤c.fTo)∧(∀c∈O,c.fTo = -1)∧en.fDone=(D.length:Int)∧en.fState=CO BI D∧Dn BI D
 ix:en.fCalls=EQ e 0 cs
structure Lf (d:Aq) (es:List Ah) (cs:List Ai):Prop where
 now:0≤d.fNow∧d.fNow≤1073741824
 ems:Ms d.fEntities
 ent:∀e k,B4 d.fEntities e=some k→∃p:Nat,k=(p:Int)∧p<es.length∧Q7 (Ae es (p:Int)) cs e
 inj:∀e e' k,B4 d.fEntities e=some k→B4 d.fEntities e'=some k→e=e'
 enm:∀e,Bq d.fEntities e=true↔∃c∈cs,c.fOp.fEntity=e
 eln:d.fEntities.length≤cs.length
 cln:d.fCalls.length≤cs.length
 cal:∀id k,B4 d.fCalls id=some k→∃p:Nat,k=(p:Int)∧p<cs.length∧(Ae cs (p:Int)).fOp.fID=id
 cnm:∀c∈cs,Bq d.fCalls c.fOp.fID=true
 nod:(cs.map λc=>c.fOp.fID).Nodup
 ok:∀c∈cs,Sh c
 frm:∀c∈cs,c.fFrom≤d.fNow∧c.fTo≤d.fNow
 len:cs.length≤200
theorem SQ:Lf ⟨0,[],[]⟩ [] [] where
 now:=by decide
 ems:=Ms.nil
 ent _ _ h:=by cases h
 inj _ _ _ h:=by cases h
 enm e:=⟨λh=>(by cases h),λ⟨c,h,_⟩=>(by cases h)⟩
 eln:=Vh _
 cln:=Vh _
 cal _ _ h:=by cases h
 cnm _ h:=by cases h
 nod:=List.nodup_nil
 ok _ h:=by cases h
 frm _ h:=by cases h
 len:=by decide
theorem Dr {T:Type}{m:List (Ak×T)}{k:Ak}{z r:T}(h:B4 m k=some r):Aw m k z=r:=by unfold Aw;rw[h];rfl
theorem Cw {T:Type}{m:List (Ak×T)}{k:Ak}{r:T}(h:B4 m k=some r):Bq m k=true:=by unfold Bq;rw[h];rfl
theorem Ce {T:Type}{m:List (Ak×T)}{k:Ak}(h:B4 m k=none):Bq m k=false:=by unfold Bq;rw[h];rfl
theorem IG {cs D O:List Ai}{e:Ak}(h:BN cs e=D++O)(hD:∀c∈D,0≤c.fTo)(hO:∀c∈O,c.fTo = -1):(BN cs e).filter NF=D:=by
 have h1:D.filter NF=D:=List.filter_eq_self.2 λc hc=>UT (hD c hc);have h2:O.filter NF=[]:=List.filter_eq_nil_iff.2 λc hc=>by unfold NF;rw[hO c hc];decide
 rw[h,List.filter_append,h1,h2,Vz]
theorem Q7.st {en:Ah}{cs:List Ai}{e:Ak}(h:Q7 en cs e):en.fState=MM cs e:=by
 obtain⟨D,O,h1,h2,h3,_,h5,_⟩:=h.ex;unfold MM;rw[IG h1 h2 h3,h5]
theorem Lf.st {d:Aq}{es:List Ah}{cs:List Ai}(h:Lf d es cs)(e:Ak):HU d es cs e=some (MM cs e):=by
 unfold HU
 cases hg:B4 d.fEntities e with
 | none=>
  have hh:=Ce hg;rw[hh,Ao rfl];have:BN cs e=[]:=I3 λc hc he=>by
   have:=(h.enm e).2 ⟨c,hc,he⟩;rw[hh] at this;cases this
  unfold MM;rw[this];rfl
 | some k=>
  obtain⟨p,rfl,hp,hr⟩:=h.ent e k hg;rw[Cw hg,Az rfl,Dr hg,AH (by omega) (by omega),hr.st,Df (by have:=(Ps h.ok e).1.hv;omega)];rfl
section
variable {F : Nat} {d : Aq} {es : List Ah} {cs : List Ai} (hF : 30000 ≤ F) (h : Lf d es cs)
include hF h
omit h in
theorem O9 {c:Ai}(hc:Sh c):D2 F c=some c:=Ov hc.op (by decide) (by have:=hc.ne;omega) (by have:=hc.an;omega)
theorem Qe (e:Ak):HW F d es cs e=some (BN cs e):=by
 unfold HW
 cases hg:B4 d.fEntities e with
 | none=>
  have hh:=Ce hg;rw[hh,Az (by rfl)];have:BN cs e=[]:=I3 λc hc he=>by
   have:=(h.enm e).2 ⟨c,hc,he⟩;rw[hh] at this;cases this
  rw[this]
 | some k=>
  obtain⟨p,rfl,hp,hr⟩:=h.ent e k hg;have hmv:Aw d.fEntities e (-1)=(p:Int):=Dr hg;have hl:=h.len;have hle:(EQ e 0 cs).length≤200:=by rw[Gw];unfold BN;exact Nat.le_trans (List.length_filter_le ..) hl
  have hok:=h.ok;rw[Cw hg,Ao (by rfl),hmv,AH (by omega) (by omega)];have h0:=(Gv (O:=Out (List Ai) (List Ai)) (l:=EQ e 0 cs) (mk:=λi (acc:List Ai)=>(acc,(i:Int))) (body:=λσ=>Dq F d es cs e σ.1 σ.2) (fin:=λacc=>.go acc) (λacc i=>acc++[Ae cs i]) (λi acc=>acc.length≤i) (λi hi acc hP=>by
   refine⟨?_,by simp;omega⟩;obtain⟨r1,r2⟩:=Pm e cs 0 _ (List.getElem_mem hi);have hc:Sh (Ae cs (EQ e 0 cs)[i]):=hok _ (by
    obtain⟨q,hq⟩:∃q:Nat,(EQ e 0 cs)[i]=(q:Int):=⟨(EQ e 0 cs)[i].toNat,by omega⟩
    rw[hq,B6 (by omega)];exact List.getElem_mem _)
   unfold Dq;simp only;rw[hmv,hr.ix,Az (UT (by omega)),AH (by omega) (by omega),B6 hi,Bx (UT (by omega)),AH (by omega) (by omega)];rw[show D2 F (Ai.mk ((Ae cs (EQ e 0 cs)[i]).fOp) ((Ae cs (EQ e 0 cs)[i]).fAnswer) ((Ae cs (EQ e 0 cs)[i]).fFrom) ((Ae cs (EQ e 0 cs)[i]).fTo))=some (Ae cs (EQ e 0 cs)[i]) from O9 hF hc,AF rfl,Hb (by simp;omega),AA (by omega) (by omega)];rfl) (λacc hP=>by
   unfold Dq;simp only;rw[hmv,hr.ix,Ao (UR (by omega))]) (F:=F) (by omega) (a:=[]) (Vh _)).1
  have h':BD (λσ=>Dq F d es cs e σ.1 σ.2) F (([]:List Ai),0)=_:=h0;rw[h',AF rfl,Cn];have hfm:=N9 (λ_:Int=>true) (λi=>Ae cs i) (EQ e 0 cs) [];simp only[Vf,List.filter_eq_self.2 (λ_ _=>rfl:∀a∈EQ e 0 cs,(λ_:Int=>true) a=true)] at hfm;rw[hfm,VI];have hm:=Pn e cs [];exact congrArg some hm
omit hF in
theorem K9 {A B:List Ai}{c:Ai}(hs:cs=A++c::B):(∀x∈A,¬ x.fOp.fID=c.fOp.fID)∧∀x∈B,¬ x.fOp.fID=c.fOp.fID:=by
 have hn:=h.nod;rw[hs,VJ,V0] at hn;obtain⟨_,n2,n3⟩:=List.nodup_append.1 hn;have n4:=List.nodup_cons.1 n2;refine⟨λx hx he=>?_,λx hx he=>n4.1 (List.mem_map.2 ⟨x,hx,he⟩)⟩;exact n3 _ (List.mem_map.2 ⟨x,hx,rfl⟩) _ List.mem_cons_self he
theorem Ow (id:Ak):Hw F d es cs id=some (Uz cs id):=by
 unfold Hw Uz
 cases hg:B4 d.fCalls id with
 | none=>
  have hh:=Ce hg;rw[hh,List.find?_eq_none.2 (λc hc hx=>by
   simp only[UX,UU] at hx;have:=h.cnm c hc;rw[hx.1,hh] at this;cases this)]
  rfl
 | some k=>
  obtain⟨p,rfl,hp,hid⟩:=h.cal id k hg;obtain⟨A,c,B,hs,hA,hc0⟩:=NJ hp;rw[hc0] at hid;subst hid hA;obtain⟨i1,i2⟩:=K9 h hs;have hl:A.length<cs.length:=by rw[hs];simp
  have hc:=h.ok c (by rw[hs];simp);have hat:Ae cs (A.length:Int)=c:=by rw[hs];exact CT A c B
  rw[Dr hg,Cw hg,Bx (by rw[UT (by omega)];rfl),Bx (by rw[La (by omega) (by omega)];rfl),hat];have hf:cs.find? (λx=>decide (x.fOp.fID=c.fOp.fID)&&decide (0≤x.fTo))=if 0≤c.fTo then some c else none:=by
   rw[hs,List.find?_append,List.find?_eq_none.2 (λx hx hx'=>by
    simp only[UX,UU] at hx';exact i1 x hx hx'.1),List.find?_cons]
   by_cases h0:0≤c.fTo
   ·rw[UT rfl,UT h0,Vi h0];rfl
   ·rw[UT rfl,UR h0,Ve h0];show(List.find? _ B)=none;exact List.find?_eq_none.2 (λx hx hx'=>by
     simp only[UX,UU] at hx';exact i2 x hx hx'.1)
  rw[hf]
  by_cases h0:0≤c.fTo
  ·rw[Vi h0,UR (show ¬ c.fTo = -1 from by omega),Ao (by rfl),Bx (UT (by omega)),AH (by omega) (by omega)];rw[show D2 F (Ai.mk c.fOp c.fAnswer c.fFrom c.fTo)=some c from O9 hF hc,AF rfl]
  ·have h1:c.fTo = -1:=by have:=hc.to;omega
   rw[Ve h0,UT h1,Az (by rfl)]
end
def OC (op:Ar)(now:Int):Ai:=⟨op,⟨0,[]⟩,now,-1⟩
section
variable {d : Aq} {es : List Ah} {cs : List Ai}
theorem Oh {x:Ai}{e:Ak}(hx : ¬ x.fOp.fEntity=e):BN [x] e=[]:=by rw[CF,Ve hx];rfl
theorem Pc {x:Ai}{e:Ak}(hx:x.fOp.fEntity=e):BN [x] e=[x]:=by rw[CF,Vi hx];rfl
theorem Q7.other {en:Ah}{e:Ak}{x:Ai}(hr:Q7 en cs e)(hx : ¬ x.fOp.fEntity=e):Q7 en (cs++[x]) e where
 ex:=by
  obtain⟨D,O,h1,h2⟩:=hr.ex;exact⟨D,O,by rw[Gn,Oh hx,Vz,h1],h2⟩
 ix:=by rw[Ef,EQ,Ve hx,EQ,Vz,hr.ix]
theorem Q7.add {en:Ah}{e:Ak}{x:Ai}(hr:Q7 en cs e)(hx:x.fOp.fEntity=e)(ht:x.fTo = -1):Q7 ⟨en.fState,en.fCalls++[(cs.length:Int)],en.fDone⟩ (cs++[x]) e where
 ex:=by
  obtain⟨D,O,h1,h2,h3,h4⟩:=hr.ex;refine⟨D,O++[x],by rw[Gn,Pc hx,h1,Vo],h2,λc hc=>?_,h4⟩;rcases List.mem_append.1 hc with hc | hc
  ·exact h3 c hc
  ·rw[List.mem_singleton.1 hc];exact ht
 ix:=by rw[Ef,EQ,Vi hx,EQ,hr.ix,Vt]
theorem Q7.new {e:Ak}{x:Ai}(h0:BN cs e=[])(hx:x.fOp.fEntity=e)(ht:x.fTo = -1):Q7 ⟨BI,[(cs.length:Int)],0⟩ (cs++[x]) e where
 ex:=⟨[],[x],by rw[Gn,Pc hx,h0],λc hc=>(by cases hc),λc hc=>(by rw[List.mem_singleton.1 hc];exact ht),rfl,rfl,trivial⟩
 ix:=by
  have:EQ e 0 cs=[]:=List.length_eq_zero_iff.1 (by rw[Gw,h0];rfl);rw[Ef,this,EQ,Vi hx,EQ,Vt];rfl
theorem Po (h:Lf d es cs)(hlen:cs.length<200){op:Ar}{now:Int}(ho:Le 250 op)(hne:op.fArgs.length≤4)(he:D9 op=0)(hnow:d.fNow≤now∧now≤1073741824)(hid:B4 d.fCalls op.fID=none)
  {fE:List (Ak×Int)} {es':List Ah} (ems:Ms fE) (ent:∀e k,B4 fE e=some k→∃p:Nat,k=(p:Int)∧p<es'.length∧Q7 (Ae es' (p:Int)) (cs++[OC op now]) e)
  (inj:∀e e' k,B4 fE e=some k→B4 fE e'=some k→e=e') (enm:∀e,Bq fE e=true↔(∃c∈cs,c.fOp.fEntity=e)∨op.fEntity=e) (eln:fE.length≤cs.length+1) :
  Lf ⟨now,fE,mset d.fCalls op.fID (cs.length:Int)⟩ es' (cs++[OC op now]) where
 now:=by have:=h.now;exact⟨by show 0≤now;omega,hnow.2⟩
 ems:=ems
 ent:=ent
 inj:=inj
 enm e:=by
  rw[enm e];constructor
  ·rintro(⟨c,hc,he⟩ | he)
   ·exact⟨c,List.mem_append_left _ hc,he⟩
   ·exact⟨OC op now,by simp,he⟩
  ·rintro⟨c,hc,he⟩;rcases List.mem_append.1 hc with hc | hc
   ·exact .inl ⟨c,hc,he⟩
   ·rw[List.mem_singleton.1 hc] at he;exact .inr he
 eln:=by rw[Vd];exact eln
 cln:=by
  rw[Vd,J3,Ce hid];have:=h.cln;simp only[Va,UZ,Vx];omega
 cal id k hk:=by
  have hk:B4 (mset d.fCalls op.fID (cs.length:Int)) id=some k:=hk;rw[Gb] at hk
  by_cases e:id=op.fID
  ·rw[UT e,Vf] at hk
   cases hk
   exact⟨cs.length,rfl,by simp,by rw[CT];exact e.symm⟩
  ·rw[UR e,Va] at hk;obtain⟨p,h1,h2,h3⟩:=h.cal id k hk;exact⟨p,h1,by simp;omega,by rw[My h2];exact h3⟩
 cnm c hc:=by
  show Bq (mset d.fCalls op.fID (cs.length:Int)) c.fOp.fID=true;unfold Bq;rw[Gb]
  by_cases e:c.fOp.fID=op.fID
  ·rw[UT e];rfl
  ·rw[UR e];rcases List.mem_append.1 hc with hc | hc
   ·exact h.cnm c hc
   ·rw[List.mem_singleton.1 hc] at e;exact absurd rfl e
 nod:=by
  rw[VJ];refine List.nodup_append.2 ⟨h.nod,by simp,λa ha b hb e=>?_⟩;obtain⟨c,hc,rfl⟩:=List.mem_map.1 ha;have hb:b=op.fID:=by simpa[OC] using hb
  have:=h.cnm c hc;rw[e,hb,Ce hid] at this;cases this
 ok c hc:=by
  rcases List.mem_append.1 hc with hc | hc
  ·exact h.ok c hc
  ·rw[List.mem_singleton.1 hc];exact⟨ho,hne,he,Vw _,.inl rfl⟩
 frm c hc:=by
  show c.fFrom≤now∧c.fTo≤now;rcases List.mem_append.1 hc with hc | hc
  ·have:=h.frm c hc;omega
  ·rw[List.mem_singleton.1 hc];have:=h.now;exact⟨Vm _,by show -1≤now;omega⟩
 len:=by simp;omega
theorem RH (h:Lf d es cs){now:Int}(hnow:d.fNow≤now∧now≤1073741824):Lf ⟨now,d.fEntities,d.fCalls⟩ es cs:=
 { h with now:=(by have:=h.now;exact⟨by show 0≤now;omega,hnow.2⟩),frm:=λc hc=>(by have:=h.frm c hc;show c.fFrom≤now∧c.fTo≤now;omega) }
theorem RI (h:Lf d es cs){e:Ak}{p:Nat}{now:Int}(hnow:d.fNow≤now∧now≤1073741824)(hg:B4 d.fEntities e=some (p:Int))(hp:p<es.length){A B D O:List Ai}{c:Ai}(hs:cs=A++c::B)(hA:BN A e=D)(hB:BN B e=O)(hce:c.fOp.fEntity=e)
  (hD:∀x∈D,0≤x.fTo) (hO:∀x∈O,x.fTo = -1) (hDn:Dn BI D) (hix:(Ae es (p:Int)).fCalls=EQ e 0 cs) (hc0:GS (CO BI D)) :
  Lf ⟨now,d.fEntities,d.fCalls⟩ (es.set p ⟨(Gf (CO BI D) c.fOp).1,(Ae es (p:Int)).fCalls,(D.length:Int)+1⟩) (A++⟨c.fOp,(Gf (CO BI D) c.fOp).2.1,c.fFrom,now⟩::B):=by
 have hc:Sh c:=h.ok c (by rw[hs];simp);have hfr:=h.frm c (by rw[hs];simp);have hn0:=h.now;have hdo:=N6 hc0 hc.op hc.er;have hmem:∀x,x∈A++(⟨c.fOp,(Gf (CO BI D) c.fOp).2.1,c.fFrom,now⟩:Ai)::B→x∈cs∨x=⟨c.fOp,(Gf (CO BI D) c.fOp).2.1,c.fFrom,now⟩:=λx hx=>by
  rw[hs];simp only[List.mem_append,V4] at hx ⊢;rcases hx with hx | hx | hx
  ·exact .inl (.inl hx)
  ·exact .inr hx
  ·exact .inl (.inr (.inr hx))
 have hset:A++(⟨c.fOp,(Gf (CO BI D) c.fOp).2.1,c.fFrom,now⟩:Ai)::B=cs.set A.length ⟨c.fOp,(Gf (CO BI D) c.fOp).2.1,c.fFrom,now⟩:=by rw[hs,EW]
 have hAl:A.length<cs.length:=by rw[hs];simp
 have hat:Ae cs (A.length:Int)=c:=by rw[hs];exact CT A c B
 refine { now:=⟨by show 0≤now;omega,hnow.2⟩,ems:=h.ems,inj:=h.inj,eln:=by rw[hset,VB];exact h.eln,cln:=by rw[hset,VB];exact h.cln,len:=by rw[hset,VB];exact h.len,ent:=?_,enm:=?_,cal:=?_,cnm:=?_,nod:=?_,ok:=?_,frm:=?_ }
 ·intro e' k hk;have hk:B4 d.fEntities e'=some k:=hk;obtain⟨q,rfl,hq,hr⟩:=h.ent e' k hk;refine⟨q,rfl,by rw[VB];exact hq,?_⟩;rw[OE _ hp]
  by_cases hpq:p=q
  ·subst hpq;obtain rfl:e'=e:=h.inj _ _ _ hk hg;rw[Vi rfl];refine⟨⟨D++[⟨c.fOp,(Gf (CO BI D) c.fOp).2.1,c.fFrom,now⟩],O,?_,λx hx=>?_,hO,by simp,by rw[Rb],P9 hDn rfl (by show c.fFrom≤now;omega)⟩,?_⟩
   ·rw[Gn,CF,Vi hce,hA,hB,Vo];rfl
   ·rcases List.mem_append.1 hx with hx | hx
    ·exact hD x hx
    ·rw[List.mem_singleton.1 hx];show 0≤now;omega
   ·show(Ae es (p:Int)).fCalls=_;rw[hix,hs,Ef,Ef,EQ,EQ]
  ·rw[Ve hpq];have hne : ¬ c.fOp.fEntity=e':=λhe=>by
    have h1:e'=e:=he.symm.trans hce;subst h1;rw[hg] at hk;exact hpq (by have:=Option.some.inj hk;omega)
   obtain⟨D',O',x1,x2⟩:=hr.ex;refine⟨⟨D',O',?_,x2⟩,?_⟩
   ·rw[← x1,hs,Gn,Gn,CF,CF,Ve hne,Ve hne]
   ·rw[hr.ix,hs,Ef,Ef,EQ,EQ,Ve hne]
 ·intro e';show Bq d.fEntities e'=true↔_;rw[h.enm e'];constructor
  ·rintro⟨x,hx,he⟩;rw[hs] at hx;simp only[List.mem_append,V4] at hx;rcases hx with hx | rfl | hx
   ·exact⟨x,by simp[hx],he⟩
   ·exact⟨⟨x.fOp,(Gf (CO BI D) x.fOp).2.1,x.fFrom,now⟩,by simp,he⟩
   ·exact⟨x,by simp[hx],he⟩
  ·rintro⟨x,hx,he⟩;rcases hmem x hx with hx | rfl
   ·exact⟨x,hx,he⟩
   ·exact⟨c,by rw[hs];simp,he⟩
 ·intro id k hk;obtain⟨q,h1,h2,h3⟩:=h.cal id k hk;refine⟨q,h1,by rw[hset,VB];exact h2,?_⟩;rw[hset,OE _ hAl]
  by_cases hq:A.length=q
  ·subst hq;rw[Vi rfl];rw[hat] at h3;exact h3
  ·rw[Ve hq];exact h3
 ·intro x hx;show Bq d.fCalls x.fOp.fID=true;rcases hmem x hx with hx | rfl
  ·exact h.cnm x hx
  ·exact h.cnm c (by rw[hs];simp)
 ·have hn:=h.nod;rw[hs,VJ,V0] at hn;rw[VJ,V0];exact hn
 ·intro x hx;rcases hmem x hx with hx | rfl
  ·exact h.ok x hx
  ·exact⟨hc.op,hc.ne,hc.er,hdo.2.2,.inr (by show 0≤now;omega)⟩
 ·intro x hx;show x.fFrom≤now∧x.fTo≤now;rcases hmem x hx with hx | rfl
  ·have:=h.frm x hx;omega
  ·exact⟨by show c.fFrom≤now;omega,Vm _⟩
end
theorem NK {α:Type}[Inhabited α]{A B:List α}{i:Nat}(hi:i<A.length):Ae (A++B) (i:Int)=A[i]:=by rw[My hi,B6 hi]
section
variable {F : Nat} {d : Aq} {es : List Ah} {cs : List Ai} (hF : 30000 ≤ F) (h : Lf d es cs)
include hF h
theorem Rh {op:Ar}(hA:Le 250 op)(hne:op.fArgs.length≤4)(he:D9 op=0){now:Int}(hnow:d.fNow≤now∧now≤1073741824){p:Nat}(hp:p<cs.length)(hid:(Ae cs (p:Int)).fOp.fID=op.fID) :
  DN F ⟨d.fNow,cs⟩ op now=some (if (Ae cs (p:Int)).fOp=op then(0,⟨now,cs⟩) else(19,⟨d.fNow,cs⟩)):=by
 have hn0:=h.now;have hl:=h.len;obtain⟨A,c,B,hs,hAl,hc0⟩:=NJ hp;rw[hc0] at hid ⊢;obtain⟨i1,i2⟩:=K9 h hs;have hc:Sh c:=h.ok c (by rw[hs];simp);unfold DN;rw[Dj hA (by decide) (by omega) (by omega),AF rfl,he,Ao (by rfl),Ao (by rw[UR (by omega),UR (by omega)];rfl),Ao (UR (by show ¬ now<d.fNow;omega))];obtain⟨⟨n,hlop⟩,_⟩:=Ku (O:=Out (Int×AC) Bool) (l:=A) (mk:=λi (acc:Bool)=>(acc,(i:Int))) (body:=λσ=>BY F ⟨d.fNow,cs⟩ op now σ.1 σ.2) (λacc x=>bif acc then true else decide (x.fOp.fEntity=op.fEntity)) (λ_ _=>True) (λi hi acc _=>by
  refine⟨?_,trivial⟩;have hnid : ¬ (A[i]).fOp.fID=op.fID:=λe=>i1 _ (List.getElem_mem hi) (by rw[e,hid]);have hat:Ae cs (i:Int)=A[i]:=by rw[hs];exact NK hi
  have hlt:(i:Int)<(cs.length:Int):=by rw[hs];simp;omega
  unfold BY EB;simp only;rw[Az (UT hlt),AH (by omega) hlt,hat,Ao (UR hnid)]
  cases acc with
  | true=>rw[Az rfl,AA (by omega) (by omega)];rfl
  | false=>rw[Ao rfl,AA (by omega) (by omega)];rfl) (F:=F) (by rw[hs] at hl;simp at hl;omega) (a:=false) trivial
 have hlop':BD (λσ=>BY F ⟨d.fNow,cs⟩ op now σ.1 σ.2) F (false,0)=_:=hlop;rw[hlop',BD];have hat:Ae cs (A.length:Int)=c:=by rw[hAl];exact hc0
 have hlt:(A.length:Int)<(cs.length:Int):=by omega
 generalize A.foldl _ false=acc;have hb:BY F ⟨d.fNow,cs⟩ op now acc (A.length:Int)=some (.out (.ret (if c.fOp=op then(0,⟨now,cs⟩) else(19,⟨d.fNow,cs⟩)))):=by
  unfold BY;simp only;rw[Az (UT hlt),AH (by omega) hlt,hat,Az (UT hid),Oa hc.op (by decide) (by omega) (by have:=hc.ne;omega),AF rfl]
  by_cases e:c.fOp=op
  ·rw[UT e,Ao (by rfl),Vi e]
  ·rw[UR e,Az (by rfl),Ve e]
 rw[hb];rfl
theorem Rg {op:Ar}(hA:Le 250 op)(hne:op.fArgs.length≤4)(he:D9 op=0){now:Int}(hnow:d.fNow≤now∧now≤1073741824)(hid:∀c∈cs,¬ c.fOp.fID=op.fID) :
  DN F ⟨d.fNow,cs⟩ op now=some (0,⟨now,cs++[OC op now]⟩):=by
 have hn0:=h.now;have hl:=h.len;unfold DN;rw[Dj hA (by decide) (by omega) (by omega),AF rfl,he,Ao (by rfl),Ao (by rw[UR (by omega),UR (by omega)];rfl),Ao (UR (by show ¬ now<d.fNow;omega))];have hlop:=(Gv (O:=Out (Int×AC) Bool) (l:=cs) (mk:=λi (acc:Bool)=>(acc,(i:Int))) (body:=λσ=>BY F ⟨d.fNow,cs⟩ op now σ.1 σ.2) (fin:=λacc=>.go acc) (λacc x=>bif acc then true else decide (x.fOp.fEntity=op.fEntity)) (λ_ _=>True) (λi hi acc _=>by
  refine⟨?_,trivial⟩;unfold BY EB;simp only;rw[Az (UT (by omega)),AH (by omega) (by omega),B6 hi,Ao (UR (hid _ (List.getElem_mem hi)))]
  cases acc with
  | true=>rw[Az rfl,AA (by omega) (by omega)];rfl
  | false=>rw[Ao rfl,AA (by omega) (by omega)];rfl) (λacc _=>by unfold BY;simp only;rw[Ao (UR (by omega))]) (F:=F) (by omega) (a:=false) trivial).1
 have hlop':BD (λσ=>BY F ⟨d.fNow,cs⟩ op now σ.1 σ.2) F (false,0)=_:=hlop;rw[hlop',AF rfl,Cn];generalize cs.foldl _ false=acc;unfold J0 EA;simp only;rw[Ao (UR (by omega))];obtain⟨r,hr,hr2⟩:=Oe (t:=d.fNow) hF (show cs.length≤1000 by omega);have h3:=hr2.2.2
 cases acc with
 | true=>rw[Ao (by rfl),Ao rfl,Hb (by simp;omega)];rfl
 | false=>rw[Az (by rfl),hr,AF rfl,Ao (UR (by omega)),Hb (by simp;omega)];rfl
theorem T6 (hlen:cs.length<200){op:Ar}(hA:Le 250 op)(hne:op.fArgs.length≤4)(now:Int) :
  ∃r d' es' cs',Cv F d es cs op now=some (r,d',es',cs')∧DN F ⟨d.fNow,cs⟩ op now=some (r,⟨d'.fNow,cs'⟩)∧Lf d' es' cs'∧cs'.length≤cs.length+1∧(¬ r=0→d'=d∧es'=es∧cs'=cs):=by
 have hn0:=h.now;have hl:=h.len
 by_cases he:D9 op=0
 ·by_cases ht:now<0∨1073741824<now
  ·have hb:(decide (now<0)||decide (1073741824<now))=true:=by simpa using ht
   refine⟨2,d,es,cs,?_,?_,h,by omega,λ_=>⟨rfl,rfl,rfl⟩⟩
   ·unfold Cv;rw[Dp hA (by decide) (by omega) (by omega),AF rfl,he,Ao (by rfl),Az hb]
   ·unfold DN;rw[Dj hA (by decide) (by omega) (by omega),AF rfl,he,Ao (by rfl),Az hb]
  ·have hb:(decide (now<0)||decide (1073741824<now))=false:=by simp only[Vy,UV];omega
   by_cases ht2:now<d.fNow
   ·refine⟨11,d,es,cs,?_,?_,h,by omega,λ_=>⟨rfl,rfl,rfl⟩⟩
    ·unfold Cv;rw[Dp hA (by decide) (by omega) (by omega),AF rfl,he,Ao (by rfl),Ao hb,Az (UT ht2)]
    ·unfold DN;rw[Dj hA (by decide) (by omega) (by omega),AF rfl,he,Ao (by rfl),Ao hb,Az (UT ht2)]
   ·have hnow:d.fNow≤now∧now≤1073741824:=by omega
    cases hg:B4 d.fCalls op.fID with
    | some k=>
     obtain⟨p,rfl,hp,hid⟩:=h.cal _ _ hg;have hc:Sh (Ae cs (p:Int)):=h.ok _ (by rw[B6 hp];exact List.getElem_mem hp);have hr:=Rh hF h hA hne he hnow hp hid
     by_cases e:(Ae cs (p:Int)).fOp=op
     ·refine⟨0,⟨now,d.fEntities,d.fCalls⟩,es,cs,?_,by rw[hr,Vi e],RH h hnow,by omega,λx=>absurd rfl x⟩;unfold Cv;rw[Dp hA (by decide) (by omega) (by omega),AF rfl,he,Ao (by rfl),Ao hb,Ao (UR ht2),Cw hg,Az rfl,Dr hg,Bx (UT (by omega)),AH (by omega) (by omega),No hc.op (by decide) (by omega) (by have:=hc.ne;omega),AF rfl,UT e,Ao (by rfl)]
     ·refine⟨19,d,es,cs,?_,by rw[hr,Ve e],h,by omega,λ_=>⟨rfl,rfl,rfl⟩⟩;unfold Cv;rw[Dp hA (by decide) (by omega) (by omega),AF rfl,he,Ao (by rfl),Ao hb,Ao (UR ht2),Cw hg,Az rfl,Dr hg,Bx (UT (by omega)),AH (by omega) (by omega),No hc.op (by decide) (by omega) (by have:=hc.ne;omega),AF rfl,UR e,Az (by rfl)]
    | none=>
     have hnid:∀c∈cs,¬ c.fOp.fID=op.fID:=λc hc e=>by
      have:=h.cnm c hc;rw[e,Ce hg] at this;cases this
     have hr:=Rg hF h hA hne he hnow hnid;have hx1:=h.cln;have hx2:=h.eln;have hfull:∀b:Bool,((decide ((d.fCalls.length:Int)=256))||(b&&(decide ((d.fEntities.length:Int)=256))))=false:=λb=>by
      rw[UR (by omega),UR (by omega),V3];rfl
     cases hge:B4 d.fEntities op.fEntity with
     | none=>
      have hh:=Ce hge;have hown:BN cs op.fEntity=[]:=I3 λc hc e=>by
       have:=(h.enm op.fEntity).2 ⟨c,hc,e⟩;rw[hh] at this;cases this
      refine⟨0,⟨now,mset d.fEntities op.fEntity (es.length:Int),mset d.fCalls op.fID (cs.length:Int)⟩,es++[⟨BI,[(cs.length:Int)],0⟩],cs++[OC op now],?_,hr,?_,by simp,λx=>absurd rfl x⟩
      ·unfold Cv Lj;rw[Dp hA (by decide) (by omega) (by omega),AF rfl,he,Ao (by rfl),Ao hb,Ao (UR ht2),Ce hg,Ao rfl,Ao (hfull _),hh,Az (by rfl),AF rfl,Jg hA (by decide) (by omega),AF rfl,CT,AH (by omega) (by simp;omega),LC (by simp),V9,EW];rfl
      ·refine Po h hlen hA hne he hnow hg (h.ems.mset _ _) ?_ ?_ ?_ (by rw[J3,hh];simp only[Va];omega)
       ·intro e k hk;rw[Gb] at hk
        by_cases ee:e=op.fEntity
        ·subst ee;rw[UT rfl,Vf] at hk
         cases hk
         exact⟨es.length,rfl,by simp,by rw[CT];exact Q7.new hown rfl rfl⟩
        ·rw[UR ee,Va] at hk;obtain⟨p,h1,h2,h3⟩:=h.ent e k hk;exact⟨p,h1,by simp;omega,by rw[My h2];exact h3.other (λx=>ee x.symm)⟩
       ·intro e e' k hk hk';rw[Gb] at hk hk';have key:∀x,B4 d.fEntities x=some (es.length:Int)→False:=λx hx=>by
         obtain⟨p,h1,h2,_⟩:=h.ent x _ hx;omega
        by_cases ee:e=op.fEntity
        ·rw[UT ee,Vf] at hk
         cases hk
         by_cases ee':e'=op.fEntity
         ·rw[ee,ee']
         ·rw[UR ee',Va] at hk';exact(key _ hk').elim
        ·rw[UR ee,Va] at hk
         by_cases ee':e'=op.fEntity
         ·rw[UT ee',Vf] at hk'
          cases hk'
          exact(key _ hk).elim
         ·rw[UR ee',Va] at hk';exact h.inj _ _ _ hk hk'
       ·intro e;rw[← h.enm e];unfold Bq;rw[Gb]
        by_cases ee:e=op.fEntity
        ·rw[UT ee];exact⟨λ_=>.inr ee.symm,λ_=>rfl⟩
        ·rw[UR ee];exact⟨.inl,λx=>x.resolve_right λy=>ee y.symm⟩
     | some k=>
      obtain⟨p,rfl,hp,hrec⟩:=h.ent _ _ hge;have hixl:(Ae es (p:Int)).fCalls.length≤200:=by rw[hrec.ix,Gw];exact Nat.le_trans (List.length_filter_le ..) hl
      refine⟨0,⟨now,d.fEntities,mset d.fCalls op.fID (cs.length:Int)⟩,es.set p ⟨(Ae es (p:Int)).fState,(Ae es (p:Int)).fCalls++[(cs.length:Int)],(Ae es (p:Int)).fDone⟩,cs++[OC op now],?_,hr,?_,by simp,λx=>absurd rfl x⟩
      ·unfold Cv;rw[Dp hA (by decide) (by omega) (by omega),AF rfl,he,Ao (by rfl),Ao hb,Ao (UR ht2),Ce hg,Ao rfl,Ao (hfull _),Cw hge,Ao (by rfl),Jg hA (by decide) (by omega),AF rfl,Dr hge,AH (by omega) (by omega),LC (by simp;omega),V9];rfl
      ·refine Po h hlen hA hne he hnow hg h.ems ?_ h.inj ?_ (by omega)
       ·intro e k hk;obtain⟨q,h1,h2,h3⟩:=h.ent e k hk;refine⟨q,h1,by rw[VB];exact h2,?_⟩;rw[OE _ hp]
        by_cases hpq:p=q
        ·subst hpq;rw[Vi rfl];obtain rfl:e=op.fEntity:=h.inj _ _ _ (by rw[hk,h1]) hge;exact h3.add rfl rfl
        ·rw[Ve hpq];refine h3.other λx=>hpq ?_;have x:op.fEntity=e:=x;rw[← x,hge] at hk;have:=Option.some.inj hk;omega
       ·intro e;rw[h.enm e];refine⟨.inl,?_⟩;rintro(x | rfl)
        ·exact x
        ·exact(h.enm _).1 (Cw hge)
 ·refine⟨D9 op,d,es,cs,?_,?_,h,by omega,λ_=>⟨rfl,rfl,rfl⟩⟩
  ·unfold Cv;rw[Dp hA (by decide) (by omega) (by omega),AF rfl,Az (by rw[UR he];rfl)]
  ·unfold DN;rw[Dj hA (by decide) (by omega) (by omega),AF rfl,Az (by rw[UR he];rfl)]
end
def Jt:Ai:=⟨⟨[],[],[],[]⟩,⟨0,[]⟩,0,0⟩
section
variable {F : Nat} {d : Aq} {es : List Ah} {cs : List Ai} (hF : 30000 ≤ F) (h : Lf d es cs)
include hF h
theorem Ke {e:Ak}{now:Int}(hnow:d.fNow≤now∧now≤1073741824)(hno:∀c∈BN cs e,0≤c.fTo):HO F ⟨d.fNow,cs⟩ e now=some (Jt,false,⟨d.fNow,cs⟩):=by
 have hn0:=h.now;have hl:=h.len;unfold HO;rw[Ao (by rw[UR (by omega),UR (by omega),UR (show ¬ now<d.fNow by omega)];rfl),Kh hF (by omega) h.ok,AF rfl];have hlop:=(Gv (O:=Out (Ai×Bool×AC) Unit) (l:=cs) (mk:=λi (_:Unit)=>(i:Int)) (body:=λσ=>Cp F ⟨d.fNow,cs⟩ e now (MM cs e) σ) (fin:=λacc=>.go acc) (λacc _=>acc) (λ_ _=>True) (λi hi acc _=>by
  refine⟨?_,trivial⟩;have hb:(decide ((cs[i]).fOp.fEntity=e)&&decide ((cs[i]).fTo<0))=false:=by
   by_cases he:(cs[i]).fOp.fEntity=e
   ·have:=hno _ (List.mem_filter.2 ⟨List.getElem_mem hi,UT he⟩);rw[UR (show ¬ (cs[i]).fTo<0 by omega),V3]
   ·rw[UR he,V6]
  unfold Cp;simp only;rw[Az (UT (by omega)),AH (by omega) (by omega),B6 hi,hb,Ao rfl,AA (by omega) (by omega)];rfl) (λacc _=>by unfold Cp;simp only;rw[Ao (UR (by omega))]) (F:=F) (by omega) (a:=()) trivial).1
 have hlop':BD (λσ=>Cp F ⟨d.fNow,cs⟩ e now (MM cs e) σ) F 0=_:=hlop;rw[hlop',AF rfl,Cn];rfl
theorem NY {e:Ak}{now:Int}(hnow:d.fNow≤now∧now≤1073741824){A B D O:List Ai}{c:Ai}(hs:cs=A++c::B)(hA:BN A e=D)(hB:BN B e=O)(hce:c.fOp.fEntity=e)(hD:∀x∈D,0≤x.fTo)(hO:∀x∈O,x.fTo = -1)(hc1:c.fTo = -1) :
  HO F ⟨d.fNow,cs⟩ e now=some (⟨c.fOp,(Gf (CO BI D) c.fOp).2.1,c.fFrom,now⟩,true,⟨now,A++⟨c.fOp,(Gf (CO BI D) c.fOp).2.1,c.fFrom,now⟩::B⟩):=by
 have hn0:=h.now;have hl:=h.len;have hc:Sh c:=h.ok c (by rw[hs];simp);have hst:MM cs e=CO BI D:=by
  unfold MM;rw[IG (D:=D) (O:=c::O) (by rw[hs,Gn,CF,Vi hce,hA,hB]) hD (λx hx=>by
   rcases List.mem_cons.1 hx with rfl | hx
   ·exact hc1
   ·exact hO x hx)]
 have hgs:GS (CO BI D):=by rw[← hst];exact Ps h.ok e
 unfold HO;rw[Ao (by rw[UR (by omega),UR (by omega),UR (show ¬ now<d.fNow by omega)];rfl),Kh hF (by omega) h.ok,AF rfl,hst];obtain⟨⟨n,hlop⟩,_⟩:=Ku (O:=Out (Ai×Bool×AC) Unit) (l:=A) (mk:=λi (_:Unit)=>(i:Int)) (body:=λσ=>Cp F ⟨d.fNow,cs⟩ e now (CO BI D) σ) (λacc _=>acc) (λ_ _=>True) (λi hi acc _=>by
  refine⟨?_,trivial⟩;have hat:Ae cs (i:Int)=A[i]:=by rw[hs];exact NK hi
  have hlt:(i:Int)<(cs.length:Int):=by rw[hs];simp;omega
  have hb:(decide ((A[i]).fOp.fEntity=e)&&decide ((A[i]).fTo<0))=false:=by
   by_cases he:(A[i]).fOp.fEntity=e
   ·have:=hD (A[i]) (by rw[← hA];exact List.mem_filter.2 ⟨List.getElem_mem hi,UT he⟩);rw[UR (show ¬ (A[i]).fTo<0 by omega),V3]
   ·rw[UR he,V6]
  unfold Cp;simp only;rw[Az (UT hlt),AH (by omega) hlt,hat,hb,Ao rfl,AA (by omega) (by omega)];rfl) (F:=F) (by rw[hs] at hl;simp at hl;omega) (a:=()) trivial
 have hlop':BD (λσ=>Cp F ⟨d.fNow,cs⟩ e now (CO BI D) σ) F 0=BD (λσ=>Cp F ⟨d.fNow,cs⟩ e now (CO BI D) σ) (n+1) (A.length:Int):=hlop;rw[hlop',BD];have hcl:cs.length=A.length+(B.length+1):=by rw[hs];simp
 have hlt:(A.length:Int)<(cs.length:Int):=by omega
 have hat:Ae cs (A.length:Int)=c:=by rw[hs];exact CT A c B
 have hset:∀y:Ai,List.set cs A.length y=A++y::B:=λy=>by rw[hs,EW]
 have hlen:∀y:Ai,(A++y::B).length=cs.length:=λy=>by rw[hs];simp
 have hb:Cp F ⟨d.fNow,cs⟩ e now (CO BI D) (A.length:Int)=some (.out (.ret (⟨c.fOp,(Gf (CO BI D) c.fOp).2.1,c.fFrom,now⟩,true,⟨now,A++⟨c.fOp,(Gf (CO BI D) c.fOp).2.1,c.fFrom,now⟩::B⟩))):=by
  unfold Cp;simp only;rw[Az (UT hlt),AH (by omega) hlt,hat,Az (by rw[UT hce,UT (show c.fTo<0 by omega)];rfl),MX hgs.1 hc.op (by decide) (by omega) (by have:=hc.ne;omega),AF rfl,V9,hset];unfold NI;simp only;rw[hlen,AH (by omega) hlt,CT,EW,hlen,AH (by omega) hlt,CT]
 rw[hb];rfl
theorem S4 (e:Ak)(now:Int):∃c b d' es' cs',GP F d es cs e now=some (c,b,d',es',cs')∧HO F ⟨d.fNow,cs⟩ e now=some (c,b,⟨d'.fNow,cs'⟩)∧Lf d' es' cs'∧cs'.length=cs.length∧(b=false→d'=d∧es'=es∧cs'=cs)∧(Le 250 c.fOp∧c.fOp.fArgs.length≤4∧c.fAnswer.fValue.length≤250):=by
 have hn0:=h.now;have hl:=h.len;have hz:Le 250 Jt.fOp∧Jt.fOp.fArgs.length≤4∧Jt.fAnswer.fValue.length≤250:=⟨⟨by decide,by decide,by decide,by decide,λv hv=>by cases hv⟩,by decide,by decide⟩
 by_cases ht:now<d.fNow
 ·refine⟨Jt,false,d,es,cs,?_,?_,h,rfl,λ_=>⟨rfl,rfl,rfl⟩,hz⟩
  ·unfold GP CH;rw[Az (UT ht),Az rfl];rfl
  ·unfold HO;rw[Az (by rw[UT (show now<d.fNow from ht)];simp)];rfl
 ·by_cases ht2:1073741824<now
  ·refine⟨Jt,false,d,es,cs,?_,?_,h,rfl,λ_=>⟨rfl,rfl,rfl⟩,hz⟩
   ·unfold GP CH;rw[Ao (UR ht),UT ht2,Az rfl];rfl
   ·unfold HO;rw[Az (by rw[UT ht2];simp)];rfl
  ·have hnow:d.fNow≤now∧now≤1073741824:=by omega
   have hj:GP F d es cs e now=CH F d es cs e now false:=by
    unfold GP;rw[Ao (UR ht),UR ht2]
   rw[hj]
   cases hg:B4 d.fEntities e with
   | none=>
    have hh:=Ce hg;have hown:BN cs e=[]:=I3 λc hc he=>by
     have:=(h.enm e).2 ⟨c,hc,he⟩;rw[hh] at this;cases this
    refine⟨Jt,false,d,es,cs,?_,Ke hF h hnow (by rw[hown];exact λc hc=>by cases hc),h,rfl,λ_=>⟨rfl,rfl,rfl⟩,hz⟩;unfold CH;rw[Ao rfl,hh,Ao rfl];rfl
   | some k=>
    obtain⟨p,rfl,hp,hrec⟩:=h.ent _ _ hg;obtain⟨D,O,x1,x2,x3,x4,x5,x6⟩:=hrec.ex;have hfl:(Ae es (p:Int)).fCalls.length=D.length+O.length:=by rw[hrec.ix,Gw,x1,Vd]
    have hDl:D.length+O.length≤200:=by rw[← Vd,← x1];exact Nat.le_trans (List.length_filter_le ..) hl
    cases O with
    | nil=>
     refine⟨Jt,false,d,es,cs,?_,Ke hF h hnow (by rw[x1,Vz];exact x2),h,rfl,λ_=>⟨rfl,rfl,rfl⟩,hz⟩;unfold CH;rw[Ao rfl,Cw hg,Az rfl,Dr hg,AH (by omega) (by omega),Az (UT (by rw[x4,hfl,Vx];rfl))];rfl
    | cons c O=>
     obtain⟨A,B,hs,hA,hB,hce⟩:=Ja x1;have hc1:c.fTo = -1:=x3 c List.mem_cons_self;have hO:∀x∈O,x.fTo = -1:=λx hx=>x3 x (List.mem_cons_of_mem _ hx);have hc:Sh c:=h.ok c (by rw[hs];simp);have hgs:GS (CO BI D):=by
      have:=Ps h.ok e;rw[← hrec.st,x5] at this;exact this
     have hdo:=N6 hgs hc.op hc.er;have hi:Ae (Ae es (p:Int)).fCalls (D.length:Int)=(A.length:Int):=by
      rw[hrec.ix,hs,Ef,EQ,Vi hce,← hA,← Gw e A 0,CT,Vt]
     have hcl:cs.length=A.length+(B.length+1):=by rw[hs];simp
     have hlt:(A.length:Int)<(cs.length:Int):=by omega
     have hat:Ae cs (A.length:Int)=c:=by rw[hs];exact CT A c B
     have hset:∀y:Ai,List.set cs A.length y=A++y::B:=λy=>by rw[hs,EW]
     have hlen:∀y:Ai,(A++y::B).length=cs.length:=λy=>by rw[hs];simp
     rw[UZ] at hfl hDl;have hcop:D2 F ⟨c.fOp,(Gf (CO BI D) c.fOp).2.1,c.fFrom,now⟩=some ⟨c.fOp,(Gf (CO BI D) c.fOp).2.1,c.fFrom,now⟩:=O9 hF ⟨hc.op,hc.ne,hc.er,hdo.2.2,.inr (by show 0≤now;omega)⟩;refine⟨⟨c.fOp,(Gf (CO BI D) c.fOp).2.1,c.fFrom,now⟩,true,⟨now,d.fEntities,d.fCalls⟩,es.set p ⟨(Gf (CO BI D) c.fOp).1,(Ae es (p:Int)).fCalls,(D.length:Int)+1⟩,A++⟨c.fOp,(Gf (CO BI D) c.fOp).2.1,c.fFrom,now⟩::B,?_,NY hF h hnow hs hA hB hce x2 hO hc1,RI h hnow hg hp hs hA hB hce x2 hO x6 hrec.ix hgs,hlen _,λx=>(by cases x),hc.op,hc.ne,hdo.2.2⟩;unfold CH;rw[Ao rfl,Cw hg,Az rfl,Dr hg,AH (by omega) (by omega),x4,Ao (UR (by omega)),AH (by omega) (by omega),hi,Bx (UT (by omega)),AH (by omega) hlt,hat,x5,R2 hgs.1 hc.op (by decide) (by omega) (by have:=hc.ne;omega),AF rfl,Ao (by rw[UT hdo.2.1];rfl),AA (by omega) (by omega),V9,V9,hset];unfold NI;simp only;rw[hlen,AH (by omega) hlt,CT,EW,hlen,AH (by omega) hlt,CT,hcop,AF rfl]
end
def U6 (l:List Bd):Prop:=l.length≤50∧∀o∈l,Le 250 o.fOp∧o.fOp.fArgs.length≤4
def Q4 (l:List Bd):Bool:=decide (50<l.length)||l.any λo=>Hd o.fOp
theorem N0 {F:Nat}(hF:100<F)(l:List Bd):D3 F l=some (!Q4 l):=by
 unfold D3 Q4;rw[show decide ((50:Int)<(l.length:Int))=decide (50<l.length) from E4 50 l]
 cases hl:decide (50<l.length) with
 | true=>rfl
 | false=>
  have hl' : ¬ 50<l.length:=of_decide_eq_false hl;rw[Ao rfl,E0 (l:=l) (bad:=λo=>Hd o.fOp) (u:=()) (by omega) (λi h=>by
   unfold Ds;rw[Az (UT (by omega)),AH (by omega) (by omega),B6 h,Qu hF,AF rfl,Bool.not_not,AA (by omega) (by omega)]) (by unfold Ds;rw[Ao (UR (by omega))])]
  cases l.any _<;>rfl
theorem TA {l:List Bd}(hb:Q4 l=false)(hc:∀o∈l,o.fOp.fArgs.all (λv=>v.all Gq)=true):U6 l:=by
 unfold Q4 at hb;simp only[Vy,UV,List.any_eq_false] at hb;refine⟨by omega,λo ho=>?_⟩;have h1:Hd o.fOp=false:=by have:=hb.2 o ho;simpa using this
 refine⟨Le.of h1 (hc o ho),?_⟩;unfold Hd at h1;simp only[Vy,UV] at h1;omega
section
variable {F : Nat} {d : Aq} {es : List Ah} {cs : List Ai} (hF : 30000 ≤ F) (h : Lf d es cs)
include hF h
omit hF in
theorem S5 (e:Ak):E9 F (MM cs e) (MM cs e)=some true∨F≤250:=by
 have:=(Ps h.ok e).1.hv;rcases Nat.lt_or_ge 250 F with hf | hf
 ·exact .inl (by rw[Hi (by omega) (by omega),UT rfl])
 ·exact .inr hf
end
theorem PM {F:Nat}(hF:30000≤F){l:List Bd}(hl:U6 l){d:Aq}{es:List Ah}{cs:List Ai}(h:Lf d es cs){i:Nat}(hi:i<l.length)(hc:cs.length≤i) :
  ∃d' es' cs',Cb F l (i:Int) d.fNow d.fEntities d.fCalls es cs=some (.next ((i:Int)+1,d'.fNow,d'.fEntities,d'.fCalls,es',cs'))∧Lf d' es' cs'∧cs'.length≤i+1:=by
 obtain⟨hl1,hl2⟩:=hl;obtain⟨hA,hne⟩:=hl2 _ (List.getElem_mem hi)
 by_cases hk1:(l[i]).fKind=1
 ·obtain⟨c,b,d',es',cs',h1,h2,h3,h4,h5,h6,h7,h8⟩:=S4 hF h (l[i]).fOp.fEntity (l[i]).fNow;refine⟨d',es',cs',?_,h3,by omega⟩;unfold Cb CK;rw[Az (UT (by omega)),AH (by omega) (by omega),B6 hi,Az (UT hk1)];have h1':GP F ⟨d.fNow,d.fEntities,d.fCalls⟩ es cs (l[i]).fOp.fEntity (l[i]).fNow=_:=h1;rw[h1',AF rfl,AA (by omega) (by omega)]
 ·obtain⟨r,d',es',cs',h1,h2,h3,h4,h5⟩:=T6 hF h (by omega) hA hne (l[i]).fNow;refine⟨d',es',cs',?_,h3,by omega⟩;unfold Cb CK;rw[Az (UT (by omega)),AH (by omega) (by omega),B6 hi,Ao (UR hk1)];have h1':Cv F ⟨d.fNow,d.fEntities,d.fCalls⟩ es cs (l[i]).fOp (l[i]).fNow=_:=h1;rw[h1',AF rfl,AA (by omega) (by omega)]
theorem Rc {F:Nat}(hF:30000≤F){l:List Bd}(hl:U6 l):∃ (d:Aq) (es:List Ah) (cs:List Ai),Lf d es cs∧cs.length≤50∧BD (λσ:Int×Int×(List (Ak×Int))×(List (Ak×Int))×(List Ah)×(List Ai)=>Cb F l σ.1 σ.2.1 σ.2.2.1 σ.2.2.2.1 σ.2.2.2.2.1 σ.2.2.2.2.2) F (0,0,[],[],[],[])=some (.go (d.fNow,d.fEntities,d.fCalls,es,cs)):=by
 obtain⟨o,h1,d,es,cs,h2,h3,h4⟩:=DJ (body:=λσ:Int×Int×(List (Ak×Int))×(List (Ak×Int))×(List Ah)×(List Ai)=>Cb F l σ.1 σ.2.1 σ.2.2.1 σ.2.2.2.1 σ.2.2.2.2.1 σ.2.2.2.2.2)
  (λσ=>∃ (i:Nat) (d:Aq) (es:List Ah) (cs:List Ai),σ=((i:Int),d.fNow,d.fEntities,d.fCalls,es,cs)∧Lf d es cs∧i≤l.length∧cs.length≤i) (λσ=>l.length-σ.1.toNat) (λo=>∃ (d:Aq) (es:List Ah) (cs:List Ai),o = .go (d.fNow,d.fEntities,d.fCalls,es,cs)∧Lf d es cs∧cs.length≤50) (λσ ⟨i,d,es,cs,hs,h,hi,hc⟩=>by
  subst hs;simp only
  by_cases hlt:i<l.length
  ·obtain⟨d',es',cs',r1,r2,r3⟩:=PM hF hl h hlt hc;exact .inl ⟨_,r1,⟨i+1,d',es',cs',rfl,r2,by omega,r3⟩,by simp only;omega⟩
  ·refine .inr ⟨_,?_,⟨d,es,cs,rfl,h,by have:=hl.1;omega⟩⟩;unfold Cb;rw[Ao (UR (by omega))]) F _ ⟨0,⟨0,[],[]⟩,[],[],rfl,SQ,Vw _,Vh _⟩ (by have:=hl.1;show l.length-0<F;omega)
 exact⟨d,es,cs,h3,h4,by rw[← h2];exact h1⟩
def NW (acc:List Ab×Bool)(c:Ai):List Ab×Bool:=if c.fTo<0 then(acc.1,true) else((Gf acc.1 c.fOp).1,acc.2)
theorem OQ:∀(l:List Ai) (acc:List Ab×Bool),(l.foldl NW acc).1=CO acc.1 (l.filter NF)
 | [],acc=>rfl
 | c::l,acc=>by
  rw[List.foldl_cons,OQ l,List.filter_cons];unfold NW NF
  by_cases h:c.fTo<0
  ·rw[Vi h,UR (by omega)];rfl
  ·rw[Ve h,UT (by omega)];rfl
section
variable {F : Nat} {d : Aq} {es : List Ah} {cs : List Ai} (hF : 30000 ≤ F) (h : Lf d es cs)
include h
theorem Rn (e:Ak):∃D O,BN cs e=D++O∧(∀c∈D,0≤c.fTo)∧(∀c∈O,c.fTo = -1)∧Dn BI D:=by
 cases hg:B4 d.fEntities e with
 | none=>
  have hh:=Ce hg;have hown:BN cs e=[]:=I3 λc hc he=>by
   have:=(h.enm e).2 ⟨c,hc,he⟩;rw[hh] at this;cases this
  exact⟨[],[],hown,λc hc=>(by cases hc),λc hc=>(by cases hc),trivial⟩
 | some k=>
  obtain⟨p,rfl,hp,hr⟩:=h.ent e k hg;obtain⟨D,O,h1,h2,h3,_,_,h6⟩:=hr.ex;exact⟨D,O,h1,h2,h3,h6⟩
theorem Se {c:Ai}(hc:c∈cs)(h0:0≤c.fTo):Uz cs c.fOp.fID=(c.fAnswer,true):=by
 obtain⟨A,B,hs⟩:=List.append_of_mem hc;obtain⟨i1,_⟩:=K9 h hs;unfold Uz;rw[hs,List.find?_append,List.find?_eq_none.2 (λx hx hx'=>by
  simp only[UX,UU] at hx';exact i1 x hx hx'.1),List.find?_cons,UT rfl,UT h0]
 rfl
include hF
theorem Ra (name:Ak):∃b,BD (λσ:List Ab×Bool×Int=>Ca F name d.fNow d.fEntities d.fCalls es cs (BN cs name) σ.1 σ.2.1 σ.2.2) F (BI,false,0)=some (.go (MM cs name))∧b=true:=by
 obtain⟨D,O,x1,x2,x3,x4⟩:=Rn h name;have hl:(BN cs name).length≤200:=Nat.le_trans (List.length_filter_le ..) h.len;have hlD:(BN cs name).length=D.length+O.length:=by rw[x1,Vd]
 have hlop:=(Gv (O:=Out Bool (List Ab)) (l:=BN cs name) (mk:=λi (acc:List Ab×Bool)=>(acc.1,acc.2,(i:Int))) (body:=λσ:List Ab×Bool×Int=>Ca F name d.fNow d.fEntities d.fCalls es cs (BN cs name) σ.1 σ.2.1 σ.2.2) (fin:=λacc=>.go acc.1) NW
  (λi acc=>i<D.length→acc.2=false∧GS acc.1∧Dn acc.1 (D.drop i)) (λi hi acc hP=>by
   have hmem:=Pd (List.getElem_mem hi);have hc:=h.ok _ hmem.1
   by_cases hiD:i<D.length
   ·obtain⟨p1,p2,p3⟩:=hP hiD;have he:(BN cs name)[i]=D[i]:=by
     have:(BN cs name)[i]? =some D[i]:=by rw[x1,Vp hiD,UW hiD]
     rw[UW hi] at this;exact Option.some.inj this
    have h0:0≤((BN cs name)[i]).fTo:=by rw[he];exact x2 _ (List.getElem_mem hiD)
    rw[List.drop_eq_getElem_cons hiD,← he] at p3;obtain⟨q1,q2,q3⟩:=p3;have hdo:=N6 p2 hc.op hc.er;have hg:NW acc (BN cs name)[i]=((Gf acc.1 ((BN cs name)[i]).fOp).1,acc.2):=by unfold NW;rw[Ve (by omega)]
    rw[hg];refine⟨?_,λ_=>⟨p1,hdo.1,q3⟩⟩;have ha:Hw F ⟨d.fNow,d.fEntities,d.fCalls⟩ es cs ((BN cs name)[i]).fOp.fID=_:=Ow hF h _;have hself:Cm F (Gf acc.1 ((BN cs name)[i]).fOp).2.1 (Gf acc.1 ((BN cs name)[i]).fOp).2.1=some true:=KW (by have:=hdo.2.2;omega) (by have:=hdo.2.2;omega);unfold Ca CJ;simp only;rw[Az (UT (by omega)),AH (by omega) (by omega),B6 hi,Ao (UR (by omega)),R2 p2.1 hc.op (by decide) (by omega) (by have:=hc.ne;omega),AF rfl,q1,hself,Option.isSome_some,H4,H4,Bx rfl,Gp,p1,UT hdo.2.1,UR (show ¬ ((BN cs name)[i]).fTo<((BN cs name)[i]).fFrom by omega),UT hmem.2,Ao (by rfl),ha,AF rfl,Se h hmem.1 h0,q1];simp only;rw[hself,Option.isSome_some,H4,Bx rfl,Gp,Ao (by rfl),AA (by omega) (by omega)];rfl
   ·have he:((BN cs name)[i]).fTo = -1:=by
     have hi2:i-D.length<O.length:=by omega
     have:(BN cs name)[i]? =some O[i-D.length]:=by rw[x1,List.getElem?_append_right (by omega),UW hi2]
     rw[UW hi] at this;rw[Option.some.inj this];exact x3 _ (List.getElem_mem hi2)
    have hg:NW acc (BN cs name)[i]=(acc.1,true):=by unfold NW;rw[Vi (by omega)]
    rw[hg];refine⟨?_,λhx=>by omega⟩;unfold Ca CJ;simp only;rw[Az (UT (by omega)),AH (by omega) (by omega),B6 hi,Az (UT (by omega)),AA (by omega) (by omega)];rfl) (λacc _=>by
   unfold Ca;simp only;rw[Ao (UR (by omega))]) (F:=F) (by omega) (a:=(BI,false)) (λ_=>⟨rfl,O5,x4⟩)).1
 rw[OQ] at hlop;exact⟨true,hlop,rfl⟩
end
theorem Mm (l:List Bd)(name:Ak)(hc:∀o∈l,o.fOp.fArgs.all (λv=>v.all Gq)=true):GU 30000 l name=some true:=by
  have hF:30000≤30000:=Vh _;unfold GU R0;rw[N0 (by decide),J4,Option.isSome_some,Bx rfl,Gp]
  by_cases hb:Q4 l=false∧name.length≤100
  · obtain⟨d,es,cs,h,hlen,hlop⟩:=Rc hF (TA hb.1 hc)
    rw[hb.1,Ao (by rw[UR (by have:=hb.2;omega)];rfl),AF rfl];simp only;rw[hlop,AF rfl,Cn];simp only;unfold DT;have q3:HW 30000 ⟨d.fNow,d.fEntities,d.fCalls⟩ es cs name=_:=Qe hF h _;obtain⟨_,hs,_⟩:=Ra hF h name;have hs':BD (λσ=>Ca 30000 name d.fNow d.fEntities d.fCalls es cs (BN cs name) σ.1 σ.2.1 σ.2.2) 30000 (([(Ab.mk 1 0 ([]:Ak) 0)]:List Ab),false,0)=_:=hs;have hst:E9 30000 (MM cs name) (MM cs name)=some true:=(S5 h _).resolve_right (by decide);have q1:HU ⟨d.fNow,d.fEntities,d.fCalls⟩ es cs name=_:=h.st _;rw[q3,AF rfl,hs',AF rfl,Cn];unfold DS Dt;rw[q1,AF rfl,hst,AF rfl,Az rfl,J4];rfl
  · rw[Az (by
      cases h1:Q4 l with
      | true=>rfl
      | false=>rw[UT (by
                                        have : ¬ name.length≤100:=λh=>hb ⟨h1,h⟩;omega)];rfl)]
    rfl
end Go.Proofs.YtfbmdidnlhifjaaGreatDoor
namespace Go.Proofs.YtfbmdidnlhifjaaGreatDoor.lawEntitySerializes
open Go
set_option linter.unusedVariables false
theorem SE {o:Bd}(h:Ok o=true):o.fOp.fArgs.all (λv=>v.all Gq)=true:=by
 unfold Ok at h;simp only[UX] at h;have h2:=h.1.2;unfold SF at h2;simp only[UX] at h2;exact List.all_eq_true.2 λv hv=>(Bool.and_eq_true_iff.1 (List.all_eq_true.1 h2.2.1 v hv)).1
theorem SD {l:List Bd}(h:(l.all Ok&&decide (l.length≤9223372036854775807))=true):∀o∈l,o.fOp.fArgs.all (λv=>v.all Gq)=true:=λo ho=>
 SE (List.all_eq_true.1 (Bool.and_eq_true_iff.1 h).1 o ho)
theorem UJ:UP:=λl name h _=>⟨30000,Mm l name (SD h)⟩
end Go.Proofs.YtfbmdidnlhifjaaGreatDoor.lawEntitySerializes
