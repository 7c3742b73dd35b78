/-
  Texts of the proof, put together: LzD, LwInOrder.
-/
import Derived.Test.YtoegakndmanfoaaGreatDoorTO4
open Decidable renaming decide → Ac
open Option renaming some → Ad, none → Ai
open Bool renaming true → Af, false → Ah
open List renaming length → Ae, drop → Ap, take → Aq, replicate → Au, range → As
open Int renaming toNat → Ao
open UInt8 renaming ofNat → Ar
open Go.Proofs.Tryz
namespace Go.Proofs.YtoegakndmanfoaaGreatDoor
open Go
set_option linter.unusedVariables false
set_option linter.unusedSimpArgs false
theorem OU {R V:Type}(K:V→Option R)(v:V):Dp K (.go v)=K v:=rfl
theorem Yn {R V:Type}(K:V→Option R)(r:R):Dp K (.ret r)=Ad r:=rfl
theorem Xs {n:Int}{c:Nat}(hc:Int.tmod n 20+1=(c:Int))(hd:c≤20):∀(d f i:Nat),i+d=c→d<f→
  Dc (λσ=>GR F0 n σ.1 σ.2.1 σ.2.2.1 σ.2.2.2) f ((i:Int),1000,((i-1:Nat):Int),⟨0,GN 0 i⟩)=Ad (.go (1000,((c-1:Nat):Int),⟨0,GN 0 c⟩)):=by
 intro d
 induction d with
 | zero=>
  intro f i h hf;obtain⟨f,rfl⟩:∃k,f=k+1:=⟨f-1,Ab⟩
  obtain rfl:i=c:=Ab
  have hb:GR F0 n (i:Int) 1000 ((i-1:Nat):Int) ⟨0,GN 0 i⟩=Ad (.out (.go (1000,((i-1:Nat):Int),⟨0,GN 0 i⟩))):=by
   unfold GR;rw[Dz (Ae8 Ab)]
  rw[Dc];simp only[hb]
 | succ d ih=>
  intro f i h hf;obtain⟨f,rfl⟩:∃k,f=k+1:=⟨f-1,Ab⟩
  have h1:Jl F0 ⟨1000,((i-1:Nat):Int),([]:List Bd)⟩ ⟨0,GN 0 i⟩ ⟨nmS i,([116]:AE),([115]:AE),([107]:AE),0,([]:AE),([⟨1,0,([]:AE),0⟩]:List AI)⟩ i=Ad (0,(i:Int),0,⟨1000,i,[]⟩,⟨0,GN 0 (i+1)⟩):=AaI Ab;have hb:GR F0 n (i:Int) 1000 ((i-1:Nat):Int) ⟨0,GN 0 i⟩=Ad (.next (((i+1:Nat):Int),1000,(i:Int),⟨0,GN 0 (i+1)⟩)):=by
   unfold GR;rw[Gz (AeI Ab),Vx Ab,E5,h1,E5];simp only;rw[Dz Aj,D3 Ab Ab];rfl
  rw[Dc];simp only[hb];exact ih f (i+1) Ab Ab
theorem Qn {S:A9}{m b:Nat}(hm:m+b≤20):∀(d f i:Nat),i+d=b→d<f→
  Dc (λσ=>G4 (m:Int) (S,GN m b,0) σ) f (i:Int)=Ad (.go ((b:Int),(b:Int),Ac ((b:Int)<(b:Int)))):=by
 intro d
 induction d with
 | zero=>
  intro f i h hf;obtain⟨f,rfl⟩:∃k,f=k+1:=⟨f-1,Ab⟩
  obtain rfl:i=b:=Ab
  have hb:G4 (m:Int) (S,GN m i,0) (i:Int)=Ad (.out (.go ((i:Int),(i:Int),Ac ((i:Int)<(i:Int))))):=by
   unfold G4;simp only[GM];rw[Dz (Ae8 Ab)]
  rw[Dc];simp only[hb]
 | succ d ih=>
  intro f i h hf;obtain⟨f,rfl⟩:∃k,f=k+1:=⟨f-1,Ab⟩
  have hb:G4 (m:Int) (S,GN m b,0) (i:Int)=Ad (.next ((i+1:Nat):Int)):=by
   have e1:(Yj (m+i)).aR=(m:Int)+(i:Int):=by show((m+i:Nat):Int)=_;omega
   unfold G4;simp only[GM];rw[Gz (AeI Ab),Pz Ab Ab,D3 Ab Ab,V7 Ab,e1,Dz Aj,D3 Ab Ab];rfl
  rw[Dc];simp only[hb];exact ih f (i+1) Ab Ab
section
variable {n size : Int} {c z : Nat} {picks : List Int}
theorem Q8 {k m:Nat}(hk:k<1000)(s:A9):GQ (k:Int) (m:Int) s=Ad (.next ((m:Int),((k+1:Nat):Int),s)):=by
 unfold GQ;rw[D3 Ab Ab];rfl
theorem Abc (hc:Int.tmod n 20+1=(c:Int))(hd:c≤20)(hz:Int.tmod size 5+1=(z:Int))(hz5:1≤z∧z≤5){k m:Nat}(hk:k<Ae picks)(he:k<100)(hm:m≤c){s:A9}(hs:MS m (20+k) s) :
  (∃ (m':Nat) (s':A9),ET F0 n size picks 1000 ((c-1:Nat):Int) ⟨0,GN 0 c⟩ m k s=Ad (.next ((m':Int),((k+1:Nat):Int),s'))∧m'≤c∧MS m' (20+((k+1:Nat):Int)) s')∨
  ET F0 n size picks 1000 ((c-1:Nat):Int) ⟨0,GN 0 c⟩ m k s=Ad (.out (.ret Af)):=by
 obtain⟨att,first,wait,lim,rfl,ha,h1,hw,hl⟩:=hs.ex;have hlt:(20:Int)+k≤20+((k+1:Nat):Int):=Ab
 unfold ET;rw[Gz (AeI Ab),D3 Ab Ab];simp only;rw[Yk hd hm,E5];simp only;rw[Dz An,hz]
 by_cases hb:(20:Int)+k<wait
 ·rw[TL Ab hl hz5 ⟨ha.1,Ab⟩ ⟨h1.1,Ab⟩ ⟨hw.1,Ab⟩ ⟨Ab,Ab⟩ hb,E5];simp only;rw[AeI hb,Gz An,Q8 Ab];exact .inl ⟨m,_,rfl,hm,hs.later hlt⟩
 ·have hb':wait≤20+(k:Int):=Ab
  by_cases hL:c-m=0
  ·obtain rfl:m=c:=Ab
   right
   rw[hL,VG Ab hl hz5 ⟨ha.1,Ab⟩ ⟨h1.1,Ab⟩ ⟨hw.1,Ab⟩ ⟨Ab,Ab⟩ hb',E5];simp only;rw[Dz An,hc,Ae8 (show ¬ ((z:Nat):Int)<(Ae ([]:List Ax):Int) by simp only[List.length_nil];omega),Ae8 (show ¬ ((m:Nat):Int)<((m:Nat):Int) by omega),Dz An];have h4:=Qn (S:=⟨0,m,0,att,first,wait,lim⟩) (m:=m) (b:=0) Ab 0 F0 0 Ab (by show 0<6000;omega);have h4':Dc (λσ=>G4 (m:Int) ((⟨0,m,0,att,first,wait,lim⟩:A9),([]:List Ax),(0:Int)) σ) F0 0=_:=h4;rw[h4',E5,OU];unfold KP;simp only;rw[Gz An,hc,AeI (show((m:Nat):Int)=((m:Nat):Int) from rfl),show Gg F0=Ad Af from JP];rfl
  ·left
   have hbN:1≤bN (c-m) lim z∧bN (c-m) lim z≤z∧bN (c-m) lim z≤c-m∧(lim=0∨bN (c-m) lim z≤lim):=by unfold bN LV;split<;>omega
   rw[Ym Ab Ab hl hz5 ⟨ha.1,Ab⟩ ⟨h1.1,Ab⟩ ⟨hw.1,Ab⟩ ⟨Ab,Ab⟩ hb',E5];generalize hbe:bN (c-m) lim z=b at *;have hF:FL m b (20+(k:Int)) (if att=0 then 1 else att+1) (if att=0 then 20+(k:Int) else first) wait lim:=
    ⟨Ab,Ab,by split<;>omega,by split<;>omega,Ab,hl,hbN.2.2.2,Ab⟩
   generalize(if att=0 then(1:Int) else att+1)=att' at *;generalize(if att=0 then 20+(k:Int) else first)=first' at *;simp only[GM];rw[Dz An,hc,Ae8 (show ¬ ((z:Nat):Int)<((b:Nat):Int) by omega),Ae8 (show ¬ ((b:Nat):Int)=0 by omega),Dz An];have h4:=Qn (S:=⟨0,m,b,att',first',wait,lim⟩) (m:=m) (b:=b) Ab b F0 0 Ab (by show b<6000;omega);have h4':Dc (λσ=>G4 (m:Int) ((⟨0,m,b,att',first',wait,lim⟩:A9),GN m b,(0:Int)) σ) F0 0=_:=h4;rw[h4',E5,OU];unfold KP;simp only[GM];rw[Dz (Ae8 Ab),Pz Ab Ab]
   by_cases h2:Int.tmod (A8 picks k) 4=2
   ·rw[Gz (AeI h2)];obtain⟨s',gone,e1,e2,e3⟩:=YL hF;rw[e1,E5]
    cases gone with
    | true=>
     obtain⟨e4,rfl⟩:=e2 rfl;simp only;rw[Aec,D3 Ab Ab,show((m:Nat):Int)+1=((m+1:Nat):Int) by omega,Dz Aj,Q8 Ab];exact⟨m+1,_,rfl,Ab,MS.zero Ab⟩
    | false=>
     have e4:=e3 rfl;obtain⟨a0,f0,w0,l0,rfl,_⟩:=e4.ex;simp only;rw[Px,Dz Aj,Q8 Ab];exact⟨m,_,rfl,hm,e4.later hlt⟩
   ·rw[Dz (Ae8 h2)]
    by_cases h3:Int.tmod (A8 picks k) 4=3
    ·rw[Gz (AeI h3),D3 Ab Ab,R3 hF,E5];simp only;rw[D3 Ab Ab,show((m:Nat):Int)+(((b:Nat):Int)-1)=((m+(b-1):Nat):Int) by omega,Dz Aj,Q8 Ab];exact⟨m+(b-1),_,rfl,Ab,⟨0,0,0,1,rfl,Ab,Ab,Ab,Ab⟩⟩
    ·rw[Dz (Ae8 h3),R0 hF,E5];simp only;rw[D3 Ab Ab,show((m:Nat):Int)+((b:Nat):Int)=((m+b:Nat):Int) by omega,Dz Aj,Q8 Ab];exact⟨m+b,_,rfl,Ab,MS.zero Ab⟩
theorem Ab1 (hc:Int.tmod n 20+1=(c:Int))(hd:c≤20)(hz:Int.tmod size 5+1=(z:Int))(hz5:1≤z∧z≤5)(hp:Ae picks≤100):∀(d f k m:Nat) (s:A9),k+d=Ae picks→d<f→m≤c→MS m (20+k) s→
  Dc (λσ=>ET F0 n size picks 1000 ((c-1:Nat):Int) ⟨0,GN 0 c⟩ σ.1 σ.2.1 σ.2.2) f ((m:Int),(k:Int),s)=Ad (.go ())∨
  Dc (λσ=>ET F0 n size picks 1000 ((c-1:Nat):Int) ⟨0,GN 0 c⟩ σ.1 σ.2.1 σ.2.2) f ((m:Int),(k:Int),s)=Ad (.ret Af):=by
 intro d
 induction d with
 | zero=>
  intro f k m s h hf hm hs;obtain⟨f,rfl⟩:∃k,f=k+1:=⟨f-1,Ab⟩
  left
  have hb:ET F0 n size picks 1000 ((c-1:Nat):Int) ⟨0,GN 0 c⟩ m k s=Ad (.out (.go ())):=by
   unfold ET;rw[Dz (Ae8 Ab)]
  rw[Dc];simp only[hb]
 | succ d ih=>
  intro f k m s h hf hm hs;obtain⟨f,rfl⟩:∃k,f=k+1:=⟨f-1,Ab⟩
  rcases Abc (picks:=picks) hc hd hz hz5 Ab Ab hm hs with⟨m',s',hb,hm',hs'⟩ | hb
  ·rw[Dc];simp only[hb];exact ih f (k+1) m' s' Ab Ab hm' hs'
  ·right
   rw[Dc];simp only[hb]
end
theorem V1:Pr 0 0=Ad (⟨0,0,0,0,0,0,0⟩,0):=by decide +kernel
theorem Wo {n size:Int}(hn:CO .u8 n=Af)(hs:CO .u8 size=Af)(picks:List Int):Y1 F0 n size picks=Ad Af:=by
 have h0:0≤n∧n≤255:=by simpa[CO,IntKind.min,IntKind.max,IntKind.signed,IntKind.bits] using hn
 have s0:0≤size∧size≤255:=by simpa[CO,IntKind.min,IntKind.max,IntKind.signed,IntKind.bits] using hs
 unfold Y1
 by_cases hd:100<(Ae picks:Int)
 ·rw[Gz (AeI hd),show Gg F0=Ad Af from JP,E5]
 ·have hm:Int.tmod n 20=n % 20:=Int.tmod_eq_emod_of_nonneg h0.1;have hm5:Int.tmod size 5=size % 5:=Int.tmod_eq_emod_of_nonneg s0.1;obtain⟨c,hc⟩:∃c:Nat,Int.tmod n 20+1=(c:Int):=⟨(n % 20+1).toNat,by rw[hm];omega⟩
  obtain⟨z,hz⟩:∃z:Nat,Int.tmod size 5+1=(z:Int):=⟨(size % 5+1).toNat,by rw[hm5];omega⟩
  have he:c≤20:=by rw[hm] at hc;omega
  have hz5:1≤z∧z≤5:=by rw[hm5] at hz;omega
  rw[Dz (Ae8 hd),show Yb=Ad ((⟨1000,0,[]⟩,⟨0,[]⟩),()) from rfl,E5,D3 Ab Ab,D3 Ab Ab];have h1:=Xs hc he c F0 0 Ab (by show c<6000;omega);have h1':Dc (λσ=>GR F0 n σ.1 σ.2.1 σ.2.2.1 σ.2.2.2) F0 (0,1000,0,⟨0,[]⟩)=_:=h1;simp only;rw[h1',E5,OU];unfold Me;rw[V1,E5];simp only;rw[Dz An,D3 Ab Ab,D3 Ab Ab];have h2:=Ab1 (picks:=picks) hc he hz hz5 Ab (Ae picks) F0 0 0 ⟨0,0,0,0,0,0,0⟩ Ab (by show (Ae picks)<6000;omega) Ab (MS.zero (m:=0) Ab);rcases h2 with h2 | h2
  ·have h2':Dc (λσ=>ET F0 n size picks 1000 ((c-1:Nat):Int) ⟨0,GN 0 c⟩ σ.1 σ.2.1 σ.2.2) F0 (0,0,⟨0,0,0,0,0,0,0⟩)=_:=h2;rw[h2',E5,OU];unfold Md;rw[show Gg F0=Ad Af from JP,E5]
  ·have h2':Dc (λσ=>ET F0 n size picks 1000 ((c-1:Nat):Int) ⟨0,GN 0 c⟩ σ.1 σ.2.1 σ.2.2) F0 (0,0,⟨0,0,0,0,0,0,0⟩)=_:=h2;rw[h2',E5,Yn]
end Go.Proofs.YtoegakndmanfoaaGreatDoor
namespace Go.Proofs.YtoegakndmanfoaaGreatDoor.lawTopInOrder
open Go
theorem law:Law:=λ_ _ y2 o0 o1 _=>⟨6000,Wo o0 o1 y2⟩
end Go.Proofs.YtoegakndmanfoaaGreatDoor.lawTopInOrder
