/-
  Texts of the proof, put together: LwFiTexts.
-/
import Derived.Test.YtghdglcmblpbeaaGreatDoorFT6
namespace Go.Proofs.YtghdglcmblpbeaaGreatDoor
open Go
set_option linter.unusedVariables false
set_option linter.unusedSimpArgs false
theorem TZ {f:Aj}{s:Am}(hf:okF f=true):P5 40000 f s=some true:=by
 unfold P5;rw[Tg (by omega),YL,B4 (by rfl),Gs]
 cases h1:smF f with
 | false=>rfl
 | true=>
  cases h2:decide (5000<(s.length:Int)) with
  | true=>rfl
  | false=>
   have fa:=FA.sm h1 hf;have fp:=Zx s;rw[A2 (by rfl),PH fa (by omega),R7 fa (by omega),QO s (by omega),Th s (by omega),AD rfl,AD rfl,AD rfl,AD rfl,LK fp (by omega),B4 (by rw[show(some true).isSome=true from rfl,GW,GW,GW]),Gs,AcL rfl,AcL rfl,AcL rfl,A2 (by rfl)];have two:(AT (decide ((IJ s).2=0)) (Bi (HW 40000 (IJ s).1) λha=>AT (((!decide (ha.2=0))||(!decide (ha.1=s)))) (some false) (Bi (some true) λhb=>some hb)) (Bi (some true) λhe=>some he))=some true:=by
    cases h3:decide ((IJ s).2=0) with
    | false=>rfl
    | true=>
     rw[AJ (by rfl),PH fp (by omega),ZK (AcT h3),AD rfl,AcL rfl,AcL rfl];rfl
   cases h3:decide ((PE f).2=0) with
   | false=>exact two
   | true=>
    rw[AJ (by rfl),QO _ (by omega),AD rfl,Zw fa (AcT h3),LK fa (by omega),RF,Gs,AcL rfl,A2 (by rfl)];exact two
end Go.Proofs.YtghdglcmblpbeaaGreatDoor
namespace Go.Proofs.YtghdglcmblpbeaaGreatDoor.lawFilterTexts
open Go
theorem law:Law:=λ_ _ h1 _=>⟨40000,TZ h1⟩
end Go.Proofs.YtghdglcmblpbeaaGreatDoor.lawFilterTexts
