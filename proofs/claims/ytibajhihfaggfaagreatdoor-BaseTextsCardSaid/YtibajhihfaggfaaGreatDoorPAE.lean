/- A part of the proof of BaseTexts. No condition. -/
import Derived.Test.YtibajhihfaggfaaGreatDoorCards
import Derived.Test.YtibajhihfaggfaaGreatDoorPAA
set_option linter.all false
set_option maxRecDepth 100000
set_option maxHeartbeats 8000000
namespace Go.Proofs.YtibajhihfaggfaaGreatDoor.Btx
open Go.Proofs.Tryz
def jf1:prog.inPlace 3=Rows.baseTextsRow.inPlace:=by kernel_rfl
def jf4:prog.varsNamed 3=Rows.baseTextsRow.named:=by kernel_rfl
def jf2:prog.unfollowed 3=true:=by kernel_rfl
def jf3:prog.recurses 3=true:=by kernel_rfl
def closed:joinedFacts prog 3 f3 (OpenSpec.ofChange Rows.baseTextsSpec).bare Rows.baseTextsRow=true:=by unfold joinedFacts;rw[jf1,jf2,jf3,jf4];kernel_rfl
end Go.Proofs.YtibajhihfaggfaaGreatDoor.Btx
