/- Parts. -/
import Derived.Shelf.Spec.SlicesInsert
import Derived.Shelf.Spec.SlicesInsertGrow
import Derived.Ground.Names2Prog
import Derived.Test.YtibjlpkpljnicaaGreatDoorProg
set_option maxRecDepth 100000
set_option maxHeartbeats 8000000
set_option linter.all false
namespace Go.Proofs.YtibjlpkpljnicaaGreatDoor
end Go.Proofs.YtibjlpkpljnicaaGreatDoor
namespace Go.Proofs
open List Go.Shelf
def Tryz.o8:Go.Shelf.Ren:=⟨fun|21=>368|27=>370|28=>371|35=>373|39=>374|n=>n,fun|22=>84|3=>3|4=>4|0=>0|n=>n,fun|n=>n⟩
def Tryz.tC:Go.Proofs.Lays2.n21 prog Tryz.o8:=by constructor<;>first|kernel_rfl|(intro;kernel_rfl)
end Go.Proofs
namespace Go.Proofs.YtibjlpkpljnicaaGreatDoor
end Go.Proofs.YtibjlpkpljnicaaGreatDoor
