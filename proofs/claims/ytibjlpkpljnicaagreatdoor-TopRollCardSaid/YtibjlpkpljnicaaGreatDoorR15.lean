/- Parts. -/
import Derived.Shelf.Spec.SlicesGrow
import Derived.Shelf.SlSortCmp.WholeK
import Derived.Ground.Names8Prog
import Derived.Ground.SlsfProg
import Derived.Test.YtibjlpkpljnicaaGreatDoorProg
set_option maxRecDepth 100000
set_option maxHeartbeats 8000000
set_option linter.all false
namespace Go.Proofs.YtibjlpkpljnicaaGreatDoor
end Go.Proofs.YtibjlpkpljnicaaGreatDoor
namespace Go.Proofs
open List Go.Shelf
def Tryz.tv:Go.Shelf.Ren:=⟨fun|4=>261|n=>n,fun|22=>223|25=>155|3=>3|4=>4|9=>9|20=>20|0=>0|n=>n,fun|n=>n⟩
def Tryz.By:Go.Proofs.Lays8.n4 Tryz.prog Tryz.tv:=by
 constructor<;>try first|kernel_rfl|(intro;kernel_rfl)
 exact⟨Tryz.f261.name,by decide,by kernel_rfl⟩
def Tryz.Q4:Go.Shelf.Ren:=⟨fun|6=>210|15=>274|14=>273|28=>313|29=>314|20=>305|21=>306|22=>307|23=>308|24=>309|25=>310|26=>311|27=>312|46=>339|47=>340|48=>341|49=>342|50=>343|57=>356|n=>n,fun|22=>252|24=>255|25=>330|3=>3|39=>264|0=>0|53=>339|55=>284|4=>4|46=>423|45=>422|50=>251|5=>5|9=>9|66=>448|70=>451|76=>464|77=>365|n=>n,fun|n=>n⟩
def Tryz.Q2:Go.Proofs.SlLaysF0.n6 Tryz.prog Tryz.Q4:=by
 constructor<;>try first|kernel_rfl|(intro;kernel_rfl)
 exact⟨Tryz.f210.name,by decide,by kernel_rfl⟩;exact⟨Tryz.f273.name,by decide,by kernel_rfl⟩;exact⟨Tryz.f305.name,by decide,by kernel_rfl⟩;exact⟨Tryz.f306.name,by decide,by kernel_rfl⟩;exact⟨Tryz.f307.name,by decide,by kernel_rfl⟩;exact⟨Tryz.f308.name,by decide,by kernel_rfl⟩;exact⟨Tryz.f309.name,by decide,by kernel_rfl⟩;exact⟨Tryz.f310.name,by decide,by kernel_rfl⟩;exact⟨Tryz.f311.name,by decide,by kernel_rfl⟩;exact⟨Tryz.f312.name,by decide,by kernel_rfl⟩;exact⟨Tryz.f339.name,by decide,by kernel_rfl⟩;exact⟨Tryz.f342.name,by decide,by kernel_rfl⟩;exact⟨Tryz.f343.name,by decide,by kernel_rfl⟩;exact⟨Tryz.f356.name,by decide,by kernel_rfl⟩
end Go.Proofs
namespace Go.Proofs.YtibjlpkpljnicaaGreatDoor
end Go.Proofs.YtibjlpkpljnicaaGreatDoor
