/- Parts. -/
import Derived.Shelf.SlIter.Nil
import Derived.Shelf.SortM.Plain
import Derived.Shelf.SortM.SortNone
import Derived.Ground.GgzProg
import Derived.Ground.SlgmProg
import Derived.Test.YtibjlpkpljnicaaGreatDoorProg
set_option maxRecDepth 100000
set_option maxHeartbeats 8000000
set_option linter.all false
namespace Go.Proofs.YtibjlpkpljnicaaGreatDoor
end Go.Proofs.YtibjlpkpljnicaaGreatDoor
namespace Go.Proofs
open List Go.RowKit Go.Maps Go.Sort Go.Shelf Go.Proofs.Tryz
def Tryz.kR:Ren:=⟨fun|7=>188|10=>251|n=>n,fun|23=>297|26=>9|3=>89|28=>306|0=>0|27=>305|33=>130|4=>4|n=>n,fun|n=>n⟩
def Tryz.keys188:SlLaysZ.n7 prog Tryz.kR:=by
 constructor<;>try first|kernel_rfl|(intro;kernel_rfl)
 exact⟨Tryz.f188.name,by decide,by kernel_rfl⟩;exact⟨Tryz.f251.name,by decide,by kernel_rfl⟩
def Tryz.sR:Ren:=⟨fun|6=>187|8=>249|9=>250|11=>292|13=>274|12=>293|23=>313|24=>314|14=>327|15=>328|16=>329|17=>330|18=>331|19=>332|20=>299|21=>333|22=>334|25=>350|26=>340|27=>341|28=>351|29=>352|30=>338|31=>361|n=>n,fun|26=>9|28=>306|24=>23|0=>0|3=>3|37=>264|48=>339|50=>284|4=>4|40=>423|39=>422|45=>251|5=>5|9=>9|51=>448|55=>451|57=>464|58=>365|33=>130|n=>n,fun|n=>n⟩
def Tryz.sorted187:SlLaysZ.n6 prog Tryz.sR:=by
 constructor<;>try first|kernel_rfl|(intro;kernel_rfl)
 exact⟨Tryz.f187.name,by decide,by kernel_rfl⟩;exact⟨Tryz.f249.name,by decide,by kernel_rfl⟩;exact⟨Tryz.f292.name,by decide,by kernel_rfl⟩
def Tryz.oR:Ren:=⟨fun|6=>250|8=>274|9=>293|19=>313|20=>314|21=>327|22=>328|23=>329|24=>330|25=>331|26=>332|27=>299|28=>333|29=>334|36=>350|31=>340|32=>341|37=>351|38=>352|39=>338|41=>361|n=>n,fun|27=>23|29=>9|3=>3|32=>264|26=>23|0=>0|44=>339|46=>284|4=>4|36=>423|35=>422|41=>251|5=>5|9=>9|53=>448|57=>451|63=>464|64=>365|n=>n,fun|n=>n⟩
def Tryz.sort250:SlLaysM.n6 prog Tryz.oR:=by
 constructor<;>try first|kernel_rfl|(intro;kernel_rfl)
 exact⟨Tryz.f250.name,by decide,by kernel_rfl⟩;exact⟨Tryz.f293.name,by decide,by kernel_rfl⟩;exact⟨Tryz.f327.name,by decide,by kernel_rfl⟩;exact⟨Tryz.f328.name,by decide,by kernel_rfl⟩;exact⟨Tryz.f329.name,by decide,by kernel_rfl⟩;exact⟨Tryz.f330.name,by decide,by kernel_rfl⟩;exact⟨Tryz.f331.name,by decide,by kernel_rfl⟩;exact⟨Tryz.f332.name,by decide,by kernel_rfl⟩;exact⟨Tryz.f299.name,by decide,by kernel_rfl⟩;exact⟨Tryz.f333.name,by decide,by kernel_rfl⟩;exact⟨Tryz.f334.name,by decide,by kernel_rfl⟩;exact⟨Tryz.f350.name,by decide,by kernel_rfl⟩;exact⟨Tryz.f351.name,by decide,by kernel_rfl⟩;exact⟨Tryz.f352.name,by decide,by kernel_rfl⟩;exact⟨Tryz.f338.name,by decide,by kernel_rfl⟩;exact⟨Tryz.f361.name,by decide,by kernel_rfl⟩
def Tryz.Q5 m:AnyZ.SortsIn prog Tryz.sR Fence.wide m:=
 ⟨λd off cap ss W e b c=>callsIn_wide.2 (AnyM.slices_Sort_string Tryz.sort250 d _ _ _ W e b c),
  λp cap W=>callsIn_wide.2 (AnyM.slices_Sort_string_none Tryz.sort250 p _ W)⟩
def Tryz.KW b W:CallsIn Fence.wide 5 prog 188 #[.map b] W λe w'=>e = .returned (.func (.func 251) #[] #[.pointer (some ⟨W.heap.size,0,none⟩)])/\w'=W.alloc (.cells #[.map b] 297):=
 AnyZ.keys_in Tryz.keys188 _ 5 trivial rfl b W
def Tryz.PS{H} b q f(R:Value->Option (DataW H×List MemPlace))(w:World)(d:w.ownsMap prog 9 R b q f)(n:Maps.size f<=maxLen)(c:Maps.size f*16<=140737488355328) :
 CallsIn Fence.wide 5 prog 187 #[.func (.func 251) #[] #[.pointer (some ⟨w.heap.size,0,none⟩)]] (w.alloc (.cells #[.map (some b)] 297)) λe w'=>∃(v:Value)(ss:List (List UInt8)),e = .returned v/\ss.Perm (strKeys f) /\
  w'.ownsRow (w.alloc (.cells #[.map (some b)] 297)).heap.size 9 1 v ss.length ((ss.mergeSort (λx y=>decide (x<=y))).map encStr)/\(v = .slice none 0 0↔ss=[])/\Below (w.alloc (.cells #[.map (some b)] 297)).heap.size (w.alloc (.cells #[.map (some b)] 297)) w':=by
 have p:=d.lt;have m:SeqGives _ 2 _ 251 _ _ (λss=>ss.Perm _) _ (w.alloc (.cells #[.map (some b)] 297)):=
  AnyZ.keys_gives { Tryz.keys188 with } Fence.wide _ trivial rfl (by omega) w.heap.size b q f _ (by simp) (by simp) (by
   obtain⟨z,g,A,s,u,r⟩:=d;exact⟨z,g,(Below.heap_alloc _ _ b p).trans A,s,u,r⟩)
 exact AnyZ.sorted_in Tryz.sorted187 _ 5 trivial trivial trivial trivial rfl (by omega) (Tryz.Q5 _) (enters_of func250 (by kernel_rfl) rfl) _ _ trivial (enters_of func251 (by kernel_rfl) rfl) _ _ n c _ m
end Go.Proofs
namespace Go.Proofs.YtibjlpkpljnicaaGreatDoor
end Go.Proofs.YtibjlpkpljnicaaGreatDoor
