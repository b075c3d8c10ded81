/- Parts. -/
import Derived.Shelf.Strings.Builder1
import Derived.Shelf.Strings.Trim
import Derived.Shelf.Bits.Mul64
import Derived.Shelf.Strings.Repeat
import Derived.Shelf.Slices.Turned
import Derived.Ground.Names2Prog
import Derived.Shelf.Slices.Clone
import Derived.Shelf.Slices.Delete
import Derived.Ground.SlgmProg
import Derived.Test.YtibjlpkpljnicaaGreatDoorProg
set_option maxRecDepth 100000
set_option maxHeartbeats 8000000
set_option linter.all false
namespace Go.Proofs.YtibjlpkpljnicaaGreatDoor
end Go.Proofs.YtibjlpkpljnicaaGreatDoor
namespace Go.Proofs
open List Go.Shelf Go.RowKit Go.Lib Go.Sort
def Tryz.lay{p:Prop}(h:p:=by constructor<;>first|kernel_rfl|(intro;kernel_rfl)|decide|exact⟨_,by decide,by kernel_rfl⟩|(constructor<;>first|kernel_rfl|(intro;kernel_rfl)|decide)):p:=h
def Tryz.Ku:Go.Shelf.Ren:=⟨fun|170=>72|n=>n,fun|70=>147|3=>3|0=>0|72=>150|37=>148|5=>5|n=>n,fun|n=>n⟩
def Tryz.Kt:Go.Proofs.Lays.n170 prog Tryz.Ku:=Tryz.lay
def Tryz.Builder_Len(B b:Nat)(c:List Value)(w:World)(h:Lib.IsBuilder 150 5 B b c w) :
 Calls prog 72 #[.pointer (some ⟨b,0,none⟩)] w λe w'=>e = .returned (.int .i64 c.length)/\w'=w:=Any.Builder_Len Tryz.Kt B b c w h
def Tryz.C7:Go.Shelf.Ren:=⟨fun|169=>74|n=>n,fun|70=>147|9=>9|0=>0|72=>150|37=>148|127=>263|3=>3|5=>5|n=>n,fun|n=>n⟩
def Tryz.Ks:Go.Proofs.Lays.n169 prog Tryz.C7:=Tryz.lay
def Tryz.FC:Builder.Extra prog Tryz.C7:=Tryz.lay
def Tryz.Builder_String_any(B b:Nat)(l:List UInt8)(w:World)(h:Lib.IsBuilder 150 5 B b (Lib.byteCells l) w)(c:B<=w.heap.size) :
 Calls prog 74 #[.pointer (some ⟨b,0,none⟩)] w λe w'=>e = .returned (.string ⟨l.toArray⟩)/\Below B w w':=Any.Builder_String_any Tryz.Ks Tryz.FC B b l w h c
def Tryz.Kr:Go.Shelf.Ren:=⟨fun|160=>282|232=>318|231=>317|227=>319|234=>321|233=>320|236=>323|235=>322|228=>345|271=>348|151=>347|197=>346|120=>359|152=>358|260=>357|137=>363|119=>364|224=>365|225=>366|217=>369|266=>372|n=>n,fun|9=>9|4=>4|3=>3|5=>5|117=>433|116=>432|0=>0|124=>436|21=>21|105=>454|46=>264|119=>469|139=>472|138=>471|n=>n,fun|3=>1|4=>2|n=>n⟩
def Tryz.Kq:Go.Proofs.Lays.n160 prog Tryz.Kr:=Tryz.lay
def Tryz.strings_Trim_one(s:ByteArray)(c:UInt8)(b:c.toNat<128)(w:World)(d:s.size<=9223372036854775807) :
 Calls prog 282 #[.string s,.string ⟨#[c]⟩] w λe w'=>e = .returned (.string ⟨(Lib.trimB s.data.toList c).toArray⟩)/\(w'=w\/w'=w.drew):=Any.strings_Trim_one Tryz.Kq s c b w d
def Tryz.Kw:Go.Shelf.Ren:=⟨fun|212=>155|263=>220|264=>221|n=>n,fun|46=>264|51=>339|146=>340|53=>284|148=>342|n=>n,fun|n=>n⟩
def Tryz.Kv:Go.Proofs.Lays.n212 prog Tryz.Kw:=Tryz.lay
def Tryz.bits_Mul(x y:Nat)(hx:x<18446744073709551616)(b:y<18446744073709551616)(w:World) :
 Calls prog 155 #[.int .u64 x,.int .u64 y] w λe w'=>e = .returned (.tuple #[.int .u64 ((x*y / 18446744073709551616:Nat):Int),.int .u64 ((x*y % 18446744073709551616:Nat):Int)])/\w'=w:=Any.bits_Mul Tryz.Kv x y hx b w
def Tryz.C4:Go.Shelf.Ren:=⟨fun|105=>156|212=>155|99=>222|165=>223|166=>73|170=>72|169=>74|263=>220|264=>221|206=>278|240=>154|241=>279|276=>219|277=>316|n=>n,fun|9=>9|3=>3|4=>4|20=>20|0=>0|46=>264|109=>265|5=>5|72=>150|76=>163|51=>339|146=>340|53=>284|148=>342|70=>147|37=>148|75=>162|127=>263|164=>337|80=>165|n=>n,fun|n=>n⟩
def Tryz.Km:Go.Proofs.Lays.n105 prog Tryz.C4:=Tryz.lay
def Tryz.FB:Builder.Extra prog Tryz.C4:=Tryz.lay
def Tryz.strings_Repeat(s:ByteArray)(c:Nat)(w:World)(d:c<=9223372036854775807)(b:s.size*c<=140737488355328) :
 Calls prog 156 #[.string s,.int .i64 c] w λe w'=>e = .returned (.string ⟨(Lib.repeatL s.data.toList c).toArray⟩)/\Below w.heap.size w w':=Any.strings_Repeat Tryz.Km Tryz.FB s c w d b
def Tryz.Kn:Go.Shelf.Ren:=⟨fun|108=>149|n=>n,fun|28=>84|3=>3|0=>0|4=>4|n=>n,fun|n=>n⟩
def Tryz.C5:Go.Proofs.Lays.n108 prog Tryz.Kn:=Tryz.lay
def Tryz.slices_Index_int(b off n c:Nat)(zs:List Int)(x:Int)(w:World)(g:n<=zs.length)(d:n<=9223372036854775807)(f:∀j,j<zs.length->w.cell? ⟨b,off+j,none⟩=some (.int .i64 (zs.getD j 0))) :
 Calls prog 149 #[.slice (some ⟨b,off,none⟩) n c,.int .i64 x] w λe w'=>e = .returned (.int .i64 (Lib.idxOf (zs.take n) x))/\w'=w:=Any.slices_Index_int Tryz.C5 b _ n c _ x w g d f
def Tryz.slices_Index_int_empty(a:Option Addr)(c:Nat)(x:Int)(w:World) :
 Calls prog 149 #[.slice a 0 c,.int .i64 x] w λe w'=>e = .returned (.int .i64 (Lib.idxOf [] x))/\w'=w:=Any.slices_Index_int_empty Tryz.C5 a c x w
def Tryz.Ko:Go.Shelf.Ren:=⟨fun|110=>246|109=>288|n=>n,fun|31=>23|9=>9|4=>4|3=>3|0=>0|n=>n,fun|n=>n⟩
def Tryz.C6:Go.Proofs.Lays.n110 prog Tryz.Ko:=Tryz.lay
def Tryz.slices_Contains_string(b off n c:Nat)(zs:List ByteArray)(x:ByteArray)(w:World)(g:n<=zs.length)(d:n<=9223372036854775807)(f:∀j,j<zs.length->w.cell? ⟨b,off+j,none⟩=some (.string (zs.getD j ByteArray.empty))) :
 Calls prog 246 #[.slice (some ⟨b,off,none⟩) n c,.string x] w λe w'=>e = .returned (.bool (Lib.containsS (zs.take n) x))/\w'=w:=Any.slices_Contains_string Tryz.C6 b _ n c _ x w g d f
def Tryz.slices_Contains_string_empty(a:Option Addr)(c:Nat)(x:ByteArray)(w:World) :
 Calls prog 246 #[.slice a 0 c,.string x] w λe w'=>e = .returned (.bool false)/\w'=w:=Any.slices_Contains_string_empty Tryz.C6 a c x w
def Tryz.KA:Go.Shelf.Ren:=⟨fun|23=>367|n=>n,fun|22=>84|3=>3|4=>4|0=>0|n=>n,fun|n=>n⟩
def Tryz.Kz:Go.Proofs.Lays2.n23 prog Tryz.KA:=Tryz.lay
def Tryz.slices_Delete_int(b off cap i j:Nat)(zs:List Int)(w:World)(f:Holds (Value.int .i64) w b off zs.toArray)(c:zs.length<=cap)(m:cap<=9223372036854775807)(d:i<=j)(g:j<=zs.length) :
 Calls prog 367 #[.slice (some ⟨b,off,none⟩) zs.length cap,.int .i64 i,.int .i64 j] w λe w'=>e = .returned (.slice (some ⟨b,off,none⟩) (zs.length-(j-i)) cap)/\∃q,w'=putRow (Value.int .i64) (Sort.ahead w q) b off (zs.take i++zs.drop j++replicate (j-i) 0).toArray:=Any.slices_Delete_int Tryz.Kz b _ _ i j _ w f c m d g
end Go.Proofs
namespace Go.Proofs.YtibjlpkpljnicaaGreatDoor
end Go.Proofs.YtibjlpkpljnicaaGreatDoor
