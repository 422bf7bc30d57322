import Derived.Shelf.Strings.Trim
import Derived.Shelf.Strconv.Itoa3
import Derived.Shelf.Strconv.ErrVar
import Derived.Shelf.Strconv.AtoiAll
import Derived.Shelf.Strconv.ParseUint10At
import Derived.Shelf.Pu.ErrVarParseUint
import Derived.Shelf.Strings.Shaped
import Derived.Shelf.Strings.Prefix
import Derived.Shelf.Strings.SplitShaped
import Derived.Shelf.Strings.Runes
import Derived.Shelf.Strings.AsciiSet
import Derived.Shelf.Bits.Mul64
import Derived.Shelf.Unicode.DecodeLast
import Derived.Shelf.Strings.FieldsAny
import Derived.Shelf.Unicode.ExclAny
import Derived.Shelf.Slices.Turned
import Derived.Shelf.Slices.Clone
import Derived.Shelf.Slices.Empties2
import Derived.Test.YtalgmjmibamdfaaGreatDoorProg
namespace Go.Proofs
open Go.Shelf
def Tryz.lays161_ren:Go.Shelf.Ren:=⟨fun|161=>108|231=>138|227=>139|233=>140|235=>141|228=>171|197=>172|151=>173|260=>196|152=>197|137=>123|119=>209|224=>200|225=>199|217=>153|266=>189|n=>n,fun|9=>9|4=>4|3=>3|5=>5|117=>218|116=>217|0=>0|124=>221|105=>242|21=>21|119=>224|46=>212|139=>283|138=>282|n=>n,fun|3=>8|4=>9|n=>n⟩
theorem Tryz.lays161:Go.Proofs.Lays.n161 Tryz.prog Tryz.lays161_ren:=by constructor<;>first|kernel_rfl|(intros;kernel_rfl)|(constructor<;>first|kernel_rfl|(intros;kernel_rfl)|(constructor<;>first|kernel_rfl|(intros;kernel_rfl)))
def Tryz.lays160_ren:Go.Shelf.Ren:=⟨fun|160=>142|232=>174|231=>138|227=>139|234=>175|233=>140|236=>176|235=>141|228=>171|271=>198|151=>173|197=>172|120=>210|152=>197|260=>196|137=>123|119=>209|224=>200|225=>199|217=>153|266=>189|n=>n,fun|9=>9|4=>4|3=>3|5=>5|117=>218|116=>217|0=>0|124=>221|21=>21|105=>242|46=>212|119=>224|139=>283|138=>282|n=>n,fun|3=>8|4=>9|n=>n⟩
theorem Tryz.lays160:Go.Proofs.Lays.n160 Tryz.prog Tryz.lays160_ren:=by constructor<;>first|kernel_rfl|(intros;kernel_rfl)|(constructor<;>first|kernel_rfl|(intros;kernel_rfl)|(constructor<;>first|kernel_rfl|(intros;kernel_rfl)))
def Tryz.lays137_ren:Go.Shelf.Ren:=⟨fun|137=>123|217=>153|266=>189|n=>n,fun|9=>9|5=>5|3=>3|n=>n,fun|n=>n⟩
theorem Tryz.lays137:Go.Proofs.Lays.n137 Tryz.prog Tryz.lays137_ren:=by constructor<;>first|kernel_rfl|(intros;kernel_rfl)|(constructor<;>first|kernel_rfl|(intros;kernel_rfl)|(constructor<;>first|kernel_rfl|(intros;kernel_rfl)))
open Go.RowKit in
theorem Tryz.strings_IndexByte(s:ByteArray)(c:Int)(w:World):
 Calls Tryz.prog 123 #[.string s,.int .u8 c] w λe w'=>e=.returned (.int .i64 (Lib.indexByte s.data.toList c.toNat.toUInt8))/\w'=w:=Any.strings_IndexByte Tryz.lays137 s c w
def Tryz.lays172_ren:Go.Shelf.Ren:=⟨fun|172=>206|244=>212|245=>145|247=>215|279=>180|280=>181|281=>182|282=>183|287=>144|316=>202|171=>30|205=>203|321=>178|322=>179|243=>60|246=>103|283=>133|284=>134|285=>135|286=>136|129=>165|317=>164|318=>166|319=>167|320=>168|337=>194|338=>195|n=>n,fun|9=>9|3=>3|75=>189|76=>276|4=>4|5=>5|167=>245|37=>209|0=>0|85=>291|2=>2|168=>247|53=>187|175=>190|46=>212|210=>263|127=>285|145=>288|143=>286|21=>21|171=>206|173=>210|212=>234|51=>235|20=>20|213=>236|232=>279|233=>280|80=>198|n=>n,fun|15=>4|16=>5|17=>1|18=>6|19=>7|n=>n⟩
theorem Tryz.lays172:Go.Proofs.Lays.n172 Tryz.prog Tryz.lays172_ren:=by constructor<;>first|kernel_rfl|(intros;kernel_rfl)|(constructor<;>first|kernel_rfl|(intros;kernel_rfl)|(constructor<;>first|kernel_rfl|(intros;kernel_rfl)))
open Go.RowKit in
theorem Tryz.strconv_Atoi(s:ByteArray)(n:Int)(hl:s.size<=18)(h:Lib.atoi s.data.toList=some n)(w:World):
 Calls Tryz.prog 206 #[.string s] w λe w'=>e=.returned (.tuple #[.int .i64 n,.nilIface])/\ ∃t,w'=Lib.bytesWorld w 5 t:=Any.strconv_Atoi Tryz.lays172 s n hl h w
def Tryz.lays283_ren:Go.Shelf.Ren:=⟨fun|283=>133|n=>n,fun|3=>3|9=>9|4=>4|n=>n,fun|n=>n⟩
theorem Tryz.lays283:Go.Proofs.Lays.n283 Tryz.prog Tryz.lays283_ren:=by constructor<;>first|kernel_rfl|(intros;kernel_rfl)|(constructor<;>first|kernel_rfl|(intros;kernel_rfl)|(constructor<;>first|kernel_rfl|(intros;kernel_rfl)))
open Go.Lib in
theorem Tryz.internal_strconv_small(i:Nat)(h:i<100)(w:World):
 Calls Tryz.prog 133 #[.int .i64 i] w λe w'=>e=.returned (.string ⟨(Lib.decDigits i).toArray⟩)/\w'=w:=Any.internal_strconv_small Tryz.lays283 i h w
def Tryz.laysM284_ren:Go.Shelf.Ren:=⟨fun|284=>134|129=>165|317=>164|318=>166|n=>n,fun|53=>187|3=>3|212=>234|0=>0|4=>4|46=>212|5=>5|9=>9|n=>n,fun|17=>1|n=>n⟩
theorem Tryz.laysM284:Go.Proofs.LaysM.n284 Tryz.prog Tryz.laysM284_ren:=by constructor<;>first|kernel_rfl|(intros;kernel_rfl)|(constructor<;>first|kernel_rfl|(intros;kernel_rfl)|(constructor<;>first|kernel_rfl|(intros;kernel_rfl)))
open Go.Lib in
theorem Tryz.internal_strconv_numDigits(u:Nat)(h1:1<=u)(h2:u<18446744073709551616)(w:World)(htab:Lib.TabIs Tryz.prog w "internal/strconv.uint64pow10" .u64 Lib.pow10Tab):
 Calls Tryz.prog 134 #[.int .u64 u] w λe w'=>e=.returned (.int .i64 (Lib.nDigits u))/\w'=w:=Any.internal_strconv_numDigits Tryz.laysM284 u h1 h2 w htab
def Tryz.lays285_ren:Go.Shelf.Ren:=⟨fun|285=>135|n=>n,fun|37=>209|53=>187|3=>3|4=>4|51=>235|9=>9|5=>5|0=>0|n=>n,fun|n=>n⟩
theorem Tryz.lays285:Go.Proofs.Lays.n285 Tryz.prog Tryz.lays285_ren:=by constructor<;>first|kernel_rfl|(intros;kernel_rfl)|(constructor<;>first|kernel_rfl|(intros;kernel_rfl)|(constructor<;>first|kernel_rfl|(intros;kernel_rfl)))
open Go.RowKit Go.Sort Go.Lib in
theorem Tryz.internal_strconv_formatBase10(blk off cap:Nat)(u:Nat)(d:Array UInt8)(w:World)(hH:Holds (λ(b:UInt8)=>Value.int .u8 (b.toNat:Int)) w blk off d)(hu:u<10^d.size)(hu64:u<18446744073709551616)(hsz:d.size<4611686018427387904):
 Calls Tryz.prog 135 #[.slice (some ⟨blk,off,none⟩) d.size cap,.int .u64 u] w λe w'=>
  e=.returned (.tuple #[])/\ ∃(n v':Nat)(dk:Array UInt8),w'=(putRow (λ(b:UInt8)=>Value.int .u8 (b.toNat:Int)) w blk off dk).drewN n/\FmtInv d.size u 0 v' dk:=Any.internal_strconv_formatBase10 Tryz.lays285 blk off cap u d w hH hu hu64 hsz
def Tryz.laysM171_ren:Go.Shelf.Ren:=⟨fun|171=>30|243=>60|246=>103|283=>133|284=>134|285=>135|286=>136|129=>165|317=>164|318=>166|319=>167|320=>168|337=>194|338=>195|n=>n,fun|3=>3|9=>9|2=>2|4=>4|171=>206|0=>0|53=>187|37=>209|5=>5|173=>210|212=>234|51=>235|20=>20|213=>236|46=>212|232=>279|233=>280|n=>n,fun|17=>1|18=>6|19=>7|n=>n⟩
theorem Tryz.laysM171:Go.Proofs.LaysM.n171 Tryz.prog Tryz.laysM171_ren:=by constructor<;>first|kernel_rfl|(intros;kernel_rfl)|(constructor<;>first|kernel_rfl|(intros;kernel_rfl)|(constructor<;>first|kernel_rfl|(intros;kernel_rfl)))
open Go.RowKit Go.Sort Go.Lib in
theorem Tryz.strconv_Itoa(n:Int)(h0: -9223372036854775808<=n)(h1:n<=9223372036854775807)(w:World)(htab:Lib.TabIs Tryz.prog w "internal/strconv.uint64pow10" .u64 Lib.pow10Tab):
 Calls Tryz.prog 30 #[.int .i64 n] w λe w'=>e=.returned (.string ⟨(Lib.itoa n).toArray⟩)/\ ∃k os,w'=grow (w.drewN k) os:=Any.strconv_Itoa Tryz.laysM171 n h0 h1 w htab
def Tryz.laysC245_ren:Go.Shelf.Ren:=⟨fun|245=>145|279=>180|280=>181|281=>182|282=>183|316=>202|171=>30|205=>203|243=>60|246=>103|283=>133|284=>134|285=>135|286=>136|129=>165|317=>164|318=>166|319=>167|320=>168|337=>194|338=>195|n=>n,fun|9=>9|3=>3|75=>189|167=>245|4=>4|168=>247|210=>263|37=>209|0=>0|127=>285|145=>288|143=>286|2=>2|171=>206|53=>187|5=>5|173=>210|212=>234|51=>235|20=>20|213=>236|46=>212|232=>279|233=>280|80=>198|n=>n,fun|15=>4|16=>5|17=>1|18=>6|19=>7|n=>n⟩
theorem Tryz.laysC245:Go.Proofs.LaysC.n245 Tryz.prog Tryz.laysC245_ren:=by constructor<;>first|kernel_rfl|(intros;kernel_rfl)|(constructor<;>first|kernel_rfl|(intros;kernel_rfl)|(constructor<;>first|kernel_rfl|(intros;kernel_rfl)))
open Go.RowKit in
theorem Tryz.strconv_toError_syntax(fn s:ByteArray)(base bits:Int)(ev:Value)(w:World)(hlim:s.size<=281474976710656)(hv:w.cell? ⟨4,0,none⟩=some ev)(hev:ev=.nilIface\/ ∃te pe,ev=.iface te pe):
 Calls Tryz.prog 145 #[.string fn,.string s,.int .i64 base,.int .i64 bits,.iface 245 (.int .i64 2)] w λe w'=> ∃N,e=.returned (.iface 247 (.pointer (some ⟨N,0,none⟩)))/\w.heap.size<=N/\w'.heap[N]?=some (.cells #[.string fn,.string s,ev] 263 (0,0))/\Below w.heap.size w w':=Any.strconv_toError_syntax Tryz.laysC245 fn s base bits ev w hlim hv hev
def Tryz.laysC172_ren:Go.Shelf.Ren:=⟨fun|172=>206|244=>212|245=>145|247=>215|279=>180|280=>181|281=>182|282=>183|287=>144|316=>202|171=>30|205=>203|321=>178|322=>179|243=>60|246=>103|283=>133|284=>134|285=>135|286=>136|129=>165|317=>164|318=>166|319=>167|320=>168|337=>194|338=>195|n=>n,fun|9=>9|3=>3|75=>189|76=>276|4=>4|5=>5|167=>245|37=>209|0=>0|85=>291|2=>2|168=>247|53=>187|175=>190|46=>212|210=>263|127=>285|145=>288|143=>286|21=>21|171=>206|173=>210|212=>234|51=>235|20=>20|213=>236|232=>279|233=>280|80=>198|n=>n,fun|15=>4|16=>5|17=>1|18=>6|19=>7|n=>n⟩
theorem Tryz.laysC172:Go.Proofs.LaysC.n172 Tryz.prog Tryz.laysC172_ren:=by constructor<;>first|kernel_rfl|(intros;kernel_rfl)|(constructor<;>first|kernel_rfl|(intros;kernel_rfl)|(constructor<;>first|kernel_rfl|(intros;kernel_rfl)))
open Go.RowKit in
theorem Tryz.strconv_Atoi_err(s:ByteArray)(hl:s.size<=18)(h:Lib.atoi s.data.toList=none)(ev:Value)(w:World)(hv:w.cell? ⟨4,0,none⟩=some ev)(hev:ev=.nilIface\/ ∃te pe,ev=.iface te pe):
 Calls Tryz.prog 206 #[.string s] w λe w'=> ∃N,e=.returned (.tuple #[.int .i64 0,.iface 247 (.pointer (some ⟨N,0,none⟩))])/\w.heap.size<=N/\w'.heap[N]?=some (.cells #[.string ⟨#[65,116,111,105]⟩,.string s,ev] 263 (0,0))/\Below w.heap.size w w':=Any.strconv_Atoi_err Tryz.laysC172 s hl h ev w hv hev
def Tryz.lays321_ren:Go.Shelf.Ren:=⟨fun|321=>178|n=>n,fun|5=>5|n=>n,fun|n=>n⟩
theorem Tryz.lays321:Go.Proofs.Lays.n321 Tryz.prog Tryz.lays321_ren:=by constructor<;>first|kernel_rfl|(intros;kernel_rfl)|(constructor<;>first|kernel_rfl|(intros;kernel_rfl)|(constructor<;>first|kernel_rfl|(intros;kernel_rfl)))
open Go.RowKit in
theorem Tryz.internal_strconv_lower(c:Int)(w:World):
 Calls Tryz.prog 178 #[.int .u8 c] w λe w'=>e=.returned (.int .u8 (bits .or .u8 c 32))/\w'=w:=Any.internal_strconv_lower Tryz.lays321 c w
open Go.RowKit in
theorem Tryz.strconv_toError_range(fn s:ByteArray)(base bits:Int)(ev:Value)(w:World)(hlim:s.size<=281474976710656)(hv:w.cell? ⟨5,0,none⟩=some ev)(hev:ev=.nilIface\/ ∃te pe,ev=.iface te pe):
 Calls Tryz.prog 145 #[.string fn,.string s,.int .i64 base,.int .i64 bits,.iface 245 (.int .i64 1)] w λe w'=> ∃N,e=.returned (.iface 247 (.pointer (some ⟨N,0,none⟩)))/\w.heap.size<=N/\w'.heap[N]?=some (.cells #[.string fn,.string s,ev] 263 (0,0))/\Below w.heap.size w w':=Any.strconv_toError_range Tryz.laysC245 fn s base bits ev w hlim hv hev
def Tryz.lays144_ren:Go.Shelf.Ren:=⟨fun|144=>113|143=>147|219=>177|217=>153|225=>199|224=>200|267=>201|266=>189|314=>211|n=>n,fun|9=>9|4=>4|3=>3|5=>5|46=>212|146=>238|51=>235|n=>n,fun|1=>3|n=>n⟩
theorem Tryz.lays144:Go.Proofs.Lays.n144 Tryz.prog Tryz.lays144_ren:=by constructor<;>first|kernel_rfl|(intros;kernel_rfl)|(constructor<;>first|kernel_rfl|(intros;kernel_rfl)|(constructor<;>first|kernel_rfl|(intros;kernel_rfl)))
open Go.RowKit Go.Lib in
theorem Tryz.strings_Contains(s sub:ByteArray)(m:Int)(w:World)(hs:s.size<4294967281)(hm:w.cell? ⟨3,0,none⟩=some (.int .i64 m)):
 Calls Tryz.prog 113 #[.string s,.string sub] w λe w'=>e=.returned (.bool (Lib.contains s.data.toList sub.data.toList))/\w'=w:=Any.strings_Contains Tryz.lays144 s sub m w hs hm
def Tryz.lays145_ren:Go.Shelf.Ren:=⟨fun|145=>110|220=>143|219=>177|217=>153|225=>199|224=>200|267=>201|266=>189|314=>211|n=>n,fun|9=>9|4=>4|59=>185|3=>3|5=>5|46=>212|146=>238|51=>235|n=>n,fun|1=>3|n=>n⟩
theorem Tryz.lays145:Go.Proofs.Lays.n145 Tryz.prog Tryz.lays145_ren:=by constructor<;>first|kernel_rfl|(intros;kernel_rfl)|(constructor<;>first|kernel_rfl|(intros;kernel_rfl)|(constructor<;>first|kernel_rfl|(intros;kernel_rfl)))
open Go.RowKit Go.Lib in
theorem Tryz.strings_Cut(s sep:ByteArray)(m:Int)(w:World)(hs:s.size<4294967281)(hm:w.cell? ⟨3,0,none⟩=some (.int .i64 m)):
 Calls Tryz.prog 110 #[.string s,.string sep] w λe w'=>e=.returned (.tuple #[.string ⟨(Lib.cut s.data.toList sep.data.toList).1.toArray⟩,.string ⟨(Lib.cut s.data.toList sep.data.toList).2.1.toArray⟩,.bool (Lib.cut s.data.toList sep.data.toList).2.2])/\ ∃n,w'=w.drewN n:=Any.strings_Cut Tryz.lays145 s sep m w hs hm
def Tryz.lays99_ren:Go.Shelf.Ren:=⟨fun|99=>115|206=>150|n=>n,fun|9=>9|4=>4|3=>3|n=>n,fun|n=>n⟩
theorem Tryz.lays99:Go.Proofs.Lays.n99 Tryz.prog Tryz.lays99_ren:=by constructor<;>first|kernel_rfl|(intros;kernel_rfl)|(constructor<;>first|kernel_rfl|(intros;kernel_rfl)|(constructor<;>first|kernel_rfl|(intros;kernel_rfl)))
open Go.RowKit Go.Lib in
theorem Tryz.strings_HasPrefix(s p:ByteArray)(w:World):
 Calls Tryz.prog 115 #[.string s,.string p] w λe w'=>e=.returned (.bool (Lib.hasPrefix s.data.toList p.data.toList))/\w'=w:=Any.strings_HasPrefix Tryz.lays99 s p w
def Tryz.lays157_ren:Go.Shelf.Ren:=⟨fun|157=>114|229=>148|199=>149|261=>184|311=>204|312=>205|n=>n,fun|9=>9|31=>82|3=>3|5=>5|4=>4|119=>224|0=>0|40=>226|152=>250|21=>21|154=>252|51=>235|141=>254|196=>268|193=>265|198=>271|49=>269|194=>266|201=>274|226=>289|46=>212|227=>290|n=>n,fun|0=>0|6=>2|n=>n⟩
theorem Tryz.lays157:Go.Proofs.Lays.n157 Tryz.prog Tryz.lays157_ren:=by constructor<;>first|kernel_rfl|(intros;kernel_rfl)|(constructor<;>first|kernel_rfl|(intros;kernel_rfl)|(constructor<;>first|kernel_rfl|(intros;kernel_rfl)))
open Go.RowKit Go.Lib in
theorem Tryz.strings_Fields(s:ByteArray)(w:World)(hs:s.size<4294967281)(hascii: ∀(j:Nat) b,s.data.toList[j]?=some b->b.toNat<128)(htab:Lib.TabIs Tryz.prog w "strings.asciiSpace" .u8 Lib.asciiSpaceTab):
 Calls Tryz.prog 114 #[.string s] w λe w'=>
  e=.returned (.slice (some ⟨w.heap.size,0,none⟩) (Lib.fields s.data.toList).length (Lib.fields s.data.toList).length)/\w'=w.alloc (.cells ((Lib.fields s.data.toList).map λl=>Value.string ⟨l.toArray⟩).toArray 9):=Any.strings_Fields Tryz.lays157 (by kernel_rfl) (by kernel_rfl) s w hs hascii htab
def Tryz.lays212_ren:Go.Shelf.Ren:=⟨fun|212=>137|263=>169|264=>170|n=>n,fun|46=>212|51=>235|146=>238|53=>187|148=>240|n=>n,fun|n=>n⟩
theorem Tryz.lays212:Go.Proofs.Lays.n212 Tryz.prog Tryz.lays212_ren:=by constructor<;>first|kernel_rfl|(intros;kernel_rfl)|(constructor<;>first|kernel_rfl|(intros;kernel_rfl)|(constructor<;>first|kernel_rfl|(intros;kernel_rfl)))
open Go.RowKit Go.Lib in
theorem Tryz.bits_Mul(x y:Nat)(hx:x<18446744073709551616)(hy:y<18446744073709551616)(w:World):
 Calls Tryz.prog 137 #[.int .u64 x,.int .u64 y] w λe w'=>e=.returned (.tuple #[.int .u64 ((x*y/18446744073709551616:Nat):Int),.int .u64 ((x*y%18446744073709551616:Nat):Int)])/\w'=w:=Any.bits_Mul Tryz.lays212 x y hx hy w
def Tryz.lays109_ren:Go.Shelf.Ren:=⟨fun|109=>163|n=>n,fun|31=>82|9=>9|3=>3|0=>0|4=>4|n=>n,fun|n=>n⟩
theorem Tryz.lays109:Go.Proofs.Lays.n109 Tryz.prog Tryz.lays109_ren:=by constructor<;>first|kernel_rfl|(intros;kernel_rfl)|(constructor<;>first|kernel_rfl|(intros;kernel_rfl)|(constructor<;>first|kernel_rfl|(intros;kernel_rfl)))
open Go.Lib in
theorem Tryz.slices_Index_string(b off n c:Nat)(zs:List ByteArray)(x:ByteArray)(w:World)(hz:n<=zs.length)(hbig:n<=9223372036854775807)(hc: ∀j,j<zs.length->w.cell? ⟨b,off+j,none⟩=some (.string (zs.getD j ByteArray.empty))):
 Calls Tryz.prog 163 #[.slice (some ⟨b,off,none⟩) n c,.string x] w λe w'=>e=.returned (.int .i64 (Lib.idxOfS (zs.take n) x))/\w'=w:=Any.slices_Index_string Tryz.lays109 b off n c zs x w hz hbig hc
def Tryz.lays110_ren:Go.Shelf.Ren:=⟨fun|110=>186|109=>163|n=>n,fun|31=>82|9=>9|4=>4|3=>3|0=>0|n=>n,fun|n=>n⟩
theorem Tryz.lays110:Go.Proofs.Lays.n110 Tryz.prog Tryz.lays110_ren:=by constructor<;>first|kernel_rfl|(intros;kernel_rfl)|(constructor<;>first|kernel_rfl|(intros;kernel_rfl)|(constructor<;>first|kernel_rfl|(intros;kernel_rfl)))
open Go.Lib in
theorem Tryz.slices_Contains_string(b off n c:Nat)(zs:List ByteArray)(x:ByteArray)(w:World)(hz:n<=zs.length)(hbig:n<=9223372036854775807)(hc: ∀j,j<zs.length->w.cell? ⟨b,off+j,none⟩=some (.string (zs.getD j ByteArray.empty))):
 Calls Tryz.prog 186 #[.slice (some ⟨b,off,none⟩) n c,.string x] w λe w'=>e=.returned (.bool (Lib.containsS (zs.take n) x))/\w'=w:=Any.slices_Contains_string Tryz.lays110 b off n c zs x w hz hbig hc
def Tryz.lays111_ren:Go.Shelf.Ren:=⟨fun|111=>12|n=>n,fun|28=>22|3=>3|4=>4|0=>0|n=>n,fun|n=>n⟩
theorem Tryz.lays111:Go.Proofs.Lays.n111 Tryz.prog Tryz.lays111_ren:=by constructor<;>first|kernel_rfl|(intros;kernel_rfl)|(constructor<;>first|kernel_rfl|(intros;kernel_rfl)|(constructor<;>first|kernel_rfl|(intros;kernel_rfl)))
open Go.RowKit Go.Lib in
theorem Tryz.slices_Equal_int(b1 o1 n c b2 o2 m d:Nat)(xs ys:List Int)(w:World)(hx:n<=xs.length)(hy:m<=ys.length)(hbig:n<=9223372036854775807)(hbig2:m<=9223372036854775807)(hc1: ∀j,j<xs.length->w.cell? ⟨b1,o1+j,none⟩=some (.int .i64 (xs.getD j 0)))(hc2: ∀j,j<ys.length->w.cell? ⟨b2,o2+j,none⟩=some (.int .i64 (ys.getD j 0))):
 Calls Tryz.prog 12 #[.slice (some ⟨b1,o1,none⟩) n c,.slice (some ⟨b2,o2,none⟩) m d] w λe w'=>e=.returned (.bool (xs.take n==ys.take m))/\ ∃q,w'=w.drewN q:=Any.slices_Equal_int Tryz.lays111 b1 o1 n c b2 o2 m d xs ys w hx hy hbig hbig2 hc1 hc2
open Go.RowKit Go.Lib in
theorem Tryz.slices_Equal_int_empty(a1 a2:Option Addr)(c m d:Nat)(w:World)(hbig2:m<=9223372036854775807):
 Calls Tryz.prog 12 #[.slice a1 0 c,.slice a2 m d] w λe w'=>e=.returned (.bool (decide (m=0)))/\w'=w:=Any.slices_Equal_int_empty Tryz.lays111 a1 a2 c m d w hbig2
def Tryz.laysNm215_ren:Go.Shelf.Ren:=⟨fun|15=>44|n=>n,fun|22=>22|3=>3|4=>4|n=>n,fun|n=>n⟩
theorem Tryz.laysNm215:Go.Proofs.Lays2.n15 Tryz.prog Tryz.laysNm215_ren:={
 mixed:=by kernel_rfl
 f15:=Tryz.func44.trans (congrArg some (by kernel_rfl))
 t3:=Tryz.underlying3
 a3:=Tryz.isAgg3
 z3:=Tryz.sizeOf3
 v3:=Tryz.zeroValue3
 t4:=Tryz.underlying4
 a4:=Tryz.isAgg4
 z4:=Tryz.sizeOf4
 v4:=Tryz.zeroValue4
 t22:=Tryz.underlying22
 a22:=Tryz.isAgg22
 z22:=Tryz.sizeOf22
 v22:=Tryz.zeroValue22
 i3:=by kernel_rfl}
open Go.RowKit Go.Lib in
theorem Tryz.slices_Clone_int(b off n c:Nat)(zs:List Int)(w:World)(hz:n<=zs.length)(hbig:n*8<=140737488355328)(hc: ∀j,j<zs.length->w.cell? ⟨b,off+j,none⟩=some (.int .i64 (zs.getD j 0))):
 Calls Tryz.prog 44 #[.slice (some ⟨b,off,none⟩) n c] w λe w'=> ∃v',e=.returned v'/\w'.ownsRow w.heap.size 3 1 v' n ((zs.take n).map (Value.int .i64))/\v'≠.slice none 0 0/\Below w.heap.size w w':=Any.slices_Clone_int Tryz.laysNm215 b off n c zs w hz hbig hc
open Go.RowKit Go.Lib in
theorem Tryz.slices_Clone_int_nil(n c:Nat)(w:World):
 Calls Tryz.prog 44 #[.slice none n c] w λe w'=>e=.returned (.slice none 0 0)/\w'=w:=Any.slices_Clone_int_nil Tryz.laysNm215 n c w
end Go.Proofs
