/-
  DERIVED: THE SHELF's CONTRACTS AT THIS DUMP,IN PLAIN WORDS (tools/lay-plain.mjs out of 'TryzShelf.lean',which tools/lay-shelf.mjs wrote): THE SAME DECLARATIONS UNDER THE SAME NAMES: 'import','namespace','open','def','theorem' AND NOTHING ELSE: no command of the shelf's: FOR A HAND-IN. Each laying: the table of numbers ('.._ren') and one theorem,a field a fact of the dump's own or the kernel's comparison;each contract: ONE APPLICATION.
-/
import Derived.Shelf.Small.Bits
import Derived.Shelf.Small.Strs
import Derived.Shelf.Strconv.Atoi
import Derived.Shelf.Strconv.Itoa0
import Derived.Shelf.Strconv.Itoa1
import Derived.Shelf.LaysM
import Derived.Shelf.Strconv.Itoa2
import Derived.Shelf.Strconv.Itoa3
import Derived.Shelf.Strconv.AtoiErrFast
import Derived.Shelf.Strconv.ParseIntEmpty
import Derived.Shelf.Strconv.AtoiFail
import Derived.Shelf.Strconv.Clone
import Derived.Shelf.Strconv.SyntaxError
import Derived.Shelf.LaysC
import Derived.Shelf.Strconv.ToError
import Derived.Shelf.Strconv.Lower
import Derived.Shelf.Strconv.ParseUint10
import Derived.Shelf.Strconv.ParseUint10Empty
import Derived.Shelf.Strconv.ParseUint10Any
import Derived.Shelf.Strconv.ParseInt10
import Derived.Shelf.Strconv.AtoiLong
import Derived.Shelf.Strconv.AtoiInnerAll
import Derived.Shelf.Strconv.RangeError
import Derived.Shelf.Strconv.ToErrorRange
import Derived.Shelf.Strconv.AtoiAll
import Derived.Shelf.Strconv.ErrVarAll
import Derived.Shelf.Bits.Mul64
import Derived.Test.YtjhhehjjnfnigaaGreatDoorProg
namespace Go.Proofs
open Go.Shelf
def Tryz.lays134_ren:Go.Shelf.Ren:=⟨fun | 134=>109 | 129=>123 | n=>n,fun | 53=>101 | 3=>3 | 4=>4 | 46=>108 | 5=>5 | 9=>9 | n=>n,fun | n=>n⟩
theorem Tryz.lays134:Go.Proofs.Lays.n134 Tryz.prog Tryz.lays134_ren:={
  mixed:=by kernel_rfl
  f129:=Tryz.func123.trans (congrArg some (by kernel_rfl))
  f134:=Tryz.func109.trans (congrArg some (by kernel_rfl))
  t3:=Tryz.underlying3
  a3:=Tryz.isAgg3
  z3:=Tryz.sizeOf3
  v3:=Tryz.zeroValue3
  t4:=Tryz.underlying4
  a4:=Tryz.isAgg4
  z4:=Tryz.sizeOf4
  v4:=Tryz.zeroValue4
  t5:=Tryz.underlying5
  a5:=Tryz.isAgg5
  z5:=Tryz.sizeOf5
  v5:=Tryz.zeroValue5
  t9:=Tryz.underlying9
  a9:=Tryz.isAgg9
  z9:=Tryz.sizeOf9
  v9:=Tryz.zeroValue9
  t46:=Tryz.underlying108
  a46:=Tryz.isAgg108
  z46:=Tryz.sizeOf108
  v46:=Tryz.zeroValue108
  t53:=Tryz.underlying101
  a53:=Tryz.isAgg101
  z53:=Tryz.sizeOf101
  v53:=Tryz.zeroValue101 }
theorem Tryz.bits_LeadingZeros64 (x:Int) (w:World) (h0:0≤x) (h1:x≤18446744073709551615) :
    Calls Tryz.prog 109 #[.int .u64 x] w fun e w'=>e = .returned (.int .i64 (64 - (Lib.bitLen x.toNat:Int)))∧w'=w:=Any.bits_LeadingZeros64 Tryz.lays134 x w h0 h1
def Tryz.lays106_ren:Go.Shelf.Ren:=⟨fun | 106=>108 | 213=>122 | 265=>129 | n=>n,fun | 9=>9 | 3=>3 | n=>n,fun | n=>n⟩
theorem Tryz.lays106:Go.Proofs.Lays.n106 Tryz.prog Tryz.lays106_ren:={
  mixed:=by kernel_rfl
  f106:=Tryz.func108.trans (congrArg some (by kernel_rfl))
  f213:=Tryz.func122.trans (congrArg some (by kernel_rfl))
  f265:=Tryz.func129.trans (congrArg some (by kernel_rfl))
  t3:=Tryz.underlying3
  a3:=Tryz.isAgg3
  z3:=Tryz.sizeOf3
  v3:=Tryz.zeroValue3
  t9:=Tryz.underlying9
  a9:=Tryz.isAgg9
  z9:=Tryz.sizeOf9
  v9:=Tryz.zeroValue9 }
open Go.RowKit in
theorem Tryz.strings_Compare (a b:ByteArray) (w:World) :
    Calls Tryz.prog 108 #[.string a,.string b] w fun e w'=>e = .returned (.int .i64 (Lib.compareBytes a.data.toList b.data.toList))∧w'=w:=Any.strings_Compare Tryz.lays106 a b w
def Tryz.lays129_ren:Go.Shelf.Ren:=⟨fun | 129=>123 | n=>n,fun | 53=>101 | 3=>3 | 4=>4 | 46=>108 | 5=>5 | 9=>9 | n=>n,fun | n=>n⟩
theorem Tryz.lays129:Go.Proofs.Lays.n129 Tryz.prog Tryz.lays129_ren:={
  mixed:=by kernel_rfl
  f129:=Tryz.func123.trans (congrArg some (by kernel_rfl))
  t3:=Tryz.underlying3
  a3:=Tryz.isAgg3
  z3:=Tryz.sizeOf3
  v3:=Tryz.zeroValue3
  t4:=Tryz.underlying4
  a4:=Tryz.isAgg4
  z4:=Tryz.sizeOf4
  v4:=Tryz.zeroValue4
  t5:=Tryz.underlying5
  a5:=Tryz.isAgg5
  z5:=Tryz.sizeOf5
  v5:=Tryz.zeroValue5
  t9:=Tryz.underlying9
  a9:=Tryz.isAgg9
  z9:=Tryz.sizeOf9
  v9:=Tryz.zeroValue9
  t46:=Tryz.underlying108
  a46:=Tryz.isAgg108
  z46:=Tryz.sizeOf108
  v46:=Tryz.zeroValue108
  t53:=Tryz.underlying101
  a53:=Tryz.isAgg101
  z53:=Tryz.sizeOf101
  v53:=Tryz.zeroValue101 }
theorem Tryz.bits_Len64 (x:Int) (w:World) (h0:0≤x) (h1:x≤18446744073709551615) :
    Calls Tryz.prog 123 #[.int .u64 x] w fun e w'=>e = .returned (.int .i64 (Lib.bitLen x.toNat))∧w'=w:=Any.bits_Len64 Tryz.lays129 x w h0 h1
def Tryz.laysM171_ren:Go.Shelf.Ren:=⟨fun | 171=>103 | 243=>120 | 246=>128 | 283=>133 | 284=>134 | 285=>135 | 286=>136 | 129=>123 | 317=>137 | 318=>138 | 319=>139 | 320=>140 | 337=>141 | 338=>142 | n=>n,fun | 3=>3 | 9=>9 | 2=>2 | 4=>4 | 171=>135 | 0=>0 | 53=>101 | 37=>70 | 5=>5 | 173=>137 | 212=>141 | 51=>142 | 20=>20 | 213=>143 | 46=>108 | 232=>146 | 233=>147 | n=>n,fun | 17=>5 | 18=>6 | 19=>7 | n=>n⟩
theorem Tryz.laysM171:Go.Proofs.LaysM.n171 Tryz.prog Tryz.laysM171_ren:={
  mixed:=by kernel_rfl
  f129:=Tryz.func123.trans (congrArg some (by kernel_rfl))
  f171:=Tryz.func103.trans (congrArg some (by kernel_rfl))
  f243:=Tryz.func120.trans (congrArg some (by kernel_rfl))
  f246:=Tryz.func128.trans (congrArg some (by kernel_rfl))
  f283:=Tryz.func133.trans (congrArg some (by kernel_rfl))
  f284:=Tryz.func134.trans (congrArg some (by kernel_rfl))
  f285:=Tryz.func135.trans (congrArg some (by kernel_rfl))
  f286:=Tryz.func136.trans (congrArg some (by kernel_rfl))
  f317:=Tryz.func137.trans (congrArg some (by kernel_rfl))
  f318:=Tryz.func138.trans (congrArg some (by kernel_rfl))
  f319:=Tryz.func139.trans (congrArg some (by kernel_rfl))
  f320:=Tryz.func140.trans (congrArg some (by kernel_rfl))
  f337:=Tryz.func141.trans (congrArg some (by kernel_rfl))
  f338:=Tryz.func142.trans (congrArg some (by kernel_rfl))
  t0:=Tryz.underlying0
  a0:=Tryz.isAgg0
  z0:=Tryz.sizeOf0
  v0:=Tryz.zeroValue0
  t2:=Tryz.underlying2
  a2:=Tryz.isAgg2
  z2:=Tryz.sizeOf2
  v2:=Tryz.zeroValue2
  t3:=Tryz.underlying3
  a3:=Tryz.isAgg3
  z3:=Tryz.sizeOf3
  v3:=Tryz.zeroValue3
  t4:=Tryz.underlying4
  a4:=Tryz.isAgg4
  z4:=Tryz.sizeOf4
  v4:=Tryz.zeroValue4
  t5:=Tryz.underlying5
  a5:=Tryz.isAgg5
  z5:=Tryz.sizeOf5
  v5:=Tryz.zeroValue5
  t9:=Tryz.underlying9
  a9:=Tryz.isAgg9
  z9:=Tryz.sizeOf9
  v9:=Tryz.zeroValue9
  t20:=Tryz.underlying20
  a20:=Tryz.isAgg20
  z20:=Tryz.sizeOf20
  v20:=Tryz.zeroValue20
  t37:=Tryz.underlying70
  a37:=Tryz.isAgg70
  z37:=Tryz.sizeOf70
  v37:=Tryz.zeroValue70
  t46:=Tryz.underlying108
  a46:=Tryz.isAgg108
  z46:=Tryz.sizeOf108
  v46:=Tryz.zeroValue108
  t51:=Tryz.underlying142
  a51:=Tryz.isAgg142
  z51:=Tryz.sizeOf142
  v51:=Tryz.zeroValue142
  t53:=Tryz.underlying101
  a53:=Tryz.isAgg101
  z53:=Tryz.sizeOf101
  v53:=Tryz.zeroValue101
  t171:=Tryz.underlying135
  a171:=Tryz.isAgg135
  z171:=Tryz.sizeOf135
  v171:=Tryz.zeroValue135
  t173:=Tryz.underlying137
  a173:=Tryz.isAgg137
  z173:=Tryz.sizeOf137
  v173:=Tryz.zeroValue137
  t212:=Tryz.underlying141
  a212:=Tryz.isAgg141
  z212:=Tryz.sizeOf141
  v212:=Tryz.zeroValue141
  t213:=Tryz.underlying143
  a213:=Tryz.isAgg143
  z213:=Tryz.sizeOf143
  t232:=Tryz.underlying146
  a232:=Tryz.isAgg146
  z232:=Tryz.sizeOf146
  v232:=Tryz.zeroValue146
  t233:=Tryz.underlying147
  a233:=Tryz.isAgg147
  z233:=Tryz.sizeOf147
  v233:=Tryz.zeroValue147
  g17:=by kernel_rfl
  g18:=by kernel_rfl
  g19:=by kernel_rfl
  i0:=by kernel_rfl
  i2:=by kernel_rfl
  i3:=by kernel_rfl
  i4:=by kernel_rfl
  i5:=by kernel_rfl
  i9:=by kernel_rfl
  i20:=by kernel_rfl
  i37:=by kernel_rfl
  i46:=by kernel_rfl
  i51:=by kernel_rfl
  i53:=by kernel_rfl
  i171:=by kernel_rfl
  i173:=by kernel_rfl
  i212:=by kernel_rfl
  i232:=by kernel_rfl
  i233:=by kernel_rfl
  m17:=by kernel_rfl
  m18:=by kernel_rfl
  m19:=by kernel_rfl }
open Go.RowKit Go.Sort Go.Lib in
theorem Tryz.strconv_Itoa (n : Int) (h0 : -9223372036854775808 ≤ n) (h1 : n ≤ 9223372036854775807) (w : World) (htab : Lib.TabIs Tryz.prog w "internal/strconv.uint64pow10" .u64 Lib.pow10Tab) :
    Calls Tryz.prog 103 #[.int .i64 n] w fun e w'=>e = .returned (.string ⟨(Lib.itoa n).toArray⟩) ∧ ∃ k os,w'=grow (w.drewN k) os:=Any.strconv_Itoa Tryz.laysM171 n h0 h1 w htab
def Tryz.laysC172_ren:Go.Shelf.Ren:=⟨fun | 172=>83 | 244=>101 | 245=>102 | 247=>115 | 279=>116 | 280=>117 | 281=>118 | 282=>119 | 287=>125 | 316=>126 | 171=>103 | 205=>127 | 321=>131 | 322=>132 | 243=>120 | 246=>128 | 283=>133 | 284=>134 | 285=>135 | 286=>136 | 129=>123 | 317=>137 | 318=>138 | 319=>139 | 320=>140 | 337=>141 | 338=>142 | n=>n,fun | 9=>9 | 3=>3 | 75=>97 | 76=>98 | 4=>4 | 5=>5 | 167=>117 | 37=>70 | 0=>0 | 85=>118 | 2=>2 | 168=>120 | 53=>101 | 175=>123 | 46=>108 | 210=>126 | 127=>131 | 145=>134 | 143=>132 | 21=>21 | 171=>135 | 173=>137 | 212=>141 | 51=>142 | 20=>20 | 213=>143 | 232=>146 | 233=>147 | 80=>91 | n=>n,fun | 15=>2 | 16=>3 | 17=>5 | 18=>6 | 19=>7 | n=>n⟩
theorem Tryz.laysC172:Go.Proofs.LaysC.n172 Tryz.prog Tryz.laysC172_ren:={
  mixed:=by kernel_rfl
  f129:=Tryz.func123.trans (congrArg some (by kernel_rfl))
  f171:=Tryz.func103.trans (congrArg some (by kernel_rfl))
  f172:=Tryz.func83.trans (congrArg some (by kernel_rfl))
  f205:=Tryz.func127.trans (congrArg some (by kernel_rfl))
  f243:=Tryz.func120.trans (congrArg some (by kernel_rfl))
  f244:=Tryz.func101.trans (congrArg some (by kernel_rfl))
  f245:=Tryz.func102.trans (congrArg some (by kernel_rfl))
  f246:=Tryz.func128.trans (congrArg some (by kernel_rfl))
  f247:=Tryz.func115.trans (congrArg some (by kernel_rfl))
  f279:=Tryz.func116.trans (congrArg some (by kernel_rfl))
  f280:=Tryz.func117.trans (congrArg some (by kernel_rfl))
  f281:=Tryz.func118.trans (congrArg some (by kernel_rfl))
  f282:=Tryz.func119.trans (congrArg some (by kernel_rfl))
  f283:=Tryz.func133.trans (congrArg some (by kernel_rfl))
  f284:=Tryz.func134.trans (congrArg some (by kernel_rfl))
  f285:=Tryz.func135.trans (congrArg some (by kernel_rfl))
  f286:=Tryz.func136.trans (congrArg some (by kernel_rfl))
  f287:=Tryz.func125.trans (congrArg some (by kernel_rfl))
  f316:=Tryz.func126.trans (congrArg some (by kernel_rfl))
  f317:=Tryz.func137.trans (congrArg some (by kernel_rfl))
  f318:=Tryz.func138.trans (congrArg some (by kernel_rfl))
  f319:=Tryz.func139.trans (congrArg some (by kernel_rfl))
  f320:=Tryz.func140.trans (congrArg some (by kernel_rfl))
  f321:=Tryz.func131.trans (congrArg some (by kernel_rfl))
  f322:=Tryz.func132.trans (congrArg some (by kernel_rfl))
  f337:=Tryz.func141.trans (congrArg some (by kernel_rfl))
  f338:=Tryz.func142.trans (congrArg some (by kernel_rfl))
  t0:=Tryz.underlying0
  a0:=Tryz.isAgg0
  z0:=Tryz.sizeOf0
  v0:=Tryz.zeroValue0
  t2:=Tryz.underlying2
  a2:=Tryz.isAgg2
  z2:=Tryz.sizeOf2
  v2:=Tryz.zeroValue2
  t3:=Tryz.underlying3
  a3:=Tryz.isAgg3
  z3:=Tryz.sizeOf3
  v3:=Tryz.zeroValue3
  t4:=Tryz.underlying4
  a4:=Tryz.isAgg4
  z4:=Tryz.sizeOf4
  v4:=Tryz.zeroValue4
  t5:=Tryz.underlying5
  a5:=Tryz.isAgg5
  z5:=Tryz.sizeOf5
  v5:=Tryz.zeroValue5
  t9:=Tryz.underlying9
  a9:=Tryz.isAgg9
  z9:=Tryz.sizeOf9
  v9:=Tryz.zeroValue9
  t20:=Tryz.underlying20
  a20:=Tryz.isAgg20
  z20:=Tryz.sizeOf20
  v20:=Tryz.zeroValue20
  t21:=Tryz.underlying21
  a21:=Tryz.isAgg21
  z21:=Tryz.sizeOf21
  v21:=Tryz.zeroValue21
  t37:=Tryz.underlying70
  a37:=Tryz.isAgg70
  z37:=Tryz.sizeOf70
  v37:=Tryz.zeroValue70
  t46:=Tryz.underlying108
  a46:=Tryz.isAgg108
  z46:=Tryz.sizeOf108
  v46:=Tryz.zeroValue108
  t51:=Tryz.underlying142
  a51:=Tryz.isAgg142
  z51:=Tryz.sizeOf142
  v51:=Tryz.zeroValue142
  t53:=Tryz.underlying101
  a53:=Tryz.isAgg101
  z53:=Tryz.sizeOf101
  v53:=Tryz.zeroValue101
  t75:=Tryz.underlying97
  a75:=Tryz.isAgg97
  z75:=Tryz.sizeOf97
  v75:=Tryz.zeroValue97
  t76:=Tryz.underlying98
  a76:=Tryz.isAgg98
  z76:=Tryz.sizeOf98
  v76:=Tryz.zeroValue98
  t85:=Tryz.underlying118
  a85:=Tryz.isAgg118
  z85:=Tryz.sizeOf118
  v85:=Tryz.zeroValue118
  t127:=Tryz.underlying131
  a127:=Tryz.isAgg131
  z127:=Tryz.sizeOf131
  v127:=Tryz.zeroValue131
  t143:=Tryz.underlying132
  a143:=Tryz.isAgg132
  z143:=Tryz.sizeOf132
  v143:=Tryz.zeroValue132
  t145:=Tryz.underlying134
  a145:=Tryz.isAgg134
  z145:=Tryz.sizeOf134
  v145:=Tryz.zeroValue134
  t167:=Tryz.underlying117
  a167:=Tryz.isAgg117
  z167:=Tryz.sizeOf117
  v167:=Tryz.zeroValue117
  t168:=Tryz.underlying120
  a168:=Tryz.isAgg120
  z168:=Tryz.sizeOf120
  v168:=Tryz.zeroValue120
  t171:=Tryz.underlying135
  a171:=Tryz.isAgg135
  z171:=Tryz.sizeOf135
  v171:=Tryz.zeroValue135
  t173:=Tryz.underlying137
  a173:=Tryz.isAgg137
  z173:=Tryz.sizeOf137
  v173:=Tryz.zeroValue137
  t175:=Tryz.underlying123
  a175:=Tryz.isAgg123
  z175:=Tryz.sizeOf123
  v175:=Tryz.zeroValue123
  t210:=Tryz.underlying126
  a210:=Tryz.isAgg126
  z210:=Tryz.sizeOf126
  v210:=Tryz.zeroValue126
  t212:=Tryz.underlying141
  a212:=Tryz.isAgg141
  z212:=Tryz.sizeOf141
  v212:=Tryz.zeroValue141
  t213:=Tryz.underlying143
  a213:=Tryz.isAgg143
  z213:=Tryz.sizeOf143
  t232:=Tryz.underlying146
  a232:=Tryz.isAgg146
  z232:=Tryz.sizeOf146
  v232:=Tryz.zeroValue146
  t233:=Tryz.underlying147
  a233:=Tryz.isAgg147
  z233:=Tryz.sizeOf147
  v233:=Tryz.zeroValue147
  g15:=by kernel_rfl
  g16:=by kernel_rfl
  g17:=by kernel_rfl
  g18:=by kernel_rfl
  g19:=by kernel_rfl
  t80:=Tryz.underlying91
  a80:=Tryz.isAgg91
  z80:=Tryz.sizeOf91
  v80:=Tryz.zeroValue91
  i0:=by kernel_rfl
  i2:=by kernel_rfl
  i3:=by kernel_rfl
  i4:=by kernel_rfl
  i5:=by kernel_rfl
  i9:=by kernel_rfl
  i20:=by kernel_rfl
  i21:=by kernel_rfl
  i37:=by kernel_rfl
  i46:=by kernel_rfl
  i51:=by kernel_rfl
  i53:=by kernel_rfl
  i75:=by kernel_rfl
  i76:=by kernel_rfl
  i80:=by kernel_rfl
  i85:=by kernel_rfl
  i127:=by kernel_rfl
  i143:=by kernel_rfl
  i145:=by kernel_rfl
  i167:=by kernel_rfl
  i168:=by kernel_rfl
  i171:=by kernel_rfl
  i173:=by kernel_rfl
  i175:=by kernel_rfl
  i210:=by kernel_rfl
  i212:=by kernel_rfl
  i232:=by kernel_rfl
  i233:=by kernel_rfl
  m15:=by kernel_rfl
  m16:=by kernel_rfl
  m17:=by kernel_rfl
  m18:=by kernel_rfl
  m19:=by kernel_rfl
  c0:=by kernel_rfl
  c2:=by kernel_rfl
  c3:=by kernel_rfl
  c4:=by kernel_rfl
  c5:=by kernel_rfl
  c9:=by kernel_rfl
  c20:=by kernel_rfl
  c21:=by kernel_rfl
  c37:=by kernel_rfl
  c46:=by kernel_rfl
  c51:=by kernel_rfl
  c53:=by kernel_rfl
  c75:=by kernel_rfl
  c76:=by kernel_rfl
  c80:=by kernel_rfl
  c85:=by kernel_rfl
  c127:=by kernel_rfl
  c143:=by kernel_rfl
  c145:=by kernel_rfl
  c167:=by kernel_rfl
  c168:=by kernel_rfl
  c171:=by kernel_rfl
  c173:=by kernel_rfl
  c175:=by kernel_rfl
  c210:=by kernel_rfl
  c212:=by kernel_rfl
  c213:=by kernel_rfl
  c232:=by kernel_rfl
  c233:=by kernel_rfl }
open Go.RowKit in
theorem Tryz.strconv_Atoi_ok (s:ByteArray) (hmax:s.size≤9223372036854775806) (v:Int) (h:Lib.atoiAll s.data.toList = .ok v) (w:World) :
    Calls Tryz.prog 83 #[.string s] w fun e w'=>e = .returned (.tuple #[.int .i64 v,.nilIface])∧(w'=w ∨ ∃ t,w'=Lib.bytesWorld w 5 t):=Any.strconv_Atoi_ok Tryz.laysC172 s hmax v h w
open Go.RowKit in
theorem Tryz.strconv_Atoi_syntax_var (s : ByteArray) (hlim : s.size ≤ 281474976710656) (h : Lib.atoiAll s.data.toList = .«syntax») (tp : TypeId) (p : Value) (w : World) (hvar : w.var? Tryz.prog "strconv.ErrSyntax" = some #[.iface tp p]) :
    Calls Tryz.prog 83 #[.string s] w fun e w' => ∃ N,e = .returned (.tuple #[.int .i64 0,.iface 120 (.pointer (some ⟨N,0,none⟩))])∧w.heap.size≤N∧w'.heap[N]? = some (.cells #[.string ⟨#[65,116,111,105]⟩,.string s,.iface tp p] 126 (0,0))∧Below w.heap.size w w':=Any.strconv_Atoi_syntax_var Tryz.laysC172 s hlim h tp p w hvar
open Go.RowKit in
theorem Tryz.strconv_Atoi_range_var (s : ByteArray) (hlim : s.size ≤ 281474976710656) (h : Lib.atoiAll s.data.toList = .range) (tp : TypeId) (p : Value) (w : World) (hvar : w.var? Tryz.prog "strconv.ErrRange" = some #[.iface tp p]) :
    Calls Tryz.prog 83 #[.string s] w fun e w' => ∃ N,e = .returned (.tuple #[.int .i64 (Lib.atoiSat s.data.toList),.iface 120 (.pointer (some ⟨N,0,none⟩))])∧w.heap.size≤N∧w'.heap[N]? = some (.cells #[.string ⟨#[65,116,111,105]⟩,.string s,.iface tp p] 126 (0,0))∧Below w.heap.size w w':=Any.strconv_Atoi_range_var Tryz.laysC172 s hlim h tp p w hvar
def Tryz.lays264_ren:Go.Shelf.Ren:=⟨fun | 264=>90 | n=>n,fun | 53=>101 | 46=>108 | n=>n,fun | n=>n⟩
theorem Tryz.lays264:Go.Proofs.Lays.n264 Tryz.prog Tryz.lays264_ren:={
  mixed:=by kernel_rfl
  f264:=Tryz.func90.trans (congrArg some (by kernel_rfl))
  t46:=Tryz.underlying108
  a46:=Tryz.isAgg108
  z46:=Tryz.sizeOf108
  v46:=Tryz.zeroValue108
  t53:=Tryz.underlying101
  a53:=Tryz.isAgg101
  z53:=Tryz.sizeOf101
  v53:=Tryz.zeroValue101 }
open Go.RowKit Go.Lib in
theorem Tryz.bits_Mul64 (x y:Nat) (hx:x<18446744073709551616) (hy:y<18446744073709551616) (w:World) :
    Calls Tryz.prog 90 #[.int .u64 x,.int .u64 y] w fun e w'=>e = .returned (.tuple #[.int .u64 ((x * y / 18446744073709551616:Nat):Int),.int .u64 ((x * y % 18446744073709551616:Nat):Int)])∧w'=w:=Any.bits_Mul64 Tryz.lays264 x y hx hy w
end Go.Proofs
