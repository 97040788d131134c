/-
  DERIVED: THE SHELF's CONTRACTS AT THIS DUMP,IN PLAIN WORDS (tools/lay-plain.mjs out of 'TryzShelf.lean',which tools/lay-shelf.mjs wrote): THE SAME DECLARATIONS UNDER THE SAME NAMES: 'import','namespace','open','def','theorem' AND NOTHING ELSE: no command of the shelf's: FOR A HAND-IN. Each laying: the table of numbers ('.._ren') and one theorem,a field a fact of the dump's own or the kernel's comparison;each contract: ONE APPLICATION.
-/
import Derived.Shelf.Small.Bits
import Derived.Shelf.Small.Strs
import Derived.Shelf.Strconv.Atoi
import Derived.Shelf.Strconv.Itoa0
import Derived.Shelf.Strconv.Itoa1
import Derived.Shelf.LaysM
import Derived.Shelf.Strconv.Itoa2
import Derived.Shelf.Strconv.Itoa3
import Derived.Shelf.Strconv.AtoiErrFast
import Derived.Shelf.Strconv.ParseIntEmpty
import Derived.Shelf.Strconv.AtoiFail
import Derived.Shelf.Strconv.Clone
import Derived.Shelf.Strconv.SyntaxError
import Derived.Shelf.LaysC
import Derived.Shelf.Strconv.ToError
import Derived.Shelf.Strconv.Lower
import Derived.Shelf.Strconv.ParseUint10
import Derived.Shelf.Strconv.ParseUint10Empty
import Derived.Shelf.Strconv.ParseUint10Any
import Derived.Shelf.Strconv.ParseInt10
import Derived.Shelf.Strconv.AtoiLong
import Derived.Shelf.Strconv.AtoiInnerAll
import Derived.Shelf.Strconv.RangeError
import Derived.Shelf.Strconv.ToErrorRange
import Derived.Shelf.Strconv.AtoiAll
import Derived.Shelf.Strconv.ErrVarAll
import Derived.Shelf.Bits.Mul64
import Derived.Test.YtabmfhnhmoiljaaGreatDoorProg
namespace Go.Proofs
open Go.Shelf
def Tryz.lays134_ren:Go.Shelf.Ren:=⟨fun | 134=>213 | 129=>222 | n=>n,fun | 53=>149 | 3=>3 | 4=>4 | 46=>156 | 5=>5 | 9=>9 | n=>n,fun | n=>n⟩
theorem Tryz.lays134:Go.Proofs.Lays.n134 Tryz.prog Tryz.lays134_ren:={
  mixed:=by kernel_rfl
  f129:=Tryz.func222.trans (congrArg some (by kernel_rfl))
  f134:=Tryz.func213.trans (congrArg some (by kernel_rfl))
  t3:=Tryz.underlying3
  a3:=Tryz.isAgg3
  z3:=Tryz.sizeOf3
  v3:=Tryz.zeroValue3
  t4:=Tryz.underlying4
  a4:=Tryz.isAgg4
  z4:=Tryz.sizeOf4
  v4:=Tryz.zeroValue4
  t5:=Tryz.underlying5
  a5:=Tryz.isAgg5
  z5:=Tryz.sizeOf5
  v5:=Tryz.zeroValue5
  t9:=Tryz.underlying9
  a9:=Tryz.isAgg9
  z9:=Tryz.sizeOf9
  v9:=Tryz.zeroValue9
  t46:=Tryz.underlying156
  a46:=Tryz.isAgg156
  z46:=Tryz.sizeOf156
  v46:=Tryz.zeroValue156
  t53:=Tryz.underlying149
  a53:=Tryz.isAgg149
  z53:=Tryz.sizeOf149
  v53:=Tryz.zeroValue149 }
theorem Tryz.bits_LeadingZeros64 (x:Int) (w:World) (h0:0≤x) (h1:x≤18446744073709551615) :
    Calls Tryz.prog 213 #[.int .u64 x] w fun e w'=>e = .returned (.int .i64 (64 - (Lib.bitLen x.toNat:Int)))∧w'=w:=Any.bits_LeadingZeros64 Tryz.lays134 x w h0 h1
def Tryz.lays106_ren:Go.Shelf.Ren:=⟨fun | 106=>195 | 213=>210 | 265=>220 | n=>n,fun | 9=>9 | 3=>3 | n=>n,fun | n=>n⟩
theorem Tryz.lays106:Go.Proofs.Lays.n106 Tryz.prog Tryz.lays106_ren:={
  mixed:=by kernel_rfl
  f106:=Tryz.func195.trans (congrArg some (by kernel_rfl))
  f213:=Tryz.func210.trans (congrArg some (by kernel_rfl))
  f265:=Tryz.func220.trans (congrArg some (by kernel_rfl))
  t3:=Tryz.underlying3
  a3:=Tryz.isAgg3
  z3:=Tryz.sizeOf3
  v3:=Tryz.zeroValue3
  t9:=Tryz.underlying9
  a9:=Tryz.isAgg9
  z9:=Tryz.sizeOf9
  v9:=Tryz.zeroValue9 }
open Go.RowKit in
theorem Tryz.strings_Compare (a b:ByteArray) (w:World) :
    Calls Tryz.prog 195 #[.string a,.string b] w fun e w'=>e = .returned (.int .i64 (Lib.compareBytes a.data.toList b.data.toList))∧w'=w:=Any.strings_Compare Tryz.lays106 a b w
def Tryz.lays129_ren:Go.Shelf.Ren:=⟨fun | 129=>222 | n=>n,fun | 53=>149 | 3=>3 | 4=>4 | 46=>156 | 5=>5 | 9=>9 | n=>n,fun | n=>n⟩
theorem Tryz.lays129:Go.Proofs.Lays.n129 Tryz.prog Tryz.lays129_ren:={
  mixed:=by kernel_rfl
  f129:=Tryz.func222.trans (congrArg some (by kernel_rfl))
  t3:=Tryz.underlying3
  a3:=Tryz.isAgg3
  z3:=Tryz.sizeOf3
  v3:=Tryz.zeroValue3
  t4:=Tryz.underlying4
  a4:=Tryz.isAgg4
  z4:=Tryz.sizeOf4
  v4:=Tryz.zeroValue4
  t5:=Tryz.underlying5
  a5:=Tryz.isAgg5
  z5:=Tryz.sizeOf5
  v5:=Tryz.zeroValue5
  t9:=Tryz.underlying9
  a9:=Tryz.isAgg9
  z9:=Tryz.sizeOf9
  v9:=Tryz.zeroValue9
  t46:=Tryz.underlying156
  a46:=Tryz.isAgg156
  z46:=Tryz.sizeOf156
  v46:=Tryz.zeroValue156
  t53:=Tryz.underlying149
  a53:=Tryz.isAgg149
  z53:=Tryz.sizeOf149
  v53:=Tryz.zeroValue149 }
theorem Tryz.bits_Len64 (x:Int) (w:World) (h0:0≤x) (h1:x≤18446744073709551615) :
    Calls Tryz.prog 222 #[.int .u64 x] w fun e w'=>e = .returned (.int .i64 (Lib.bitLen x.toNat))∧w'=w:=Any.bits_Len64 Tryz.lays129 x w h0 h1
def Tryz.laysM171_ren:Go.Shelf.Ren:=⟨fun | 171=>190 | 243=>207 | 246=>214 | 283=>223 | 284=>224 | 285=>225 | 286=>226 | 129=>222 | 317=>231 | 318=>232 | 319=>233 | 320=>234 | 337=>237 | 338=>238 | n=>n,fun | 3=>3 | 9=>9 | 2=>2 | 4=>4 | 171=>167 | 0=>0 | 53=>149 | 37=>82 | 5=>5 | 173=>169 | 212=>179 | 51=>180 | 20=>20 | 213=>181 | 46=>156 | 232=>189 | 233=>190 | n=>n,fun | 17=>5 | 18=>6 | 19=>7 | n=>n⟩
theorem Tryz.laysM171:Go.Proofs.LaysM.n171 Tryz.prog Tryz.laysM171_ren:={
  mixed:=by kernel_rfl
  f129:=Tryz.func222.trans (congrArg some (by kernel_rfl))
  f171:=Tryz.func190.trans (congrArg some (by kernel_rfl))
  f243:=Tryz.func207.trans (congrArg some (by kernel_rfl))
  f246:=Tryz.func214.trans (congrArg some (by kernel_rfl))
  f283:=Tryz.func223.trans (congrArg some (by kernel_rfl))
  f284:=Tryz.func224.trans (congrArg some (by kernel_rfl))
  f285:=Tryz.func225.trans (congrArg some (by kernel_rfl))
  f286:=Tryz.func226.trans (congrArg some (by kernel_rfl))
  f317:=Tryz.func231.trans (congrArg some (by kernel_rfl))
  f318:=Tryz.func232.trans (congrArg some (by kernel_rfl))
  f319:=Tryz.func233.trans (congrArg some (by kernel_rfl))
  f320:=Tryz.func234.trans (congrArg some (by kernel_rfl))
  f337:=Tryz.func237.trans (congrArg some (by kernel_rfl))
  f338:=Tryz.func238.trans (congrArg some (by kernel_rfl))
  t0:=Tryz.underlying0
  a0:=Tryz.isAgg0
  z0:=Tryz.sizeOf0
  v0:=Tryz.zeroValue0
  t2:=Tryz.underlying2
  a2:=Tryz.isAgg2
  z2:=Tryz.sizeOf2
  v2:=Tryz.zeroValue2
  t3:=Tryz.underlying3
  a3:=Tryz.isAgg3
  z3:=Tryz.sizeOf3
  v3:=Tryz.zeroValue3
  t4:=Tryz.underlying4
  a4:=Tryz.isAgg4
  z4:=Tryz.sizeOf4
  v4:=Tryz.zeroValue4
  t5:=Tryz.underlying5
  a5:=Tryz.isAgg5
  z5:=Tryz.sizeOf5
  v5:=Tryz.zeroValue5
  t9:=Tryz.underlying9
  a9:=Tryz.isAgg9
  z9:=Tryz.sizeOf9
  v9:=Tryz.zeroValue9
  t20:=Tryz.underlying20
  a20:=Tryz.isAgg20
  z20:=Tryz.sizeOf20
  v20:=Tryz.zeroValue20
  t37:=Tryz.underlying82
  a37:=Tryz.isAgg82
  z37:=Tryz.sizeOf82
  v37:=Tryz.zeroValue82
  t46:=Tryz.underlying156
  a46:=Tryz.isAgg156
  z46:=Tryz.sizeOf156
  v46:=Tryz.zeroValue156
  t51:=Tryz.underlying180
  a51:=Tryz.isAgg180
  z51:=Tryz.sizeOf180
  v51:=Tryz.zeroValue180
  t53:=Tryz.underlying149
  a53:=Tryz.isAgg149
  z53:=Tryz.sizeOf149
  v53:=Tryz.zeroValue149
  t171:=Tryz.underlying167
  a171:=Tryz.isAgg167
  z171:=Tryz.sizeOf167
  v171:=Tryz.zeroValue167
  t173:=Tryz.underlying169
  a173:=Tryz.isAgg169
  z173:=Tryz.sizeOf169
  v173:=Tryz.zeroValue169
  t212:=Tryz.underlying179
  a212:=Tryz.isAgg179
  z212:=Tryz.sizeOf179
  v212:=Tryz.zeroValue179
  t213:=Tryz.underlying181
  a213:=Tryz.isAgg181
  z213:=Tryz.sizeOf181
  t232:=Tryz.underlying189
  a232:=Tryz.isAgg189
  z232:=Tryz.sizeOf189
  v232:=Tryz.zeroValue189
  t233:=Tryz.underlying190
  a233:=Tryz.isAgg190
  z233:=Tryz.sizeOf190
  v233:=Tryz.zeroValue190
  g17:=by kernel_rfl
  g18:=by kernel_rfl
  g19:=by kernel_rfl
  i0:=by kernel_rfl
  i2:=by kernel_rfl
  i3:=by kernel_rfl
  i4:=by kernel_rfl
  i5:=by kernel_rfl
  i9:=by kernel_rfl
  i20:=by kernel_rfl
  i37:=by kernel_rfl
  i46:=by kernel_rfl
  i51:=by kernel_rfl
  i53:=by kernel_rfl
  i171:=by kernel_rfl
  i173:=by kernel_rfl
  i212:=by kernel_rfl
  i232:=by kernel_rfl
  i233:=by kernel_rfl
  m17:=by kernel_rfl
  m18:=by kernel_rfl
  m19:=by kernel_rfl }
open Go.RowKit Go.Sort Go.Lib in
theorem Tryz.strconv_Itoa (n : Int) (h0 : -9223372036854775808 ≤ n) (h1 : n ≤ 9223372036854775807) (w : World) (htab : Lib.TabIs Tryz.prog w "internal/strconv.uint64pow10" .u64 Lib.pow10Tab) :
    Calls Tryz.prog 190 #[.int .i64 n] w fun e w'=>e = .returned (.string ⟨(Lib.itoa n).toArray⟩) ∧ ∃ k os,w'=grow (w.drewN k) os:=Any.strconv_Itoa Tryz.laysM171 n h0 h1 w htab
def Tryz.laysC172_ren:Go.Shelf.Ren:=⟨fun | 172=>192 | 244=>208 | 245=>209 | 247=>215 | 279=>216 | 280=>217 | 281=>218 | 282=>219 | 287=>227 | 316=>228 | 171=>190 | 205=>229 | 321=>235 | 322=>236 | 243=>207 | 246=>214 | 283=>223 | 284=>224 | 285=>225 | 286=>226 | 129=>222 | 317=>231 | 318=>232 | 319=>233 | 320=>234 | 337=>237 | 338=>238 | n=>n,fun | 9=>9 | 3=>3 | 75=>141 | 76=>142 | 4=>4 | 5=>5 | 167=>161 | 37=>82 | 0=>0 | 85=>162 | 2=>2 | 168=>164 | 53=>149 | 175=>171 | 46=>156 | 210=>174 | 127=>184 | 145=>187 | 143=>185 | 21=>21 | 171=>167 | 173=>169 | 212=>179 | 51=>180 | 20=>20 | 213=>181 | 232=>189 | 233=>190 | 80=>81 | n=>n,fun | 15=>3 | 16=>4 | 17=>5 | 18=>6 | 19=>7 | n=>n⟩
theorem Tryz.laysC172:Go.Proofs.LaysC.n172 Tryz.prog Tryz.laysC172_ren:={
  mixed:=by kernel_rfl
  f129:=Tryz.func222.trans (congrArg some (by kernel_rfl))
  f171:=Tryz.func190.trans (congrArg some (by kernel_rfl))
  f172:=Tryz.func192.trans (congrArg some (by kernel_rfl))
  f205:=Tryz.func229.trans (congrArg some (by kernel_rfl))
  f243:=Tryz.func207.trans (congrArg some (by kernel_rfl))
  f244:=Tryz.func208.trans (congrArg some (by kernel_rfl))
  f245:=Tryz.func209.trans (congrArg some (by kernel_rfl))
  f246:=Tryz.func214.trans (congrArg some (by kernel_rfl))
  f247:=Tryz.func215.trans (congrArg some (by kernel_rfl))
  f279:=Tryz.func216.trans (congrArg some (by kernel_rfl))
  f280:=Tryz.func217.trans (congrArg some (by kernel_rfl))
  f281:=Tryz.func218.trans (congrArg some (by kernel_rfl))
  f282:=Tryz.func219.trans (congrArg some (by kernel_rfl))
  f283:=Tryz.func223.trans (congrArg some (by kernel_rfl))
  f284:=Tryz.func224.trans (congrArg some (by kernel_rfl))
  f285:=Tryz.func225.trans (congrArg some (by kernel_rfl))
  f286:=Tryz.func226.trans (congrArg some (by kernel_rfl))
  f287:=Tryz.func227.trans (congrArg some (by kernel_rfl))
  f316:=Tryz.func228.trans (congrArg some (by kernel_rfl))
  f317:=Tryz.func231.trans (congrArg some (by kernel_rfl))
  f318:=Tryz.func232.trans (congrArg some (by kernel_rfl))
  f319:=Tryz.func233.trans (congrArg some (by kernel_rfl))
  f320:=Tryz.func234.trans (congrArg some (by kernel_rfl))
  f321:=Tryz.func235.trans (congrArg some (by kernel_rfl))
  f322:=Tryz.func236.trans (congrArg some (by kernel_rfl))
  f337:=Tryz.func237.trans (congrArg some (by kernel_rfl))
  f338:=Tryz.func238.trans (congrArg some (by kernel_rfl))
  t0:=Tryz.underlying0
  a0:=Tryz.isAgg0
  z0:=Tryz.sizeOf0
  v0:=Tryz.zeroValue0
  t2:=Tryz.underlying2
  a2:=Tryz.isAgg2
  z2:=Tryz.sizeOf2
  v2:=Tryz.zeroValue2
  t3:=Tryz.underlying3
  a3:=Tryz.isAgg3
  z3:=Tryz.sizeOf3
  v3:=Tryz.zeroValue3
  t4:=Tryz.underlying4
  a4:=Tryz.isAgg4
  z4:=Tryz.sizeOf4
  v4:=Tryz.zeroValue4
  t5:=Tryz.underlying5
  a5:=Tryz.isAgg5
  z5:=Tryz.sizeOf5
  v5:=Tryz.zeroValue5
  t9:=Tryz.underlying9
  a9:=Tryz.isAgg9
  z9:=Tryz.sizeOf9
  v9:=Tryz.zeroValue9
  t20:=Tryz.underlying20
  a20:=Tryz.isAgg20
  z20:=Tryz.sizeOf20
  v20:=Tryz.zeroValue20
  t21:=Tryz.underlying21
  a21:=Tryz.isAgg21
  z21:=Tryz.sizeOf21
  v21:=Tryz.zeroValue21
  t37:=Tryz.underlying82
  a37:=Tryz.isAgg82
  z37:=Tryz.sizeOf82
  v37:=Tryz.zeroValue82
  t46:=Tryz.underlying156
  a46:=Tryz.isAgg156
  z46:=Tryz.sizeOf156
  v46:=Tryz.zeroValue156
  t51:=Tryz.underlying180
  a51:=Tryz.isAgg180
  z51:=Tryz.sizeOf180
  v51:=Tryz.zeroValue180
  t53:=Tryz.underlying149
  a53:=Tryz.isAgg149
  z53:=Tryz.sizeOf149
  v53:=Tryz.zeroValue149
  t75:=Tryz.underlying141
  a75:=Tryz.isAgg141
  z75:=Tryz.sizeOf141
  v75:=Tryz.zeroValue141
  t76:=Tryz.underlying142
  a76:=Tryz.isAgg142
  z76:=Tryz.sizeOf142
  v76:=Tryz.zeroValue142
  t85:=Tryz.underlying162
  a85:=Tryz.isAgg162
  z85:=Tryz.sizeOf162
  v85:=Tryz.zeroValue162
  t127:=Tryz.underlying184
  a127:=Tryz.isAgg184
  z127:=Tryz.sizeOf184
  v127:=Tryz.zeroValue184
  t143:=Tryz.underlying185
  a143:=Tryz.isAgg185
  z143:=Tryz.sizeOf185
  v143:=Tryz.zeroValue185
  t145:=Tryz.underlying187
  a145:=Tryz.isAgg187
  z145:=Tryz.sizeOf187
  v145:=Tryz.zeroValue187
  t167:=Tryz.underlying161
  a167:=Tryz.isAgg161
  z167:=Tryz.sizeOf161
  v167:=Tryz.zeroValue161
  t168:=Tryz.underlying164
  a168:=Tryz.isAgg164
  z168:=Tryz.sizeOf164
  v168:=Tryz.zeroValue164
  t171:=Tryz.underlying167
  a171:=Tryz.isAgg167
  z171:=Tryz.sizeOf167
  v171:=Tryz.zeroValue167
  t173:=Tryz.underlying169
  a173:=Tryz.isAgg169
  z173:=Tryz.sizeOf169
  v173:=Tryz.zeroValue169
  t175:=Tryz.underlying171
  a175:=Tryz.isAgg171
  z175:=Tryz.sizeOf171
  v175:=Tryz.zeroValue171
  t210:=Tryz.underlying174
  a210:=Tryz.isAgg174
  z210:=Tryz.sizeOf174
  v210:=Tryz.zeroValue174
  t212:=Tryz.underlying179
  a212:=Tryz.isAgg179
  z212:=Tryz.sizeOf179
  v212:=Tryz.zeroValue179
  t213:=Tryz.underlying181
  a213:=Tryz.isAgg181
  z213:=Tryz.sizeOf181
  t232:=Tryz.underlying189
  a232:=Tryz.isAgg189
  z232:=Tryz.sizeOf189
  v232:=Tryz.zeroValue189
  t233:=Tryz.underlying190
  a233:=Tryz.isAgg190
  z233:=Tryz.sizeOf190
  v233:=Tryz.zeroValue190
  g15:=by kernel_rfl
  g16:=by kernel_rfl
  g17:=by kernel_rfl
  g18:=by kernel_rfl
  g19:=by kernel_rfl
  t80:=Tryz.underlying81
  a80:=Tryz.isAgg81
  z80:=Tryz.sizeOf81
  v80:=Tryz.zeroValue81
  i0:=by kernel_rfl
  i2:=by kernel_rfl
  i3:=by kernel_rfl
  i4:=by kernel_rfl
  i5:=by kernel_rfl
  i9:=by kernel_rfl
  i20:=by kernel_rfl
  i21:=by kernel_rfl
  i37:=by kernel_rfl
  i46:=by kernel_rfl
  i51:=by kernel_rfl
  i53:=by kernel_rfl
  i75:=by kernel_rfl
  i76:=by kernel_rfl
  i80:=by kernel_rfl
  i85:=by kernel_rfl
  i127:=by kernel_rfl
  i143:=by kernel_rfl
  i145:=by kernel_rfl
  i167:=by kernel_rfl
  i168:=by kernel_rfl
  i171:=by kernel_rfl
  i173:=by kernel_rfl
  i175:=by kernel_rfl
  i210:=by kernel_rfl
  i212:=by kernel_rfl
  i232:=by kernel_rfl
  i233:=by kernel_rfl
  m15:=by kernel_rfl
  m16:=by kernel_rfl
  m17:=by kernel_rfl
  m18:=by kernel_rfl
  m19:=by kernel_rfl
  c0:=by kernel_rfl
  c2:=by kernel_rfl
  c3:=by kernel_rfl
  c4:=by kernel_rfl
  c5:=by kernel_rfl
  c9:=by kernel_rfl
  c20:=by kernel_rfl
  c21:=by kernel_rfl
  c37:=by kernel_rfl
  c46:=by kernel_rfl
  c51:=by kernel_rfl
  c53:=by kernel_rfl
  c75:=by kernel_rfl
  c76:=by kernel_rfl
  c80:=by kernel_rfl
  c85:=by kernel_rfl
  c127:=by kernel_rfl
  c143:=by kernel_rfl
  c145:=by kernel_rfl
  c167:=by kernel_rfl
  c168:=by kernel_rfl
  c171:=by kernel_rfl
  c173:=by kernel_rfl
  c175:=by kernel_rfl
  c210:=by kernel_rfl
  c212:=by kernel_rfl
  c213:=by kernel_rfl
  c232:=by kernel_rfl
  c233:=by kernel_rfl }
open Go.RowKit in
theorem Tryz.strconv_Atoi_ok (s:ByteArray) (hmax:s.size≤9223372036854775806) (v:Int) (h:Lib.atoiAll s.data.toList = .ok v) (w:World) :
    Calls Tryz.prog 192 #[.string s] w fun e w'=>e = .returned (.tuple #[.int .i64 v,.nilIface])∧(w'=w ∨ ∃ t,w'=Lib.bytesWorld w 5 t):=Any.strconv_Atoi_ok Tryz.laysC172 s hmax v h w
open Go.RowKit in
theorem Tryz.strconv_Atoi_syntax_var (s : ByteArray) (hlim : s.size ≤ 281474976710656) (h : Lib.atoiAll s.data.toList = .«syntax») (tp : TypeId) (p : Value) (w : World) (hvar : w.var? Tryz.prog "strconv.ErrSyntax" = some #[.iface tp p]) :
    Calls Tryz.prog 192 #[.string s] w fun e w' => ∃ N,e = .returned (.tuple #[.int .i64 0,.iface 164 (.pointer (some ⟨N,0,none⟩))])∧w.heap.size≤N∧w'.heap[N]? = some (.cells #[.string ⟨#[65,116,111,105]⟩,.string s,.iface tp p] 174 (0,0))∧Below w.heap.size w w':=Any.strconv_Atoi_syntax_var Tryz.laysC172 s hlim h tp p w hvar
open Go.RowKit in
theorem Tryz.strconv_Atoi_range_var (s : ByteArray) (hlim : s.size ≤ 281474976710656) (h : Lib.atoiAll s.data.toList = .range) (tp : TypeId) (p : Value) (w : World) (hvar : w.var? Tryz.prog "strconv.ErrRange" = some #[.iface tp p]) :
    Calls Tryz.prog 192 #[.string s] w fun e w' => ∃ N,e = .returned (.tuple #[.int .i64 (Lib.atoiSat s.data.toList),.iface 164 (.pointer (some ⟨N,0,none⟩))])∧w.heap.size≤N∧w'.heap[N]? = some (.cells #[.string ⟨#[65,116,111,105]⟩,.string s,.iface tp p] 174 (0,0))∧Below w.heap.size w w':=Any.strconv_Atoi_range_var Tryz.laysC172 s hlim h tp p w hvar
def Tryz.lays264_ren:Go.Shelf.Ren:=⟨fun | 264=>199 | n=>n,fun | 53=>149 | 46=>156 | n=>n,fun | n=>n⟩
theorem Tryz.lays264:Go.Proofs.Lays.n264 Tryz.prog Tryz.lays264_ren:={
  mixed:=by kernel_rfl
  f264:=Tryz.func199.trans (congrArg some (by kernel_rfl))
  t46:=Tryz.underlying156
  a46:=Tryz.isAgg156
  z46:=Tryz.sizeOf156
  v46:=Tryz.zeroValue156
  t53:=Tryz.underlying149
  a53:=Tryz.isAgg149
  z53:=Tryz.sizeOf149
  v53:=Tryz.zeroValue149 }
open Go.RowKit Go.Lib in
theorem Tryz.bits_Mul64 (x y:Nat) (hx:x<18446744073709551616) (hy:y<18446744073709551616) (w:World) :
    Calls Tryz.prog 199 #[.int .u64 x,.int .u64 y] w fun e w'=>e = .returned (.tuple #[.int .u64 ((x * y / 18446744073709551616:Nat):Int),.int .u64 ((x * y % 18446744073709551616:Nat):Int)])∧w'=w:=Any.bits_Mul64 Tryz.lays264 x y hx hy w
end Go.Proofs
