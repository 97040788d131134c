/-
  DERIVED: THE SHELF's CONTRACTS AT THIS DUMP,IN PLAIN WORDS (tools/lay-plain.mjs out of 'TryzShelf.lean',which tools/lay-shelf.mjs wrote): THE SAME DECLARATIONS UNDER THE SAME NAMES: 'import','namespace','open','def','theorem' AND NOTHING ELSE: no command of the shelf's: FOR A HAND-IN. Each laying: the table of numbers ('.._ren') and one theorem,a field a fact of the dump's own or the kernel's comparison;each contract: ONE APPLICATION.
-/
import Derived.Shelf.Strings.Builder1
import Derived.Shelf.Strings.Builder2
import Derived.Shelf.Small.Strs
import Derived.Shelf.Strings.BuilderF
import Derived.Shelf.Strings.BuilderK
import Derived.Shelf.Strings.Builder2Cap
import Derived.Shelf.Strconv.Atoi
import Derived.Shelf.Strconv.Itoa0
import Derived.Shelf.Strconv.Itoa1
import Derived.Shelf.LaysM
import Derived.Shelf.Strconv.Itoa2
import Derived.Shelf.Strconv.Itoa3
import Derived.Shelf.Strconv.AtoiErrFast
import Derived.Shelf.Strconv.ParseIntEmpty
import Derived.Shelf.Strconv.AtoiFail
import Derived.Shelf.Strconv.Clone
import Derived.Shelf.Strconv.SyntaxError
import Derived.Shelf.LaysC
import Derived.Shelf.Strconv.ToError
import Derived.Shelf.Strconv.Lower
import Derived.Shelf.Strconv.ParseUint10
import Derived.Shelf.Strconv.ParseUint10Empty
import Derived.Shelf.Strconv.ParseUint10Any
import Derived.Shelf.Strconv.ParseInt10
import Derived.Shelf.Strconv.AtoiLong
import Derived.Shelf.Strconv.AtoiInnerAll
import Derived.Shelf.Strconv.RangeError
import Derived.Shelf.Strconv.ToErrorRange
import Derived.Shelf.Strconv.AtoiAll
import Derived.Shelf.Strconv.ErrVarAll
import Derived.Shelf.Strings.Prefix
import Derived.Shelf.Bits.Mul64
import Derived.Shelf.Strings.Repeat
import Derived.Shelf.Strings.BuilderCap
import Derived.Test.YtggemblkhckbpaaGreatDoorProg
namespace Go.Proofs
open Go.Shelf
def Tryz.lays106_ren:Go.Shelf.Ren:=⟨fun | 106=>125 | 213=>148 | 265=>161 | n=>n,fun | 9=>9 | 3=>3 | n=>n,fun | n=>n⟩
theorem Tryz.lays106:Go.Proofs.Lays.n106 Tryz.prog Tryz.lays106_ren:={
  mixed:=by kernel_rfl
  f106:=Tryz.func125.trans (congrArg some (by kernel_rfl))
  f213:=Tryz.func148.trans (congrArg some (by kernel_rfl))
  f265:=Tryz.func161.trans (congrArg some (by kernel_rfl))
  t3:=Tryz.underlying3
  a3:=Tryz.isAgg3
  z3:=Tryz.sizeOf3
  v3:=Tryz.zeroValue3
  t9:=Tryz.underlying9
  a9:=Tryz.isAgg9
  z9:=Tryz.sizeOf9
  v9:=Tryz.zeroValue9 }
open Go.RowKit in
theorem Tryz.strings_Compare (a b:ByteArray) (w:World) :
    Calls Tryz.prog 125 #[.string a,.string b] w fun e w'=>e = .returned (.int .i64 (Lib.compareBytes a.data.toList b.data.toList))∧w'=w:=Any.strings_Compare Tryz.lays106 a b w
def Tryz.laysM171_ren:Go.Shelf.Ren:=⟨fun | 171=>132 | 243=>151 | 246=>163 | 283=>172 | 284=>173 | 285=>174 | 286=>175 | 129=>180 | 317=>179 | 318=>181 | 319=>182 | 320=>183 | 337=>186 | 338=>187 | n=>n,fun | 3=>3 | 9=>9 | 2=>2 | 4=>4 | 171=>162 | 0=>0 | 53=>147 | 37=>22 | 5=>5 | 173=>165 | 212=>173 | 51=>112 | 20=>20 | 213=>174 | 46=>119 | 232=>181 | 233=>182 | n=>n,fun | 17=>3 | 18=>4 | 19=>5 | n=>n⟩
theorem Tryz.laysM171:Go.Proofs.LaysM.n171 Tryz.prog Tryz.laysM171_ren:={
  mixed:=by kernel_rfl
  f129:=Tryz.func180.trans (congrArg some (by kernel_rfl))
  f171:=Tryz.func132.trans (congrArg some (by kernel_rfl))
  f243:=Tryz.func151.trans (congrArg some (by kernel_rfl))
  f246:=Tryz.func163.trans (congrArg some (by kernel_rfl))
  f283:=Tryz.func172.trans (congrArg some (by kernel_rfl))
  f284:=Tryz.func173.trans (congrArg some (by kernel_rfl))
  f285:=Tryz.func174.trans (congrArg some (by kernel_rfl))
  f286:=Tryz.func175.trans (congrArg some (by kernel_rfl))
  f317:=Tryz.func179.trans (congrArg some (by kernel_rfl))
  f318:=Tryz.func181.trans (congrArg some (by kernel_rfl))
  f319:=Tryz.func182.trans (congrArg some (by kernel_rfl))
  f320:=Tryz.func183.trans (congrArg some (by kernel_rfl))
  f337:=Tryz.func186.trans (congrArg some (by kernel_rfl))
  f338:=Tryz.func187.trans (congrArg some (by kernel_rfl))
  t0:=Tryz.underlying0
  a0:=Tryz.isAgg0
  z0:=Tryz.sizeOf0
  v0:=Tryz.zeroValue0
  t2:=Tryz.underlying2
  a2:=Tryz.isAgg2
  z2:=Tryz.sizeOf2
  v2:=Tryz.zeroValue2
  t3:=Tryz.underlying3
  a3:=Tryz.isAgg3
  z3:=Tryz.sizeOf3
  v3:=Tryz.zeroValue3
  t4:=Tryz.underlying4
  a4:=Tryz.isAgg4
  z4:=Tryz.sizeOf4
  v4:=Tryz.zeroValue4
  t5:=Tryz.underlying5
  a5:=Tryz.isAgg5
  z5:=Tryz.sizeOf5
  v5:=Tryz.zeroValue5
  t9:=Tryz.underlying9
  a9:=Tryz.isAgg9
  z9:=Tryz.sizeOf9
  v9:=Tryz.zeroValue9
  t20:=Tryz.underlying20
  a20:=Tryz.isAgg20
  z20:=Tryz.sizeOf20
  v20:=Tryz.zeroValue20
  t37:=Tryz.underlying22
  a37:=Tryz.isAgg22
  z37:=Tryz.sizeOf22
  v37:=Tryz.zeroValue22
  t46:=Tryz.underlying119
  a46:=Tryz.isAgg119
  z46:=Tryz.sizeOf119
  v46:=Tryz.zeroValue119
  t51:=Tryz.underlying112
  a51:=Tryz.isAgg112
  z51:=Tryz.sizeOf112
  v51:=Tryz.zeroValue112
  t53:=Tryz.underlying147
  a53:=Tryz.isAgg147
  z53:=Tryz.sizeOf147
  v53:=Tryz.zeroValue147
  t171:=Tryz.underlying162
  a171:=Tryz.isAgg162
  z171:=Tryz.sizeOf162
  v171:=Tryz.zeroValue162
  t173:=Tryz.underlying165
  a173:=Tryz.isAgg165
  z173:=Tryz.sizeOf165
  v173:=Tryz.zeroValue165
  t212:=Tryz.underlying173
  a212:=Tryz.isAgg173
  z212:=Tryz.sizeOf173
  v212:=Tryz.zeroValue173
  t213:=Tryz.underlying174
  a213:=Tryz.isAgg174
  z213:=Tryz.sizeOf174
  t232:=Tryz.underlying181
  a232:=Tryz.isAgg181
  z232:=Tryz.sizeOf181
  v232:=Tryz.zeroValue181
  t233:=Tryz.underlying182
  a233:=Tryz.isAgg182
  z233:=Tryz.sizeOf182
  v233:=Tryz.zeroValue182
  g17:=by kernel_rfl
  g18:=by kernel_rfl
  g19:=by kernel_rfl
  i0:=by kernel_rfl
  i2:=by kernel_rfl
  i3:=by kernel_rfl
  i4:=by kernel_rfl
  i5:=by kernel_rfl
  i9:=by kernel_rfl
  i20:=by kernel_rfl
  i37:=by kernel_rfl
  i46:=by kernel_rfl
  i51:=by kernel_rfl
  i53:=by kernel_rfl
  i171:=by kernel_rfl
  i173:=by kernel_rfl
  i212:=by kernel_rfl
  i232:=by kernel_rfl
  i233:=by kernel_rfl
  m17:=by kernel_rfl
  m18:=by kernel_rfl
  m19:=by kernel_rfl }
open Go.RowKit Go.Sort Go.Lib in
theorem Tryz.strconv_Itoa (n : Int) (h0 : -9223372036854775808 ≤ n) (h1 : n ≤ 9223372036854775807) (w : World) (htab : Lib.TabIs Tryz.prog w "internal/strconv.uint64pow10" .u64 Lib.pow10Tab) :
    Calls Tryz.prog 132 #[.int .i64 n] w fun e w'=>e = .returned (.string ⟨(Lib.itoa n).toArray⟩) ∧ ∃ k os,w'=grow (w.drewN k) os:=Any.strconv_Itoa Tryz.laysM171 n h0 h1 w htab
def Tryz.laysC172_ren:Go.Shelf.Ren:=⟨fun | 172=>134 | 244=>152 | 245=>153 | 247=>164 | 279=>165 | 280=>166 | 281=>167 | 282=>168 | 287=>176 | 316=>177 | 171=>132 | 205=>178 | 321=>184 | 322=>185 | 243=>151 | 246=>163 | 283=>172 | 284=>173 | 285=>174 | 286=>175 | 129=>180 | 317=>179 | 318=>181 | 319=>182 | 320=>183 | 337=>186 | 338=>187 | n=>n,fun | 9=>9 | 3=>3 | 75=>129 | 76=>130 | 4=>4 | 5=>5 | 167=>152 | 37=>22 | 0=>0 | 85=>153 | 2=>2 | 168=>155 | 53=>147 | 175=>167 | 46=>119 | 210=>170 | 127=>150 | 145=>179 | 143=>177 | 21=>21 | 171=>162 | 173=>165 | 212=>173 | 51=>112 | 20=>20 | 213=>174 | 232=>181 | 233=>182 | 80=>55 | n=>n,fun | 15=>1 | 16=>2 | 17=>3 | 18=>4 | 19=>5 | n=>n⟩
theorem Tryz.laysC172:Go.Proofs.LaysC.n172 Tryz.prog Tryz.laysC172_ren:={
  mixed:=by kernel_rfl
  f129:=Tryz.func180.trans (congrArg some (by kernel_rfl))
  f171:=Tryz.func132.trans (congrArg some (by kernel_rfl))
  f172:=Tryz.func134.trans (congrArg some (by kernel_rfl))
  f205:=Tryz.func178.trans (congrArg some (by kernel_rfl))
  f243:=Tryz.func151.trans (congrArg some (by kernel_rfl))
  f244:=Tryz.func152.trans (congrArg some (by kernel_rfl))
  f245:=Tryz.func153.trans (congrArg some (by kernel_rfl))
  f246:=Tryz.func163.trans (congrArg some (by kernel_rfl))
  f247:=Tryz.func164.trans (congrArg some (by kernel_rfl))
  f279:=Tryz.func165.trans (congrArg some (by kernel_rfl))
  f280:=Tryz.func166.trans (congrArg some (by kernel_rfl))
  f281:=Tryz.func167.trans (congrArg some (by kernel_rfl))
  f282:=Tryz.func168.trans (congrArg some (by kernel_rfl))
  f283:=Tryz.func172.trans (congrArg some (by kernel_rfl))
  f284:=Tryz.func173.trans (congrArg some (by kernel_rfl))
  f285:=Tryz.func174.trans (congrArg some (by kernel_rfl))
  f286:=Tryz.func175.trans (congrArg some (by kernel_rfl))
  f287:=Tryz.func176.trans (congrArg some (by kernel_rfl))
  f316:=Tryz.func177.trans (congrArg some (by kernel_rfl))
  f317:=Tryz.func179.trans (congrArg some (by kernel_rfl))
  f318:=Tryz.func181.trans (congrArg some (by kernel_rfl))
  f319:=Tryz.func182.trans (congrArg some (by kernel_rfl))
  f320:=Tryz.func183.trans (congrArg some (by kernel_rfl))
  f321:=Tryz.func184.trans (congrArg some (by kernel_rfl))
  f322:=Tryz.func185.trans (congrArg some (by kernel_rfl))
  f337:=Tryz.func186.trans (congrArg some (by kernel_rfl))
  f338:=Tryz.func187.trans (congrArg some (by kernel_rfl))
  t0:=Tryz.underlying0
  a0:=Tryz.isAgg0
  z0:=Tryz.sizeOf0
  v0:=Tryz.zeroValue0
  t2:=Tryz.underlying2
  a2:=Tryz.isAgg2
  z2:=Tryz.sizeOf2
  v2:=Tryz.zeroValue2
  t3:=Tryz.underlying3
  a3:=Tryz.isAgg3
  z3:=Tryz.sizeOf3
  v3:=Tryz.zeroValue3
  t4:=Tryz.underlying4
  a4:=Tryz.isAgg4
  z4:=Tryz.sizeOf4
  v4:=Tryz.zeroValue4
  t5:=Tryz.underlying5
  a5:=Tryz.isAgg5
  z5:=Tryz.sizeOf5
  v5:=Tryz.zeroValue5
  t9:=Tryz.underlying9
  a9:=Tryz.isAgg9
  z9:=Tryz.sizeOf9
  v9:=Tryz.zeroValue9
  t20:=Tryz.underlying20
  a20:=Tryz.isAgg20
  z20:=Tryz.sizeOf20
  v20:=Tryz.zeroValue20
  t21:=Tryz.underlying21
  a21:=Tryz.isAgg21
  z21:=Tryz.sizeOf21
  v21:=Tryz.zeroValue21
  t37:=Tryz.underlying22
  a37:=Tryz.isAgg22
  z37:=Tryz.sizeOf22
  v37:=Tryz.zeroValue22
  t46:=Tryz.underlying119
  a46:=Tryz.isAgg119
  z46:=Tryz.sizeOf119
  v46:=Tryz.zeroValue119
  t51:=Tryz.underlying112
  a51:=Tryz.isAgg112
  z51:=Tryz.sizeOf112
  v51:=Tryz.zeroValue112
  t53:=Tryz.underlying147
  a53:=Tryz.isAgg147
  z53:=Tryz.sizeOf147
  v53:=Tryz.zeroValue147
  t75:=Tryz.underlying129
  a75:=Tryz.isAgg129
  z75:=Tryz.sizeOf129
  v75:=Tryz.zeroValue129
  t76:=Tryz.underlying130
  a76:=Tryz.isAgg130
  z76:=Tryz.sizeOf130
  v76:=Tryz.zeroValue130
  t85:=Tryz.underlying153
  a85:=Tryz.isAgg153
  z85:=Tryz.sizeOf153
  v85:=Tryz.zeroValue153
  t127:=Tryz.underlying150
  a127:=Tryz.isAgg150
  z127:=Tryz.sizeOf150
  v127:=Tryz.zeroValue150
  t143:=Tryz.underlying177
  a143:=Tryz.isAgg177
  z143:=Tryz.sizeOf177
  v143:=Tryz.zeroValue177
  t145:=Tryz.underlying179
  a145:=Tryz.isAgg179
  z145:=Tryz.sizeOf179
  v145:=Tryz.zeroValue179
  t167:=Tryz.underlying152
  a167:=Tryz.isAgg152
  z167:=Tryz.sizeOf152
  v167:=Tryz.zeroValue152
  t168:=Tryz.underlying155
  a168:=Tryz.isAgg155
  z168:=Tryz.sizeOf155
  v168:=Tryz.zeroValue155
  t171:=Tryz.underlying162
  a171:=Tryz.isAgg162
  z171:=Tryz.sizeOf162
  v171:=Tryz.zeroValue162
  t173:=Tryz.underlying165
  a173:=Tryz.isAgg165
  z173:=Tryz.sizeOf165
  v173:=Tryz.zeroValue165
  t175:=Tryz.underlying167
  a175:=Tryz.isAgg167
  z175:=Tryz.sizeOf167
  v175:=Tryz.zeroValue167
  t210:=Tryz.underlying170
  a210:=Tryz.isAgg170
  z210:=Tryz.sizeOf170
  v210:=Tryz.zeroValue170
  t212:=Tryz.underlying173
  a212:=Tryz.isAgg173
  z212:=Tryz.sizeOf173
  v212:=Tryz.zeroValue173
  t213:=Tryz.underlying174
  a213:=Tryz.isAgg174
  z213:=Tryz.sizeOf174
  t232:=Tryz.underlying181
  a232:=Tryz.isAgg181
  z232:=Tryz.sizeOf181
  v232:=Tryz.zeroValue181
  t233:=Tryz.underlying182
  a233:=Tryz.isAgg182
  z233:=Tryz.sizeOf182
  v233:=Tryz.zeroValue182
  g15:=by kernel_rfl
  g16:=by kernel_rfl
  g17:=by kernel_rfl
  g18:=by kernel_rfl
  g19:=by kernel_rfl
  t80:=Tryz.underlying55
  a80:=Tryz.isAgg55
  z80:=Tryz.sizeOf55
  v80:=Tryz.zeroValue55
  i0:=by kernel_rfl
  i2:=by kernel_rfl
  i3:=by kernel_rfl
  i4:=by kernel_rfl
  i5:=by kernel_rfl
  i9:=by kernel_rfl
  i20:=by kernel_rfl
  i21:=by kernel_rfl
  i37:=by kernel_rfl
  i46:=by kernel_rfl
  i51:=by kernel_rfl
  i53:=by kernel_rfl
  i75:=by kernel_rfl
  i76:=by kernel_rfl
  i80:=by kernel_rfl
  i85:=by kernel_rfl
  i127:=by kernel_rfl
  i143:=by kernel_rfl
  i145:=by kernel_rfl
  i167:=by kernel_rfl
  i168:=by kernel_rfl
  i171:=by kernel_rfl
  i173:=by kernel_rfl
  i175:=by kernel_rfl
  i210:=by kernel_rfl
  i212:=by kernel_rfl
  i232:=by kernel_rfl
  i233:=by kernel_rfl
  m15:=by kernel_rfl
  m16:=by kernel_rfl
  m17:=by kernel_rfl
  m18:=by kernel_rfl
  m19:=by kernel_rfl
  c0:=by kernel_rfl
  c2:=by kernel_rfl
  c3:=by kernel_rfl
  c4:=by kernel_rfl
  c5:=by kernel_rfl
  c9:=by kernel_rfl
  c20:=by kernel_rfl
  c21:=by kernel_rfl
  c37:=by kernel_rfl
  c46:=by kernel_rfl
  c51:=by kernel_rfl
  c53:=by kernel_rfl
  c75:=by kernel_rfl
  c76:=by kernel_rfl
  c80:=by kernel_rfl
  c85:=by kernel_rfl
  c127:=by kernel_rfl
  c143:=by kernel_rfl
  c145:=by kernel_rfl
  c167:=by kernel_rfl
  c168:=by kernel_rfl
  c171:=by kernel_rfl
  c173:=by kernel_rfl
  c175:=by kernel_rfl
  c210:=by kernel_rfl
  c212:=by kernel_rfl
  c213:=by kernel_rfl
  c232:=by kernel_rfl
  c233:=by kernel_rfl }
open Go.RowKit in
theorem Tryz.strconv_Atoi_ok (s:ByteArray) (hmax:s.size≤9223372036854775806) (v:Int) (h:Lib.atoiAll s.data.toList = .ok v) (w:World) :
    Calls Tryz.prog 134 #[.string s] w fun e w'=>e = .returned (.tuple #[.int .i64 v,.nilIface])∧(w'=w ∨ ∃ t,w'=Lib.bytesWorld w 5 t):=Any.strconv_Atoi_ok Tryz.laysC172 s hmax v h w
open Go.RowKit in
theorem Tryz.strconv_Atoi_syntax_var (s : ByteArray) (hlim : s.size ≤ 281474976710656) (h : Lib.atoiAll s.data.toList = .«syntax») (tp : TypeId) (p : Value) (w : World) (hvar : w.var? Tryz.prog "strconv.ErrSyntax" = some #[.iface tp p]) :
    Calls Tryz.prog 134 #[.string s] w fun e w' => ∃ N,e = .returned (.tuple #[.int .i64 0,.iface 155 (.pointer (some ⟨N,0,none⟩))])∧w.heap.size≤N∧w'.heap[N]? = some (.cells #[.string ⟨#[65,116,111,105]⟩,.string s,.iface tp p] 170 (0,0))∧Below w.heap.size w w':=Any.strconv_Atoi_syntax_var Tryz.laysC172 s hlim h tp p w hvar
open Go.RowKit in
theorem Tryz.strconv_Atoi_range_var (s : ByteArray) (hlim : s.size ≤ 281474976710656) (h : Lib.atoiAll s.data.toList = .range) (tp : TypeId) (p : Value) (w : World) (hvar : w.var? Tryz.prog "strconv.ErrRange" = some #[.iface tp p]) :
    Calls Tryz.prog 134 #[.string s] w fun e w' => ∃ N,e = .returned (.tuple #[.int .i64 (Lib.atoiSat s.data.toList),.iface 155 (.pointer (some ⟨N,0,none⟩))])∧w.heap.size≤N∧w'.heap[N]? = some (.cells #[.string ⟨#[65,116,111,105]⟩,.string s,.iface tp p] 170 (0,0))∧Below w.heap.size w w':=Any.strconv_Atoi_range_var Tryz.laysC172 s hlim h tp p w hvar
def Tryz.lays105_ren:Go.Shelf.Ren:=⟨fun | 105=>117 | 212=>139 | 99=>140 | 165=>141 | 166=>142 | 170=>143 | 169=>144 | 263=>155 | 264=>156 | 206=>157 | 240=>158 | 241=>159 | 276=>170 | 277=>171 | n=>n,fun | 9=>9 | 3=>3 | 4=>4 | 20=>20 | 0=>0 | 46=>119 | 109=>134 | 5=>5 | 72=>139 | 76=>130 | 51=>112 | 146=>145 | 53=>147 | 148=>148 | 70=>137 | 37=>22 | 75=>129 | 127=>150 | 164=>159 | 80=>55 | n=>n,fun | n=>n⟩
theorem Tryz.lays105:Go.Proofs.Lays.n105 Tryz.prog Tryz.lays105_ren:={
  mixed:=by kernel_rfl
  f99:=Tryz.func140.trans (congrArg some (by kernel_rfl))
  f105:=Tryz.func117.trans (congrArg some (by kernel_rfl))
  f165:=Tryz.func141.trans (congrArg some (by kernel_rfl))
  f166:=Tryz.func142.trans (congrArg some (by kernel_rfl))
  f169:=Tryz.func144.trans (congrArg some (by kernel_rfl))
  f170:=Tryz.func143.trans (congrArg some (by kernel_rfl))
  f206:=Tryz.func157.trans (congrArg some (by kernel_rfl))
  f212:=Tryz.func139.trans (congrArg some (by kernel_rfl))
  f240:=Tryz.func158.trans (congrArg some (by kernel_rfl))
  f241:=Tryz.func159.trans (congrArg some (by kernel_rfl))
  f263:=Tryz.func155.trans (congrArg some (by kernel_rfl))
  f264:=Tryz.func156.trans (congrArg some (by kernel_rfl))
  f276:=Tryz.func170.trans (congrArg some (by kernel_rfl))
  f277:=Tryz.func171.trans (congrArg some (by kernel_rfl))
  t0:=Tryz.underlying0
  a0:=Tryz.isAgg0
  z0:=Tryz.sizeOf0
  v0:=Tryz.zeroValue0
  t3:=Tryz.underlying3
  a3:=Tryz.isAgg3
  z3:=Tryz.sizeOf3
  v3:=Tryz.zeroValue3
  t4:=Tryz.underlying4
  a4:=Tryz.isAgg4
  z4:=Tryz.sizeOf4
  v4:=Tryz.zeroValue4
  t5:=Tryz.underlying5
  a5:=Tryz.isAgg5
  z5:=Tryz.sizeOf5
  v5:=Tryz.zeroValue5
  t9:=Tryz.underlying9
  a9:=Tryz.isAgg9
  z9:=Tryz.sizeOf9
  v9:=Tryz.zeroValue9
  t20:=Tryz.underlying20
  a20:=Tryz.isAgg20
  z20:=Tryz.sizeOf20
  v20:=Tryz.zeroValue20
  t37:=Tryz.underlying22
  a37:=Tryz.isAgg22
  z37:=Tryz.sizeOf22
  v37:=Tryz.zeroValue22
  t46:=Tryz.underlying119
  a46:=Tryz.isAgg119
  z46:=Tryz.sizeOf119
  v46:=Tryz.zeroValue119
  t51:=Tryz.underlying112
  a51:=Tryz.isAgg112
  z51:=Tryz.sizeOf112
  v51:=Tryz.zeroValue112
  t53:=Tryz.underlying147
  a53:=Tryz.isAgg147
  z53:=Tryz.sizeOf147
  v53:=Tryz.zeroValue147
  t70:=Tryz.underlying137
  a70:=Tryz.isAgg137
  z70:=Tryz.sizeOf137
  v70:=Tryz.zeroValue137
  t72:=Tryz.underlying139
  a72:=Tryz.isAgg139
  z72:=Tryz.sizeOf139
  v72:=Tryz.zeroValue139
  t75:=Tryz.underlying129
  a75:=Tryz.isAgg129
  z75:=Tryz.sizeOf129
  v75:=Tryz.zeroValue129
  t76:=Tryz.underlying130
  a76:=Tryz.isAgg130
  z76:=Tryz.sizeOf130
  v76:=Tryz.zeroValue130
  t109:=Tryz.underlying134
  a109:=Tryz.isAgg134
  z109:=Tryz.sizeOf134
  v109:=Tryz.zeroValue134
  t127:=Tryz.underlying150
  a127:=Tryz.isAgg150
  z127:=Tryz.sizeOf150
  v127:=Tryz.zeroValue150
  t146:=Tryz.underlying145
  a146:=Tryz.isAgg145
  z146:=Tryz.sizeOf145
  v146:=Tryz.zeroValue145
  t148:=Tryz.underlying148
  a148:=Tryz.isAgg148
  z148:=Tryz.sizeOf148
  v148:=Tryz.zeroValue148
  t164:=Tryz.underlying159
  a164:=Tryz.isAgg159
  z164:=Tryz.sizeOf159
  v164:=Tryz.zeroValue159 }
theorem Tryz.Builder_Extra_105:Builder.Extra Tryz.prog Tryz.lays105_ren:={
  sizeBuilder:=by kernel_rfl
  liesBuilder:=by kernel_rfl
  t5:=Tryz.underlying5
  a5:=Tryz.isAgg5
  z5:=Tryz.sizeOf5
  v5:=Tryz.zeroValue5
  infoByte:=by kernel_rfl
  cellsByte:=by kernel_rfl
  sizeByte:=by kernel_rfl
  neB5:=by decide }
open Go.RowKit Go.Lib in
theorem Tryz.strings_Repeat (s:ByteArray) (c:Nat) (w:World) (hc:c≤9223372036854775807) (hlen:s.size * c≤140737488355328) :
    Calls Tryz.prog 117 #[.string s,.int .i64 c] w fun e w'=>e = .returned (.string ⟨(Lib.repeatL s.data.toList c).toArray⟩)∧Below w.heap.size w w':=Any.strings_Repeat Tryz.lays105 Tryz.Builder_Extra_105 s c w hc hlen
end Go.Proofs
