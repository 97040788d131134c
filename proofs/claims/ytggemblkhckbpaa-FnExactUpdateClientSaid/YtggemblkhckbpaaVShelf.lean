/-
  DERIVED: THE SHELF's CONTRACTS AT THIS DUMP,IN PLAIN WORDS (tools/lay-plain.mjs out of 'TryShelf.lean',which tools/lay-shelf.mjs wrote): THE SAME DECLARATIONS UNDER THE SAME NAMES: 'import','namespace','open','def','theorem' AND NOTHING ELSE: no command of the shelf's: FOR A HAND-IN. Each laying: the table of numbers ('.._ren') and one theorem,a field a fact of the dump's own or the kernel's comparison;each contract: ONE APPLICATION.
-/
import Derived.Shelf.Strings.Builder1
import Derived.Shelf.Strings.Builder2
import Derived.Shelf.Strings.BuilderF
import Derived.Shelf.Strings.BuilderK
import Derived.Shelf.Strings.Builder2Cap
import Derived.Shelf.Strings.Prefix
import Derived.Shelf.Bits.Mul64
import Derived.Shelf.Strings.Repeat
import Derived.Shelf.Strings.BuilderCap
import Derived.Test.YtggemblkhckbpaaProg
namespace Go.Proofs
open Go.Shelf
def Try.lays105_ren:Go.Shelf.Ren:=⟨fun | 105=>85 | 212=>105 | 99=>106 | 165=>107 | 166=>108 | 170=>109 | 169=>110 | 263=>115 | 264=>116 | 206=>117 | 240=>118 | 241=>119 | 276=>121 | 277=>122 | n=>n,fun | 9=>9 | 3=>3 | 4=>4 | 20=>20 | 0=>0 | 46=>95 | 109=>135 | 5=>5 | 72=>139 | 76=>143 | 51=>113 | 146=>149 | 53=>151 | 148=>152 | 70=>137 | 37=>22 | 75=>142 | 127=>154 | 164=>155 | 80=>69 | n=>n,fun | n=>n⟩
theorem Try.lays105:Go.Proofs.Lays.n105 Try.prog Try.lays105_ren:={
  mixed:=by kernel_rfl
  f99:=Try.func106.trans (congrArg some (by kernel_rfl))
  f105:=Try.func85.trans (congrArg some (by kernel_rfl))
  f165:=Try.func107.trans (congrArg some (by kernel_rfl))
  f166:=Try.func108.trans (congrArg some (by kernel_rfl))
  f169:=Try.func110.trans (congrArg some (by kernel_rfl))
  f170:=Try.func109.trans (congrArg some (by kernel_rfl))
  f206:=Try.func117.trans (congrArg some (by kernel_rfl))
  f212:=Try.func105.trans (congrArg some (by kernel_rfl))
  f240:=Try.func118.trans (congrArg some (by kernel_rfl))
  f241:=Try.func119.trans (congrArg some (by kernel_rfl))
  f263:=Try.func115.trans (congrArg some (by kernel_rfl))
  f264:=Try.func116.trans (congrArg some (by kernel_rfl))
  f276:=Try.func121.trans (congrArg some (by kernel_rfl))
  f277:=Try.func122.trans (congrArg some (by kernel_rfl))
  t0:=Try.underlying0
  a0:=Try.isAgg0
  z0:=Try.sizeOf0
  v0:=Try.zeroValue0
  t3:=Try.underlying3
  a3:=Try.isAgg3
  z3:=Try.sizeOf3
  v3:=Try.zeroValue3
  t4:=Try.underlying4
  a4:=Try.isAgg4
  z4:=Try.sizeOf4
  v4:=Try.zeroValue4
  t5:=Try.underlying5
  a5:=Try.isAgg5
  z5:=Try.sizeOf5
  v5:=Try.zeroValue5
  t9:=Try.underlying9
  a9:=Try.isAgg9
  z9:=Try.sizeOf9
  v9:=Try.zeroValue9
  t20:=Try.underlying20
  a20:=Try.isAgg20
  z20:=Try.sizeOf20
  v20:=Try.zeroValue20
  t37:=Try.underlying22
  a37:=Try.isAgg22
  z37:=Try.sizeOf22
  v37:=Try.zeroValue22
  t46:=Try.underlying95
  a46:=Try.isAgg95
  z46:=Try.sizeOf95
  v46:=Try.zeroValue95
  t51:=Try.underlying113
  a51:=Try.isAgg113
  z51:=Try.sizeOf113
  v51:=Try.zeroValue113
  t53:=Try.underlying151
  a53:=Try.isAgg151
  z53:=Try.sizeOf151
  v53:=Try.zeroValue151
  t70:=Try.underlying137
  a70:=Try.isAgg137
  z70:=Try.sizeOf137
  v70:=Try.zeroValue137
  t72:=Try.underlying139
  a72:=Try.isAgg139
  z72:=Try.sizeOf139
  v72:=Try.zeroValue139
  t75:=Try.underlying142
  a75:=Try.isAgg142
  z75:=Try.sizeOf142
  v75:=Try.zeroValue142
  t76:=Try.underlying143
  a76:=Try.isAgg143
  z76:=Try.sizeOf143
  v76:=Try.zeroValue143
  t109:=Try.underlying135
  a109:=Try.isAgg135
  z109:=Try.sizeOf135
  v109:=Try.zeroValue135
  t127:=Try.underlying154
  a127:=Try.isAgg154
  z127:=Try.sizeOf154
  v127:=Try.zeroValue154
  t146:=Try.underlying149
  a146:=Try.isAgg149
  z146:=Try.sizeOf149
  v146:=Try.zeroValue149
  t148:=Try.underlying152
  a148:=Try.isAgg152
  z148:=Try.sizeOf152
  v148:=Try.zeroValue152
  t164:=Try.underlying155
  a164:=Try.isAgg155
  z164:=Try.sizeOf155
  v164:=Try.zeroValue155 }
theorem Try.Builder_Extra_105:Builder.Extra Try.prog Try.lays105_ren:={
  sizeBuilder:=by kernel_rfl
  liesBuilder:=by kernel_rfl
  t5:=Try.underlying5
  a5:=Try.isAgg5
  z5:=Try.sizeOf5
  v5:=Try.zeroValue5
  infoByte:=by kernel_rfl
  cellsByte:=by kernel_rfl
  sizeByte:=by kernel_rfl
  neB5:=by decide }
open Go.RowKit Go.Lib in
theorem Try.strings_Repeat (s:ByteArray) (c:Nat) (w:World) (hc:c≤9223372036854775807) (hlen:s.size * c≤140737488355328) :
    Calls Try.prog 85 #[.string s,.int .i64 c] w fun e w'=>e = .returned (.string ⟨(Lib.repeatL s.data.toList c).toArray⟩)∧Below w.heap.size w w':=Any.strings_Repeat Try.lays105 Try.Builder_Extra_105 s c w hc hlen
end Go.Proofs
