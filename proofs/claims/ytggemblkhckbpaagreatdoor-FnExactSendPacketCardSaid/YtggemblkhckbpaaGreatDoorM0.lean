/- Parts of the proof: what single Go functions compute, each with its walk, and plain laws over these. -/
import Derived.Laws.CopyRow
import Derived.Laws.IdiomCopy
import Derived.Test.YtggemblkhckbpaaGreatDoorVWords
import Derived.Test.YtggemblkhckbpaaGreatDoorProg
import Derived.Below
import Derived.Deep.Draws
import Derived.Deep.AppendLies
import Derived.Maps.AppendAt
import Derived.OwnWalk
import Derived.Laws.BytesArg
import Derived.Laws.MakeOwn
import Derived.Laws.OwnMore
import Derived.Deep.OwnRows
import Derived.Tactics
import Derived.Lib.ConvBytes
import Derived.Laws.Slices
import Derived.WalkKit
import Derived.KernelRfl
import Derived.RowKit3
import Derived.Deep.LoopGhost
import Derived.Deep.QuietTactic
import Derived.BigQuiet
import Derived.WideLaws
import Derived.Deep.DeepCutAuto
import Derived.Deep.CutBlock
import Derived.Deep.RegionHeld3
import Derived.Laws.Rows
import Derived.Lib.AppendStr
import Derived.ArgAppend
import Derived.OrdersHeld
import Derived.Laws.BitsLemmas
import Derived.RowKit
import Derived.Shelf.Abstract
import Derived.Laws.Cover1
import Derived.Test.YtggemblkhckbpaaGreatDoorVShelf
import Derived.Lib.AppendIntMem
import Derived.Lib.SliceRun
import Derived.WalkSpells
import Derived.Test.YtggemblkhckbpaaGreatDoorVMac
import Derived.Lib.Overlaps
import Derived.Laws.Externs
import Derived.Laws.CopyOwn
import Derived.Shelf.Spec.SlicesInsertGrow
import Derived.Deep.Heap
import Derived.Test.YtggemblkhckbpaaGreatDoorVLast
import Derived.Test.YtggemblkhckbpaaGreatDoorVTab
import Derived.Test.YtggemblkhckbpaaGreatDoorVFour
import Derived.Test.YtggemblkhckbpaaGreatDoorVQPut
import Derived.Test.YtggemblkhckbpaaGreatDoorVApart
import Derived.Test.YtggemblkhckbpaaGreatDoorVArr
import Derived.Test.YtggemblkhckbpaaGreatDoorVZeros
import Derived.Test.YtggemblkhckbpaaGreatDoorVFoot
import Derived.Test.YtggemblkhckbpaaGreatDoorVKept
import Derived.Test.YtggemblkhckbpaaGreatDoorVShare
import Derived.Test.YtggemblkhckbpaaGreatDoorVN
import Derived.Test.YtggemblkhckbpaaGreatDoorVFootNe
import Derived.Test.YtggemblkhckbpaaGreatDoorVAt
import Derived.Test.YtggemblkhckbpaaGreatDoorVEqStruct
import Derived.Test.YtggemblkhckbpaaGreatDoorVRepsOne
import Derived.Test.YtggemblkhckbpaaGreatDoorVInv
import Derived.Test.YtggemblkhckbpaaGreatDoorVInvWords
import Derived.Test.YtggemblkhckbpaaGreatDoorVGuard
import Derived.Test.YtggemblkhckbpaaGreatDoorVNEv
import Derived.Test.YtggemblkhckbpaaGreatDoorVMore
/- 'copy' of a row of elements of any size: the row that is written, whole. -/
namespace Go.Proofs.YtggemblkhckbpaaGreatDoor.U
open Go Go.RowKit Go.Lib Go.Proofs.YtggemblkhckbpaaGreatDoorW.PrintWords
set_option linter.unusedVariables false
set_option linter.unusedSimpArgs false

theorem run_copy_row_n {P : Program} (w : World) (dT sT ty elem : TypeId) (g o dLen dCap : Nat) (a : Addr) (sLen sCap : Nat) (cur : Array Value) (t : TypeId) (cs : List Value) (s m : Nat)
    (hu : P.underlying dT = some (.slice elem)) (hs : (P.info? elem).map (·.size) = some s)
    (hg : w.heap[g]? = some (.cells cur t (0, 0))) (hm : m = Nat.min sLen dLen) (hn : cs.length = m * s)
    (hsrc : ∀ j v, cs[j]? = some v → w.cell? (a.add j) = some v) (hfit : o + cs.length ≤ cur.size) (h1 : ∀ v ∈ cs, v.oneCell' = true) :
    (Builtin.copy_ #[dT, sT] ty #[.slice (some ⟨g, o, none⟩) dLen dCap, .slice (some a) sLen sCap]).run P w =
      .ok (goInt m) (w.setRow g (cur.toList.take o ++ cs ++ cur.toList.drop (o + cs.length)).toArray) := by
  have hl := run_loadCells_list (P := P) w a cs hsrc
  have hst := run_storeCells_at P g o t cs 0 cur w hg (by simpa using hfit) h1
  cases hq : P.info? elem with
  | none => simp [hq] at hs
  | some i =>
    have hi : i.size = s := by simpa [hq] using hs
    simp [Builtin.copy_, run_underlying hu, Builtin.lenOf, Builtin.firstCells, sizeOf, typeInfo, hq, hi, ← hm, ← hn, hl, hst]

/-- What one row of elements is after an insertion that had room: the cells ahead, the new ones, those that stood behind; what lies behind these stays. -/
theorem ins_list {α : Type} (cur new : List α) (i n s : Nat) (hi : i ≤ n) (hs : new.length = s) (hl : (n + 1) * s ≤ cur.length) :
    let mid := cur.take ((i + 1) * s) ++ (cur.drop (i * s)).take ((n - i) * s) ++ cur.drop ((n + 1) * s)
    (mid.take (i * s) ++ new ++ mid.drop (i * s + s)) = (cur.take (i * s) ++ new ++ (cur.take (n * s)).drop (i * s)) ++ cur.drop ((n + 1) * s) := by
  intro mid
  have e1 : (i + 1) * s = i * s + s := by rw [Nat.add_mul, Nat.one_mul]
  have e2 : (n + 1) * s = n * s + s := by rw [Nat.add_mul, Nat.one_mul]
  have e3 : (n - i) * s = n * s - i * s := Nat.sub_mul n i s
  have e4 : i * s ≤ n * s := Nat.mul_le_mul_right s hi
  have h1 : mid.take (i * s) = cur.take (i * s) := by
    show (cur.take ((i + 1) * s) ++ (cur.drop (i * s)).take ((n - i) * s) ++ cur.drop ((n + 1) * s)).take (i * s) = _
    rw [List.append_assoc, List.take_append_of_le_length (by rw [List.length_take]; omega), List.take_take, Nat.min_eq_left (by omega)]
  have h2 : mid.drop (i * s + s) = (cur.drop (i * s)).take ((n - i) * s) ++ cur.drop ((n + 1) * s) := by
    show (cur.take ((i + 1) * s) ++ (cur.drop (i * s)).take ((n - i) * s) ++ cur.drop ((n + 1) * s)).drop (i * s + s) = _
    have hlen : (cur.take ((i + 1) * s)).length = i * s + s := by rw [List.length_take]; omega
    rw [List.append_assoc, List.drop_append, hlen, Nat.sub_self, List.drop_zero, List.drop_of_length_le (by omega), List.nil_append]
  rw [h1, h2, e3, List.drop_take]
  simp [List.append_assoc]
end Go.Proofs.YtggemblkhckbpaaGreatDoor.U

namespace Go.Proofs.YtggemblkhckbpaaGreatDoor.Q
open Go.RowKit Go.Proofs.YtggemblkhckbpaaGreatDoorW.PrintWords Go.Proofs.YtggemblkhckbpaaGreatDoorW.PrintLast Go.Proofs.YtggemblkhckbpaaGreatDoorW.PrintMore
attribute [local go_sem] max2_int min2_int max_two min_two max_three min_three max_four min_four   -- for this text's walks alone
set_option linter.unusedVariables false
set_option linter.unusedSimpArgs false




theorem info5 : (Tryz.prog.info? 5).map (fun i => (i.zero, i.size, i.bytes)) = some (some (.int .u8 0), 1, 1) := by kernel_rfl
theorem info61 : (Tryz.prog.info? 61).map (fun i => (i.zero, i.size, i.bytes)) = some (some (.agg #[(.string ⟨#[]⟩), (.string ⟨#[]⟩)]), 2, 32) := by kernel_rfl
theorem info112 : (Tryz.prog.info? 112).map (fun i => (i.zero, i.size, i.bytes)) = some (some (.int .u32 0), 1, 4) := by kernel_rfl
-- the values' own types

/-! #### struct type 61 -/
structure S61 where
  f0 : ByteArray
  f1 : ByteArray
def z61 : S61 := ⟨(⟨#[]⟩ : ByteArray), (⟨#[]⟩ : ByteArray)⟩
def k61 : Kd S61 := Kd.iso (Kd.pair Kd.string Kd.string) (fun x : S61 => (x.f0, x.f1))
theorem k61_open {w : World} {x : S61} {cs : List Value} (h : k61.K w x cs) : cs = [.string x.f0, .string x.f1] := by
  obtain ⟨_, _, rfl, rfl, rfl⟩ := h
  exact rfl
theorem k61_openM {w : World} {base : Nat} {ok : Nat → Prop} {x : S61} {cs : List Value} (h : k61.M w base ok x cs) : cs = [.string x.f0, .string x.f1] := by
  obtain ⟨_, _, rfl, rfl, rfl⟩ := h
  exact rfl
theorem k61_mkM (w : World) (base : Nat) (ok : Nat → Prop) (x : S61)  : k61.M w base ok x [.string x.f0, .string x.f1] := ⟨[.string x.f0], [.string x.f1], rfl, rfl, rfl⟩
def rd_T61 (xs : List S61) (i : Int) : S61 := xs.getD i.toNat z61
theorem at_T61 {w : World} {A : Option Addr} {n : Nat} {xs : List S61} (h : Kd.C k61 w A n xs) (i : Int) (h0 : 0 ≤ i) (h1 : i < n) : ∃ ad , A = some ad ∧ w.cell? (ad.add (i.toNat * 2)) = some (.string (rd_T61 xs i).f0) ∧ w.cell? ⟨(ad.add (i.toNat * 2)).block, (ad.add (i.toNat * 2)).off + 1, none⟩ = some (.string (rd_T61 xs i).f1) := by
  obtain ⟨ad, c, e, _, hK, hc0⟩ := Kd.C_get h z61 i h0 h1
  have hc : ∀ j u, c[j]? = some u → w.cell? (ad.add (i.toNat * 2 + j)) = some u := hc0
  obtain rfl := k61_open hK
  exact ⟨ad, e, hc 0 _ rfl, by rw [← add_field _ _ 1 (by omega)]; exact hc 1 _ rfl⟩


/-! #### struct type 36 -/
structure S36 where
  f0 : Int
  f1 : Int
  f2 : ByteArray


/-! #### struct type 71 -/
structure S71 where
  f0 : ByteArray
  f1 : ByteArray
def z71 : S71 := ⟨(⟨#[]⟩ : ByteArray), (⟨#[]⟩ : ByteArray)⟩
def k71 : Kd S71 := Kd.iso (Kd.pair Kd.string Kd.string) (fun x : S71 => (x.f0, x.f1))
theorem k71_open {w : World} {x : S71} {cs : List Value} (h : k71.K w x cs) : cs = [.string x.f0, .string x.f1] := by
  obtain ⟨_, _, rfl, rfl, rfl⟩ := h
  exact rfl
def rd_T71 (xs : List S71) (i : Int) : S71 := xs.getD i.toNat z71
theorem at_T71 {w : World} {A : Option Addr} {n : Nat} {xs : List S71} (h : Kd.C k71 w A n xs) (i : Int) (h0 : 0 ≤ i) (h1 : i < n) : ∃ ad , A = some ad ∧ w.cell? (ad.add (i.toNat * 2)) = some (.string (rd_T71 xs i).f0) ∧ w.cell? ⟨(ad.add (i.toNat * 2)).block, (ad.add (i.toNat * 2)).off + 1, none⟩ = some (.string (rd_T71 xs i).f1) := by
  obtain ⟨ad, c, e, _, hK, hc0⟩ := Kd.C_get h z71 i h0 h1
  have hc : ∀ j u, c[j]? = some u → w.cell? (ad.add (i.toNat * 2 + j)) = some u := hc0
  obtain rfl := k71_open hK
  exact ⟨ad, e, hc 0 _ rfl, by rw [← add_field _ _ 1 (by omega)]; exact hc 1 _ rfl⟩




/-! ### strconv_Itoa: function 132 -/
/-- The table of powers of ten, and the two errors of reading, lie in memory, and go on lying there. -/
def ErrBelow (w : World) (name : String) : Prop := ∃ tp p, ∀ w', Below w.heap.size w w' → w'.var? Tryz.prog name = some #[.iface tp p]
def TabsOK (w : World) : Prop := Lib.TabBelow Tryz.prog w.heap.size w "internal/strconv.uint64pow10" .u64 Lib.pow10Tab ∧ ErrBelow w "strconv.ErrSyntax" ∧ ErrBelow w "strconv.ErrRange"
theorem ErrBelow.below {w w' : World} {name : String} (h : ErrBelow w name) (hb : Below w.heap.size w w') : ErrBelow w' name := by
  obtain ⟨tp, p, h⟩ := h
  exact ⟨tp, p, fun w2 hb2 => h w2 (below_step hb hb2)⟩
theorem ErrBelow.of_var {w : World} {name : String} {tp : TypeId} {p : Value} (h : w.var? Tryz.prog name = some #[.iface tp p]) : ErrBelow w name := ⟨tp, p, fun w' hb => by
  unfold World.var? at *
  cases hg : Tryz.prog.globalNamed name with
  | none => simp [hg] at h
  | some g =>
    simp only [hg, Option.bind_some] at h ⊢
    have hlt : g < w.heap.size := by
      rcases Nat.lt_or_ge g w.heap.size with h' | h'
      · exact h'
      · rw [Array.getElem?_eq_none h'] at h; simp at h
    rw [hb.block g hlt]
    exact h⟩
theorem TabsOK.below {w w' : World} (h : TabsOK w) (hb : Below w.heap.size w w') : TabsOK w' := ⟨fun w2 hb2 => h.1 w2 (below_step hb hb2), h.2.1.below hb, h.2.2.below hb⟩
def strconv_Itoa.f (a0 : Int) : Option ByteArray := if -9223372036854775808 ≤ a0 then (if a0 ≤ 9223372036854775807 then some ⟨(Lib.itoa a0).toArray⟩ else none) else none
theorem strconv_Itoa.calls (a0 : Int) (r : ByteArray) (w : World) (hT0 : TabsOK w) (h : strconv_Itoa.f a0 = some r) :
    Calls Tryz.prog 132 #[.int .i64 a0] w fun e w' => e = .returned (.string r) ∧ Below w.heap.size w w' := by
  unfold strconv_Itoa.f at h
  by_cases h1 : -9223372036854775808 ≤ a0
  · rw [if_pos h1] at h
    by_cases h2 : a0 ≤ 9223372036854775807
    · rw [if_pos h2] at h
      obtain rfl := Option.some.inj h
      refine (Tryz.strconv_Itoa a0 h1 h2 w hT0.1.here).mono ?_
      rintro e w' ⟨rfl, k, os, rfl⟩
      exact ⟨rfl, Lib.below_grow w.heap.size w (Nat.le_refl _) k os⟩
    · rw [if_neg h2] at h; cases h
  · rw [if_neg h1] at h; cases h


open Bool renaming true → τ, false → φ
set_option maxHeartbeats 8000000
set_option maxRecDepth 100000

/-! ### impl_within: function 44 -/
def impl_within.f (a0:Int) (a1:Int) (a2:Int):Option (Bool):=if a0 ≥ a1 then (some (decide (a0≤a2))) else (some φ)
theorem impl_within.calls (a0:Int) (a1:Int) (a2:Int) (r:Bool) (w:World) (h:impl_within.f a0 a1 a2=some r) :
  Calls Tryz.prog 44 #[.int .i64 a0,.int .i64 a1,.int .i64 a2] w fun e w'=>e = .returned (.bool r)∧Drawn0 w w':=by
 have H:(if a0 ≥ a1 then (some (decide (a0≤a2))) else (some φ))=some r:=h
 clear h
 by_cases c4:a0 ≥ a1
 ·
  rw [if_pos c4] at H
  have c4b0:decide (a1≤a0)=τ:=decide_eq_true c4
  clear c4
  obtain rfl:=Option.some.inj H
  go_enter Tryz.func44,Tryz.ntmps44
  go_wp2
  go_ret
  exact ⟨by rfl,by repeat (exact Drawn0.refl _)⟩
 ·
  rw [if_neg c4] at H
  have c4b0:decide (a1≤a0)=φ:=decide_eq_false c4
  clear c4
  obtain rfl:=Option.some.inj H
  go_enter Tryz.func44,Tryz.ntmps44
  go_wp2
  go_ret
  exact ⟨by rfl,by repeat (exact Drawn0.refl _)⟩


open Go.Proofs.YtggemblkhckbpaaGreatDoorW.PrintWords.Aside0 renaming mk → ζa
open Go.Proofs.YtggemblkhckbpaaGreatDoorW.PrintWords renaming gate_dst → δx, below_step → δr, blk_cell → δl, blk_frozen → δm, gate_callee → δv, pw_below_drewN → δi
set_option maxHeartbeats 8000000
set_option maxRecDepth 100000

/-! ### impl_PacketOK: function 19 -/
def impl_PacketOK.f (a0_0:Int) (a0_1:Int) (a0_2:ByteArray):Option (Bool):=(impl_within.f a0_0 1 99).bind fun t102=>(if t102=τ then ((impl_within.f a0_1 1 60).bind fun t103=>(if t103=τ then ((impl_within.f (a0_2.size:Int) 1 500).bind fun t104=>(some t104)) else (some φ))) else (some φ))
theorem impl_PacketOK.calls (a0_0:Int) (a0_1:Int) (a0_2:ByteArray) (r:Bool) (w:World) (h:impl_PacketOK.f a0_0 a0_1 a0_2=some r) :
  Calls Tryz.prog 19 #[.agg #[.int .i64 a0_0,.int .i64 a0_1,.string a0_2]] w fun e w'=>e = .returned (.bool r)∧Below w.heap.size w w':=by
 have hu36:=Tryz.underlying36
 have HB:=ζa (Below.refl w.heap.size w)
 have H:((impl_within.f a0_0 1 99).bind fun t102=>(if t102=τ then ((impl_within.f a0_1 1 60).bind fun t103=>(if t103=τ then ((impl_within.f (a0_2.size:Int) 1 500).bind fun t104=>(some t104)) else (some φ))) else (some φ)))=some r:=h
 clear h
 obtain ⟨t102,A2,H⟩:=bsm H
 by_cases c3:t102=τ
 ·
  subst c3
  rw [ifT] at H
  obtain ⟨t103,A4,H⟩:=bsm H
  by_cases c5:t103=τ
  ·
   subst c5
   rw [ifT] at H
   obtain ⟨t104,A6,H⟩:=bsm H
   obtain rfl:=Option.some.inj H
   go_enter Tryz.func19,Tryz.ntmps19
   go_wp2_with (first|((with_reducible refine δx (N:=1) rfl ?_);(try (refine gate_guard (by rfl) ?_;dsimp only));refine bev 1 #[.int .i64 a0_0,.int .i64 a0_1,.string a0_2] 36 ?_;intro gb101 hg w7 hbox hb;have BK101:=ζa (hbox);have GW101:=ζa (gbw hg (by exact HB.out));have GE101:=ζa (gbw hg (by exact HB.out));replace HB:=ζa (δr (by exact HB.out) hb);clear hb hbox hg;have hcz8_0:w7.cell? ⟨gb101,0,none⟩=some (.int .i64 a0_0):=(δl BK101.out 0).trans rfl;have hcz8_1:w7.cell? ⟨gb101,1,none⟩=some (.int .i64 a0_1):=(δl BK101.out 1).trans rfl;have hcz8_2:w7.cell? ⟨gb101,2,none⟩=some (.string a0_2):=(δl BK101.out 2).trans rfl;have hfz8_0:=δm BK101.out 0;have hfz8_1:=δm BK101.out 1;have hfz8_2:=δm BK101.out 2)|((with_reducible refine δv (f:=44) rfl ?_);refine gl 5 Tryz.func44 #[.int .i64 a0_0,.int .i64 1,.int .i64 99] ?_;(with_reducible refine (impl_within.calls a0_0 1 99 τ _ A2.out).mono ?_);rintro e w' ⟨rfl,⟨nd,rfl⟩⟩;refine ⟨_,rfl,?_⟩)|(go_at_call 44;(with_reducible refine (impl_within.calls a0_1 1 60 τ _ A4.out).mono ?_);rintro e w' ⟨rfl,⟨nd,rfl⟩⟩)|(go_at_call 44;(with_reducible refine (impl_within.calls (a0_2.size:Int) 1 500 t104 _ A6.out).mono ?_);rintro e w' ⟨rfl,⟨nd,rfl⟩⟩))
   go_ret
   exact ⟨by rfl,by repeat ((with_reducible first|exact HB.out|apply δi))⟩
  ·
   replace c5:=Bool.eq_false_iff.mpr c5
   subst c5
   rw [ifF] at H
   obtain rfl:=Option.some.inj H
   go_enter Tryz.func19,Tryz.ntmps19
   go_wp2_with (first|((with_reducible refine δx (N:=1) rfl ?_);(try (refine gate_guard (by rfl) ?_;dsimp only));refine bev 1 #[.int .i64 a0_0,.int .i64 a0_1,.string a0_2] 36 ?_;intro gb101 hg w9 hbox hb;have BK101:=ζa (hbox);have GW101:=ζa (gbw hg (by exact HB.out));have GE101:=ζa (gbw hg (by exact HB.out));replace HB:=ζa (δr (by exact HB.out) hb);clear hb hbox hg;have hcz10_0:w9.cell? ⟨gb101,0,none⟩=some (.int .i64 a0_0):=(δl BK101.out 0).trans rfl;have hcz10_1:w9.cell? ⟨gb101,1,none⟩=some (.int .i64 a0_1):=(δl BK101.out 1).trans rfl;have hcz10_2:w9.cell? ⟨gb101,2,none⟩=some (.string a0_2):=(δl BK101.out 2).trans rfl;have hfz10_0:=δm BK101.out 0;have hfz10_1:=δm BK101.out 1;have hfz10_2:=δm BK101.out 2)|((with_reducible refine δv (f:=44) rfl ?_);refine gl 5 Tryz.func44 #[.int .i64 a0_0,.int .i64 1,.int .i64 99] ?_;(with_reducible refine (impl_within.calls a0_0 1 99 τ _ A2.out).mono ?_);rintro e w' ⟨rfl,⟨nd,rfl⟩⟩;refine ⟨_,rfl,?_⟩)|(go_at_call 44;(with_reducible refine (impl_within.calls a0_1 1 60 φ _ A4.out).mono ?_);rintro e w' ⟨rfl,⟨nd,rfl⟩⟩))
   go_ret
   exact ⟨by rfl,by repeat ((with_reducible first|exact HB.out|apply δi))⟩
 ·
  replace c3:=Bool.eq_false_iff.mpr c3
  subst c3
  rw [ifF] at H
  obtain rfl:=Option.some.inj H
  go_enter Tryz.func19,Tryz.ntmps19
  go_wp2_with (first|((with_reducible refine δx (N:=1) rfl ?_);(try (refine gate_guard (by rfl) ?_;dsimp only));refine bev 1 #[.int .i64 a0_0,.int .i64 a0_1,.string a0_2] 36 ?_;intro gb101 hg w11 hbox hb;have BK101:=ζa (hbox);have GW101:=ζa (gbw hg (by exact HB.out));have GE101:=ζa (gbw hg (by exact HB.out));replace HB:=ζa (δr (by exact HB.out) hb);clear hb hbox hg;have hcz12_0:w11.cell? ⟨gb101,0,none⟩=some (.int .i64 a0_0):=(δl BK101.out 0).trans rfl;have hcz12_1:w11.cell? ⟨gb101,1,none⟩=some (.int .i64 a0_1):=(δl BK101.out 1).trans rfl;have hcz12_2:w11.cell? ⟨gb101,2,none⟩=some (.string a0_2):=(δl BK101.out 2).trans rfl;have hfz12_0:=δm BK101.out 0;have hfz12_1:=δm BK101.out 1;have hfz12_2:=δm BK101.out 2)|((with_reducible refine δv (f:=44) rfl ?_);refine gl 5 Tryz.func44 #[.int .i64 a0_0,.int .i64 1,.int .i64 99] ?_;(with_reducible refine (impl_within.calls a0_0 1 99 φ _ A2.out).mono ?_);rintro e w' ⟨rfl,⟨nd,rfl⟩⟩;refine ⟨_,rfl,?_⟩))
  go_ret
  exact ⟨by rfl,by repeat ((with_reducible first|exact HB.out|apply δi))⟩


set_option maxHeartbeats 8000000
set_option maxRecDepth 100000


/-! ### slices_IndexFunc_string_string: function 127 -/
/-- slices.IndexFunc over texts,at a plain predicate that captures nothing. -/
theorem slices_IndexFunc_string_string.at_ (g:Nat) (eg : ∀ args w,(callFunc g args).run Tryz.prog w = .ok (.enter g args) w) (p:ByteArray→Bool)
  (hp : ∀ x W,Calls Tryz.prog g #[.string x] W fun e W'=>e = .returned (.bool (p x))∧Drawn0 W W')
  (A0:Option Addr) (c0:Nat) (l0:List ByteArray) (w:World) (hr0:Kd.C Kd.string w A0 l0.length l0) :
  Calls Tryz.prog 127 #[.slice A0 l0.length c0,.func (.func g) #[] #[]] w fun e w'=>(∃ r:Int,e = .returned (.int .i64 r)∧Aside0 (decide (0≤r)=l0.any p))∧Drawn0 w w':=by
 have HR0:=ζa hr0
 have hmax:l0.length≤9223372036854775807:=hr0.2.1
 clear hr0
 go_enter Tryz.func127,Tryz.ntmps127
 go_wp2
 go_loopg [5,8] l0.length (fun gg _ s8 wr => ∃ kk:Nat,kk≤l0.length∧l0.length - kk≤gg∧s8 = .int .i64 kk∧Aside0 ((l0.take kk).any p=φ)∧Drawn0 w wr)
 case atStart=>exact ⟨0,Nat.zero_le _,by omega,rfl,⟨rfl⟩,by repeat (exact Drawn0.refl _)⟩
 case round =>
  obtain ⟨kk,hkk,hg,rfl,A,⟨m1,rfl⟩⟩:=hrel
  by_cases hlt:kk<l0.length
  ·
   have hltz:(kk:Int)<(l0.length:Int):=by omega
   have p145:0≤(kk:Int):=by omega
   obtain ⟨ad145,e145,hx145_0⟩:=Kd.at_string HR0.out kk p145 hltz
   cases e145
   rw [Int.toNat_natCast] at hx145_0
   have hT:Aside0 ((l0.take (kk+1)).any p=p (rdOf ByteArray.empty l0 kk)):=⟨by
    have hx:l0[kk]? = some (rdOf ByteArray.empty l0 kk):=by
     simp only [rdOf,Int.toNat_natCast,List.getD_eq_getElem?_getD]
     rw [List.getElem?_eq_getElem hlt];rfl
    rw [List.take_add_one,hx,List.any_append,A.out];simp⟩
   generalize rdOf ByteArray.empty l0 kk=x at *
   have hcall:=hp x
   clear hp
   cases hq:p x with
   | true =>
    rw [hq] at hcall hT
    clear hq
    go_wp2_with (go_at_fn g;refine (hcall _).mono ?_;rintro e w' ⟨rfl,⟨q',rfl⟩⟩)
    go_ret
    refine ⟨⟨_,rfl,⟨?_⟩⟩,by repeat (first|exact Drawn0.refl _|apply Drawn0.step)⟩
    have h2:l0.any p=τ:=by
     have:=hT.out
     rw [← List.take_append_drop (kk+1) l0,List.any_append,this];rfl
    rw [h2];simp
   | false =>
    rw [hq] at hcall hT
    clear hq
    go_wp2_with (go_at_fn g;refine (hcall _).mono ?_;rintro e w' ⟨rfl,⟨q',rfl⟩⟩)
    go_roundg (l0.length - (kk+1))
    case measure=>omega
    case rel=>exact ⟨kk+1,by omega,by omega,by go_num,hT,by repeat (first|exact Drawn0.refl _|apply Drawn0.step)⟩
  ·
   have hltz : ¬ (kk:Int)<(l0.length:Int):=by omega
   have hkl:Aside0 (kk=l0.length):=⟨by omega⟩
   go_wp2
   go_ret
   refine ⟨⟨_,rfl,⟨?_⟩⟩,by repeat (first|exact Drawn0.refl _|apply Drawn0.step)⟩
   have:=A.out
   rw [hkl.out,List.take_length] at this
   rw [this];rfl


set_option maxHeartbeats 8000000
set_option maxRecDepth 100000


/-! ### slices_ContainsFunc_string_string: function 88 -/
theorem slices_ContainsFunc_string_string.at_ (g:Nat) (eg : ∀ args w,(callFunc g args).run Tryz.prog w = .ok (.enter g args) w) (p:ByteArray→Bool)
  (hp : ∀ x W,Calls Tryz.prog g #[.string x] W fun e W'=>e = .returned (.bool (p x))∧Drawn0 W W')
  (A0:Option Addr) (c0:Nat) (l0:List ByteArray) (w:World) (hr0:Kd.C Kd.string w A0 l0.length l0) :
  Calls Tryz.prog 88 #[.slice A0 l0.length c0,.func (.func g) #[] #[]] w fun e w'=>e = .returned (.bool (l0.any p))∧Drawn0 w w':=by
 go_enter Tryz.func88,Tryz.ntmps88
 go_wp2_with (go_at_call 127;refine (slices_IndexFunc_string_string.at_ g eg p hp A0 c0 l0 _ hr0).mono ?_;rintro e w' ⟨⟨r,rfl,hr⟩,⟨q',rfl⟩⟩)
 go_ret
 exact ⟨by rw [← hr.out];rfl,by repeat (first|exact Drawn0.refl _|apply Drawn0.step)⟩


set_option maxHeartbeats 8000000
set_option maxRecDepth 100000


/-! ### impl_isText: function 53 -/
def impl_isText.f (l0:List ByteArray):Option Bool:=some (!(l0.any fun t=>decide ((t.size:Int) > 65536)))
theorem impl_isText.lit (a0:ByteArray) (w:World) :
  Calls Tryz.prog 89 #[.string a0] w fun e w'=>e = .returned (.bool (decide ((a0.size:Int) > 65536)))∧Drawn0 w w':=by
 go_enter Tryz.func89,Tryz.ntmps89
 go_wp2
 go_ret
 exact ⟨by rfl,by repeat (exact Drawn0.refl _)⟩
theorem impl_isText.calls (A0:Option Addr) (c0:Nat) (l0:List ByteArray) (r:Bool) (w:World) (hr0:Kd.C Kd.string w A0 l0.length l0) (hc0:l0.length≤c0) (h:impl_isText.f l0=some r) :
  Calls Tryz.prog 53 #[.slice A0 l0.length c0] w fun e w'=>e = .returned (.bool r)∧Drawn0 w w':=by
 obtain rfl:=Option.some.inj h
 go_enter Tryz.func53,Tryz.ntmps53
 go_wp2_with (go_at_call 88;refine (slices_ContainsFunc_string_string.at_ 89 (enters_of Tryz.func89 (by kernel_rfl) rfl) _ impl_isText.lit A0 c0 l0 _ hr0).mono ?_;rintro e w' ⟨rfl,⟨q',rfl⟩⟩)
 go_ret
 exact ⟨rfl,by repeat (first|exact Drawn0.refl _|apply Drawn0.step)⟩


set_option maxHeartbeats 8000000
set_option maxRecDepth 100000

/-! ### impl_isList_impl_Pair: function 54 -/
def impl_isList_impl_Pair.f (l0:List (S61)):Option (Bool):=some (decide ((l0.length:Int)≤4096))
theorem impl_isList_impl_Pair.calls (A0:Option Addr) (c0:Nat) (l0:List (S61)) (r:Bool) (w:World) (hr0:Kd.C k61 w A0 l0.length l0) (hc0:l0.length≤c0) (h:impl_isList_impl_Pair.f l0=some r) :
  Calls Tryz.prog 54 #[.slice A0 l0.length c0] w fun e w'=>e = .returned (.bool r)∧Drawn0 w w':=by
 have HR0:=ζa hr0
 have HC0:=ζa hc0
 clear hr0 hc0
 have H:(some (decide ((l0.length:Int)≤4096)))=some r:=h
 clear h
 obtain rfl:=Option.some.inj H
 go_enter Tryz.func54,Tryz.ntmps54
 go_wp2
 go_ret
 exact ⟨by rfl,by repeat (exact Drawn0.refl _)⟩


open Go.Proofs.YtggemblkhckbpaaGreatDoorW.PrintWords renaming gate_callee → δv
set_option maxHeartbeats 8000000
set_option maxRecDepth 100000

/-! ### impl_isKey: function 42 -/
def impl_isKey.f (a0:ByteArray):Option (Bool):=(impl_within.f (a0.size:Int) 1 60).bind fun t105=>(some t105)
theorem impl_isKey.calls (a0:ByteArray) (r:Bool) (w:World) (h:impl_isKey.f a0=some r) :
  Calls Tryz.prog 42 #[.string a0] w fun e w'=>e = .returned (.bool r)∧Drawn0 w w':=by
 have H:((impl_within.f (a0.size:Int) 1 60).bind fun t105=>(some t105))=some r:=h
 clear h
 obtain ⟨t105,A2,H⟩:=bsm H
 obtain rfl:=Option.some.inj H
 go_enter Tryz.func42,Tryz.ntmps42
 go_wp2_with (((with_reducible refine δv (f:=44) rfl ?_);refine gl 5 Tryz.func44 #[.int .i64 (a0.size:Int),.int .i64 1,.int .i64 60] ?_;(with_reducible refine (impl_within.calls (a0.size:Int) 1 60 t105 _ A2.out).mono ?_);rintro e w' ⟨rfl,⟨nd,rfl⟩⟩;refine ⟨_,rfl,?_⟩))
 go_ret
 exact ⟨by rfl,by repeat (first|exact Drawn0.refl _|apply Drawn0.step)⟩


set_option maxHeartbeats 8000000
set_option maxRecDepth 100000

/-! ### impl_isValue: function 90 -/
def impl_isValue.f (a0:ByteArray):Option (Bool):=some (decide ((a0.size:Int)≤1000))
theorem impl_isValue.calls (a0:ByteArray) (r:Bool) (w:World) (h:impl_isValue.f a0=some r) :
  Calls Tryz.prog 90 #[.string a0] w fun e w'=>e = .returned (.bool r)∧Drawn0 w w':=by
 have H:(some (decide ((a0.size:Int)≤1000)))=some r:=h
 clear h
 obtain rfl:=Option.some.inj H
 go_enter Tryz.func90,Tryz.ntmps90
 go_wp2
 go_ret
 exact ⟨by rfl,by repeat (exact Drawn0.refl _)⟩


open Go.RowKit renaming wrap64 → ζm
open Go.Proofs.YtggemblkhckbpaaGreatDoorW.PrintWords renaming below_alloc → δk, pw_below_drewN → δi, below_drew1 → δj
set_option maxHeartbeats 8000000
set_option maxRecDepth 100000


/-! ### impl_StoreOK: function 56 -/
def impl_StoreOK.l0:Nat→List (S61)→List (S61)→Int→Int→Option (Bool)
 | 0,_,_,_,_=>none
 | k+1,x0,x5,x6,x7=>if x7<x6 then (if 0≤x7 then (if x7<(x5.length:Int) then ((impl_isKey.f ((rd_T61 x5 x7).f0)).bind fun t137=>(if t137=τ then ((impl_isValue.f ((rd_T61 x5 x7).f1)).bind fun t138=>(if t138=τ then (if x7 > 0 then (if 0≤(ζm (x7 - 1)) then (if (ζm (x7 - 1))<(x0.length:Int) then (if ((Op.bytesLess (((rd_T61 x0 (ζm (x7 - 1))).f0).toList) (((rd_T61 x5 x7).f0).toList))=τ) then (impl_StoreOK.l0 k x0 x5 x6 (ζm (x7+1))) else (some φ)) else (none)) else (none)) else (impl_StoreOK.l0 k x0 x5 x6 (ζm (x7+1)))) else (some φ))) else (some φ))) else (none)) else (none)) else (some (decide ((x0.length:Int)≤400)))
def impl_StoreOK.f (k:Nat) (l0:List (S61)):Option (Bool):=impl_StoreOK.l0 k l0 l0 (l0.length:Int) 0
theorem impl_StoreOK.geq (t:TypeId) (a b:ByteArray):binOp .geq t (.string a) (.string b)=pure (.bool !(Op.bytesLess a.toList b.toList)):=by simp [binOp,Op.stringOp]
attribute [local go_sem] impl_StoreOK.geq
theorem impl_StoreOK.calls (k:Nat) (A0:Option Addr) (c0:Nat) (l0:List (S61)) (r:Bool) (w:World) (hr0:Kd.C k61 w A0 l0.length l0) (hc0:l0.length≤c0) (h:impl_StoreOK.f k l0=some r) :
  Calls Tryz.prog 56 #[.slice A0 l0.length c0] w fun e w'=>e = .returned (.bool r)∧Below w.heap.size w w':=by
 have hu78:=Tryz.underlying61
 have HR0:=ζa hr0
 clear hr0 hc0
 have HB:=ζa (Below.refl w.heap.size w)
 have H':=ζa (show impl_StoreOK.l0 k l0 l0 (l0.length:Int) 0=some r from h)
 clear h
 go_enter Tryz.func56,Tryz.ntmps56
 go_wp2
 go_loopg [7] k (fun kq v7 w' => ∃ i:Int,v7 = .int .i64 i∧Aside0 (impl_StoreOK.l0 kq l0 l0 (l0.length:Int) i=some r)∧Aside0 (kq≤k)∧Aside0 (Below w.heap.size w w'))
 case atStart=>exact ⟨0,(by rfl),H',⟨Nat.le_refl _⟩,HB⟩
 case round =>
  clear H' HB
  obtain ⟨i,rfl,HA,HK1,HB⟩:=hrel
  cases gk with
  | zero=>exact absurd HA.out (by simp [impl_StoreOK.l0])
  | succ k1 =>
   have H:=HA.out
   clear HA
   simp only [impl_StoreOK.l0] at H
   by_cases c2:i<(l0.length:Int)
   ·
    rw [if_pos c2] at H
    have c2b0:=decide_eq_true c2
    by_cases c3:0≤i
    ·
     rw [if_pos c3,if_pos c2] at H
     obtain ⟨ad,e1,hx0,hx1⟩:=at_T61 HR0.out i c3 c2
     cases e1
     replace hx0:=(HB.out.cell (World.block_lt_of_cell? w _ hx0)).trans hx0
     replace hx1:=(HB.out.cell (World.block_lt_of_cell? w _ hx1)).trans hx1
     obtain ⟨b1,h1,H⟩:=Option.bind_eq_some_iff.mp H
     have A5:=ζa h1
     clear h1
     have prev:0<i → ∃ s t:ByteArray,s=(rd_T61 l0 (i - 1)).f0∧w.cell? (ad.add ((i - 1).toNat * 2))=some (.string s)∧t=s:=fun hp=>by
      obtain ⟨ad2,e2,hy0,_⟩:=at_T61 HR0.out (i - 1) (by omega) (by omega)
      obtain rfl:ad=ad2:=by injection e2
      exact ⟨_,_,rfl,hy0,rfl⟩
     have PV:=ζa prev
     clear prev
     have c3b:decide (0≤i)=τ:=decide_eq_true c3
     go_upto_region 4 with (fail)
     have hcz0:(wr.alloc (.cells #[.string (rd_T61 l0 i).f0,.string (rd_T61 l0 i).f1] 61 (0,0))).cell? ⟨wr.heap.size,0,none⟩=some (.string (rd_T61 l0 i).f0):=(World.cell?_alloc_mark wr _ 61 (0,0) 0).trans rfl
     have hcz1:(wr.alloc (.cells #[.string (rd_T61 l0 i).f0,.string (rd_T61 l0 i).f1] 61 (0,0))).cell? ⟨wr.heap.size,1,none⟩=some (.string (rd_T61 l0 i).f1):=(World.cell?_alloc_mark wr _ 61 (0,0) 1).trans rfl
     have PV2:Aside0 (0<i → ∃ s:ByteArray,s=(rd_T61 l0 (i - 1)).f0∧(wr.alloc (.cells #[.string (rd_T61 l0 i).f0,.string (rd_T61 l0 i).f1] 61 (0,0))).cell? (ad.add ((i - 1).toNat * 2))=some (.string s)):=⟨fun hp=>by
      obtain ⟨s,_,hs,hy,_⟩:=PV.out hp
      exact ⟨s,hs,((HB.out.alloc (HB.out.size) _).cell (World.block_lt_of_cell? w _ hy)).trans hy⟩⟩
     have HB2:=ζa (HB.out.alloc (HB.out.size) (.cells #[.string (rd_T61 l0 i).f0,.string (rd_T61 l0 i).f1] 61 (0,0)))
     clear HB PV hx0 hx1
     generalize wr.alloc (.cells #[.string (rd_T61 l0 i).f0,.string (rd_T61 l0 i).f1] 61 (0,0))=W4 at *
     generalize wr.heap.size=gb at *
     clear c3
     cases b1 with
     | false =>
      obtain rfl:=Option.some.inj H
      go_quiet ((go_at_call 42;(with_reducible refine (impl_isKey.calls _ _ _ A5.out).mono ?_);rintro e w' ⟨rfl,⟨nd,rfl⟩⟩;(try exact ⟨rfl,_,World.drewN_drewN _ _ _⟩)))
      go_wp2
      go_ret
      exact ⟨rfl,by repeat (first|(with_reducible first|exact HB2.out|apply δk|apply δi|apply δj)|exact HB2.out)⟩
     | true =>
      rw [if_pos rfl] at H
      obtain ⟨b2,h2,H⟩:=Option.bind_eq_some_iff.mp H
      have A6:=ζa h2
      clear h2
      cases b2 with
      | false =>
       obtain rfl:=Option.some.inj H
       go_quiet (first|(go_at_call 42;(with_reducible refine (impl_isKey.calls _ _ _ A5.out).mono ?_);rintro e w' ⟨rfl,⟨nd,rfl⟩⟩;(try exact ⟨rfl,_,World.drewN_drewN _ _ _⟩))|(go_at_call 90;(with_reducible refine (impl_isValue.calls _ _ _ A6.out).mono ?_);rintro e w' ⟨rfl,⟨nd,rfl⟩⟩;(try exact ⟨rfl,_,World.drewN_drewN _ _ _⟩)))
       go_wp2
       go_ret
       exact ⟨rfl,by repeat (first|(with_reducible first|exact HB2.out|apply δk|apply δi|apply δj)|exact HB2.out)⟩
      | true =>
       rw [if_pos rfl] at H
       have hmax:(l0.length:Int)≤9223372036854775807:=by have:=Kd.C_max HR0.out;omega
       have hmx:=ζa hmax
       clear hmax
       by_cases c4:i > 0
       ·
        have hw1:IntKind.i64.wrap (i - 1)=i - 1:=IntWalk.i64_in _ (by have:=hmx.out;omega)
        have hw2:ζm (i - 1)=i - 1:=IntWalk.wrap64_in _ (by have:=hmx.out;omega)
        rw [if_pos c4,hw2,if_pos (by omega),if_pos (by omega)] at H
        obtain ⟨s,hs,hy⟩:=PV2.out c4
        rw [← hs] at H
        have c4b0:=decide_eq_true c4
        have c4b1:decide (0<i)=τ:=decide_eq_true c4
        have c5:0≤i - 1:=by omega
        have c6:i - 1<(l0.length:Int):=by omega
        clear c4 PV2 hs c2 hw2
        obtain ⟨j,hj⟩ : ∃ j,j=i - 1:=⟨_,rfl⟩
        rw [← hj] at hy c5 c6
        replace hw1:=hw1.trans hj.symm
        clear hj
        have c5b:decide (0≤j)=τ:=decide_eq_true c5
        have c6b:decide (j<(l0.length:Int))=τ:=decide_eq_true c6
        cases hb:Op.bytesLess s.toList ((rd_T61 l0 i).f0).toList with
        | false =>
         rw [hb] at H
         obtain rfl:=Option.some.inj H
         go_quiet (first|(go_at_call 42;(with_reducible refine (impl_isKey.calls _ _ _ A5.out).mono ?_);rintro e w' ⟨rfl,⟨nd,rfl⟩⟩;(try exact ⟨rfl,_,World.drewN_drewN _ _ _⟩))|(go_at_call 90;(with_reducible refine (impl_isValue.calls _ _ _ A6.out).mono ?_);rintro e w' ⟨rfl,⟨nd,rfl⟩⟩;(try exact ⟨rfl,_,World.drewN_drewN _ _ _⟩)))
         go_wp2
         go_ret
         exact ⟨rfl,by repeat (first|(with_reducible first|exact HB2.out|apply δk|apply δi|apply δj)|exact HB2.out)⟩
        | true =>
         rw [hb,if_pos rfl] at H
         have HN:=ζa H
         clear H
         go_quiet (first|(go_at_call 42;(with_reducible refine (impl_isKey.calls _ _ _ A5.out).mono ?_);rintro e w' ⟨rfl,⟨nd,rfl⟩⟩;(try exact ⟨rfl,_,World.drewN_drewN _ _ _⟩))|(go_at_call 90;(with_reducible refine (impl_isValue.calls _ _ _ A6.out).mono ?_);rintro e w' ⟨rfl,⟨nd,rfl⟩⟩;(try exact ⟨rfl,_,World.drewN_drewN _ _ _⟩)))
         go_wp2
         go_roundg k1
         case measure=>omega
         case rel=>exact ⟨_,rfl,HN,⟨by have:=HK1.out;omega⟩,⟨by repeat ((with_reducible first|exact HB2.out|apply δi))⟩⟩
       ·
        rw [if_neg c4] at H
        have c4b0:=decide_eq_false c4
        have c4b1:decide (0<i)=φ:=decide_eq_false c4
        clear c4 c2 PV2
        have HN:=ζa H
        clear H
        go_quiet (first|(go_at_call 42;(with_reducible refine (impl_isKey.calls _ _ _ A5.out).mono ?_);rintro e w' ⟨rfl,⟨nd,rfl⟩⟩;(try exact ⟨rfl,_,World.drewN_drewN _ _ _⟩))|(go_at_call 90;(with_reducible refine (impl_isValue.calls _ _ _ A6.out).mono ?_);rintro e w' ⟨rfl,⟨nd,rfl⟩⟩;(try exact ⟨rfl,_,World.drewN_drewN _ _ _⟩)))
        go_wp2
        go_roundg k1
        case measure=>omega
        case rel=>exact ⟨_,rfl,HN,⟨by have:=HK1.out;omega⟩,⟨by repeat ((with_reducible first|exact HB2.out|apply δi))⟩⟩
    ·
     rw [if_neg c3] at H
     exact absurd H (by simp)
   ·
    rw [if_neg c2] at H
    have c2b0:=decide_eq_false c2
    clear c2
    obtain rfl:=Option.some.inj H
    go_wp2
    go_ret
    exact ⟨by rfl,HB.out⟩


open Go.Proofs.YtggemblkhckbpaaGreatDoorW.PrintWords renaming gate_callee → δv, pw_below_drewN → δi, below_step → δr
set_option maxHeartbeats 8000000
set_option maxRecDepth 100000

/-! ### impl_storeCode: function 33 -/
def impl_storeCode.j0:Nat→List (S61)→Bool→Option (Int)
 | 0,_,_=>none
 | k+1,x0,x5=>if x5=τ then (some 2) else ((impl_StoreOK.f k x0).bind fun t108=>(if t108=τ then (some 0) else (some 1)))
def impl_storeCode.f (k:Nat) (l0:List (S61)) (l1:List ByteArray):Option (Int):=(impl_isList_impl_Pair.f l0).bind fun t106=>(if t106=τ then ((impl_isText.f l1).bind fun t107=>(impl_storeCode.j0 k l0 (!t107))) else (impl_storeCode.j0 k l0 τ))
theorem impl_storeCode.calls (k:Nat) (A0:Option Addr) (c0:Nat) (l0:List (S61)) (A1:Option Addr) (c1:Nat) (l1:List ByteArray) (r:Int) (w:World) (hr0:Kd.C k61 w A0 l0.length l0) (hc0:l0.length≤c0) (hr1:Kd.C Kd.string w A1 l1.length l1) (hc1:l1.length≤c1) (h:impl_storeCode.f k l0 l1=some r) :
  Calls Tryz.prog 33 #[.slice A0 l0.length c0,.slice A1 l1.length c1] w fun e w'=>e = .returned (.int .i64 r)∧Below w.heap.size w w':=by
 have HR0:=ζa hr0
 have HC0:=ζa hc0
 clear hr0 hc0
 have HR1:=ζa hr1
 have HC1:=ζa hc1
 clear hr1 hc1
 have HB:=ζa (Below.refl w.heap.size w)
 have H:((impl_isList_impl_Pair.f l0).bind fun t106=>(if t106=τ then ((impl_isText.f l1).bind fun t107=>(impl_storeCode.j0 k l0 (!t107))) else (impl_storeCode.j0 k l0 τ)))=some r:=h
 clear h
 have HC3:=ζa H
 clear H
 go_enter Tryz.func33,Tryz.ntmps33
 go_upto_region 1 with (fail)
 go_cut [5] (fun v5 wc => ∃ (kq:Nat) (x5_2:Bool),v5 = .bool x5_2∧Aside0 (impl_storeCode.j0 kq l0 x5_2=some r)∧Aside0 (kq≤k)∧Aside0 (Below w.heap.size w wc))
 case first =>
  have H:=HC3.out
  clear HC3
  obtain ⟨t106,A4,H⟩:=bsm H
  by_cases c5:t106=τ
  ·
   subst c5
   rw [ifT] at H
   obtain ⟨t107,A6,H⟩:=bsm H
   have H':=ζa H
   clear H
   go_wp2_with (first|((with_reducible refine δv (f:=54) rfl ?_);refine gl 7 Tryz.func54 #[.slice A0 l0.length c0] ?_;(with_reducible refine (impl_isList_impl_Pair.calls _ _ l0 τ _ ?side1 ?side2 A4.out).mono ?_);(case side1=>repeat (exact (Kd.C_below HR0.out HB.out)));(case side2=>exact HC0.out);rintro e w' ⟨rfl,⟨nd,rfl⟩⟩;refine ⟨_,rfl,?_⟩)|(go_at_call 53;(with_reducible refine (impl_isText.calls _ _ l1 t107 _ ?side1 ?side2 A6.out).mono ?_);(case side1=>repeat (exact (Kd.C_below HR1.out (by repeat ((with_reducible first|exact HB.out|apply δi))))));(case side2=>exact HC1.out);rintro e w' ⟨rfl,⟨nd,rfl⟩⟩))
   go_meet
   case rel=>exact ⟨_,(!t107),(by rfl),H',⟨by omega⟩,⟨by repeat ((with_reducible first|exact HB.out|apply δi))⟩⟩
  ·
   replace c5:=Bool.eq_false_iff.mpr c5
   subst c5
   rw [ifF] at H
   have H':=ζa H
   clear H
   go_wp2_with (((with_reducible refine δv (f:=54) rfl ?_);refine gl 7 Tryz.func54 #[.slice A0 l0.length c0] ?_;(with_reducible refine (impl_isList_impl_Pair.calls _ _ l0 φ _ ?side1 ?side2 A4.out).mono ?_);(case side1=>repeat (exact (Kd.C_below HR0.out HB.out)));(case side2=>exact HC0.out);rintro e w' ⟨rfl,⟨nd,rfl⟩⟩;refine ⟨_,rfl,?_⟩))
   go_meet
   case rel=>exact ⟨_,(τ),(by rfl),H',⟨by omega⟩,⟨by repeat ((with_reducible first|exact HB.out|apply δi))⟩⟩
 case rest =>
  clear HC3
  try clear c1
  try clear p2
  try clear c3
  try clear c5
  obtain ⟨kq,x5_2,rfl,HA,HJ2,HB⟩:=hcut
  cases kq with
  | zero=>exact absurd HA.out (by simp [impl_storeCode.j0])
  | succ kj2 =>
   have H:=HA.out
   clear HA
   simp only [impl_storeCode.j0] at H
   by_cases c7:x5_2=τ
   ·
    subst c7
    rw [ifT] at H
    obtain rfl:=Option.some.inj H
    go_wp2
    go_ret
    exact ⟨by rfl,by repeat ((with_reducible exact HB.out))⟩
   ·
    replace c7:=Bool.eq_false_iff.mpr c7
    subst c7
    rw [ifF] at H
    obtain ⟨t108,A8,H⟩:=bsm H
    by_cases c9:t108=τ
    ·
     subst c9
     rw [ifT] at H
     obtain rfl:=Option.some.inj H
     go_wp2_with (((with_reducible refine δv (f:=56) rfl ?_);refine gl 16 Tryz.func56 #[.slice A0 l0.length c0] ?_;(with_reducible refine (impl_StoreOK.calls kj2 _ _ l0 τ _ ?side1 ?side2 A8.out).mono ?_);(case side1=>repeat (exact (Kd.C_below HR0.out HB.out)));(case side2=>exact HC0.out);rintro e w10 ⟨rfl,hb⟩;refine ⟨_,rfl,?_⟩;replace HB:=ζa (δr (by exact HB.out) hb);(try clear hb);(try clear hb2);(try clear hk);(try clear hi)))
     go_ret
     exact ⟨by rfl,by repeat ((with_reducible exact HB.out))⟩
    ·
     replace c9:=Bool.eq_false_iff.mpr c9
     subst c9
     rw [ifF] at H
     obtain rfl:=Option.some.inj H
     go_wp2_with (((with_reducible refine δv (f:=56) rfl ?_);refine gl 16 Tryz.func56 #[.slice A0 l0.length c0] ?_;(with_reducible refine (impl_StoreOK.calls kj2 _ _ l0 φ _ ?side1 ?side2 A8.out).mono ?_);(case side1=>repeat (exact (Kd.C_below HR0.out HB.out)));(case side2=>exact HC0.out);rintro e w11 ⟨rfl,hb⟩;refine ⟨_,rfl,?_⟩;replace HB:=ζa (δr (by exact HB.out) hb);(try clear hb);(try clear hb2);(try clear hk);(try clear hi)))
     go_ret
     exact ⟨by rfl,by repeat ((with_reducible exact HB.out))⟩


open Go.Proofs.YtggemblkhckbpaaGreatDoorW.PrintWords renaming gate_dst → δx
set_option maxHeartbeats 8000000
set_option maxRecDepth 100000


/-! ### slices_Clone_impl_Pair_impl_Pair: function 58 -/
def slices_Clone_impl_Pair_impl_Pair.f (l0:List (S61)):Option (List (S61)):=if l0.length≤4398046511104 then some l0 else none
theorem slices_Clone_impl_Pair_impl_Pair.some_ (ad:Addr) (c0:Nat) (l0:List (S61)) (w:World) (hr0:Kd.C k61 w (some ad) l0.length l0) (hl:l0.length * 32≤140737488355328) :
  Calls Tryz.prog 58 #[.slice (some ad) l0.length c0] w fun e w' => ∃ v0_:Value,e = .returned (v0_)∧Kd.R k61 61 w' w.heap.size (fun _=>True) v0_ l0∧Below w.heap.size w w':=by
 have HR:=ζa hr0
 have HL:=ζa hl
 clear hr0 hl
 have q : ∀ (w:World),(binOp .eql 25 (.slice (some ad) l0.length c0) (.slice none 0 0)).run Tryz.prog w = .ok (.bool φ) w:=fun w=>Lib.run_eql_slice_nil w 25 61 (some ad) l0.length c0 0 0 Tryz.underlying25
 go_enter Tryz.func58,Tryz.ntmps58
 go_wp2_with (first
  | ((with_reducible refine δx (N:=5) rfl ?_);refine Kd.R_lit k61 _ 61 ?hg (N:=5) ?hd (xs:=([]:List S61)) (inner:=[]) (ok:=fun _=>True) (okp:=fun _=>True) ?hr ?hp (fun _ hk=>hk) trivial (Below.refl _ _) (Nat.le_refl _) (by simp) ?_;(case hd=>rfl);(case hg=>rfl);(case hr=>first|(go_simp;done)|(go_simp;rfl));(case hp=>exact (Reps.none _ _));intro v5 w5 ho5 hb5 hg_ hnew_;clear hg_ hnew_;have HO:=ζa ho5;have HB:=ζa hb5;clear ho5 hb5)
  | ((with_reducible refine δx (N:=7) rfl ?_);refine Kd.R_append_rows (w0:=w) (Rr:=k61.K w5) k61 w.heap.size ?hg (.tmp 5) (.tmp 6) 25 61 (.agg #[(.string ⟨#[]⟩),(.string ⟨#[]⟩)]) 32 rfl Tryz.underlying25 info61 rfl (by decide) (by decide) v5 [] l0 (some ad) l0.length c0 (fun _=>True) (fun _=>False) rfl rfl HO.out (Kd.C_below HR.out HB.out) (fun x cs h=>by rw [k61_open h];exact k61_mkM _ _ _ x) (fun _ h=>h.elim) (fun _ _=>trivial) HB.out HB.out.size (by have:=HL.out;simpa using this) ?_;(case hg=>rfl);intro v7 w7 ho7 hb7 hg_ hnew_;clear hg_ hnew_;have HO7:=ζa ho7;have HB7:=ζa hb7;clear ho7 hb7))
 go_ret
 exact ⟨_,rfl,HO7.out,HB7.out⟩
theorem slices_Clone_impl_Pair_impl_Pair.none_ (n c0:Nat) (w:World) :
  Calls Tryz.prog 58 #[.slice none n c0] w fun e w'=>e = .returned (.slice none 0 0)∧w=w':=by
 have q : ∀ (w:World),(binOp .eql 25 (.slice none n c0) (.slice none 0 0)).run Tryz.prog w = .ok (.bool τ) w:=fun w=>Lib.run_eql_slice_nil w 25 61 none n c0 0 0 Tryz.underlying25
 go_enter Tryz.func58,Tryz.ntmps58
 go_wp2
 go_ret
 exact ⟨rfl,rfl⟩
theorem slices_Clone_impl_Pair_impl_Pair.calls (A0:Option Addr) (c0:Nat) (l0:List (S61)) (r:List (S61)) (w:World) (hr0:Kd.C k61 w A0 l0.length l0) (hc0:l0.length≤c0) (h:slices_Clone_impl_Pair_impl_Pair.f l0=some r) :
  Calls Tryz.prog 58 #[.slice A0 l0.length c0] w fun e w' => ∃ v0_:Value,e = .returned (v0_)∧Kd.R k61 61 w' w.heap.size (fun _=>True) v0_ r∧Below w.heap.size w w':=by
 unfold slices_Clone_impl_Pair_impl_Pair.f at h
 by_cases hl:l0.length≤4398046511104
 ·
  rw [if_pos hl] at h
  obtain rfl:=Option.some.inj h
  cases A0 with
  | some ad=>exact slices_Clone_impl_Pair_impl_Pair.some_ ad c0 l0 w hr0 (by omega)
  | none =>
   have h0:l0.length=0:=by
    rcases Nat.eq_zero_or_pos l0.length with h0|h0
    · exact h0
    ·
     obtain ⟨ad,h,_⟩:=hr0.2.2 h0
     cases h
   obtain rfl:l0 = []:=List.eq_nil_of_length_eq_zero h0
   refine (slices_Clone_impl_Pair_impl_Pair.none_ _ c0 w).mono ?_
   rintro e w' ⟨rfl,rfl⟩
   exact ⟨_,rfl,Kd.R_nil _ _ _ _ _,Below.refl _ _⟩
 · rw [if_neg hl] at h;cases h




/-! ### strings_Compare: function 125 -/
def strings_Compare.f (a0 : ByteArray) (a1 : ByteArray) : Option Int := some (Lib.compareBytes a0.data.toList a1.data.toList)
theorem strings_Compare.calls (a0 : ByteArray) (a1 : ByteArray) (r : Int) (w : World) (h : strings_Compare.f a0 a1 = some r) :
    Calls Tryz.prog 125 #[.string a0, .string a1] w fun e w' => e = .returned (.int .i64 r) ∧ Drawn0 w w' := by
  obtain rfl := Option.some.inj h
  refine (Tryz.strings_Compare a0 a1 w).mono ?_
  rintro e w' ⟨rfl, rfl⟩
  exact ⟨rfl, Drawn0.refl _⟩


set_option maxHeartbeats 8000000
set_option maxRecDepth 100000

/-! ### impl_pairAt_1: function 124 -/
def impl_pairAt_1.f (a0_0:ByteArray) (a0_1:ByteArray) (a1:ByteArray):Option (Int):=(strings_Compare.f a0_0 a1).bind fun t110=>(some t110)
theorem impl_pairAt_1.calls (a0_0:ByteArray) (a0_1:ByteArray) (a1:ByteArray) (r:Int) (w:World) (h:impl_pairAt_1.f a0_0 a0_1 a1=some r) :
  Calls Tryz.prog 124 #[.agg #[.string a0_0,.string a0_1],.string a1] w fun e w'=>e = .returned (.int .i64 r)∧Below w.heap.size w w':=by
 have hu61:=Tryz.underlying61
 have HB:=ζa (Below.refl w.heap.size w)
 have H:((strings_Compare.f a0_0 a1).bind fun t110=>(some t110))=some r:=h
 clear h
 obtain ⟨t110,A3,H⟩:=bsm H
 obtain rfl:=Option.some.inj H
 go_enter Tryz.func124,Tryz.ntmps124
 go_wp2_with (first|((with_reducible refine δx (N:=2) rfl ?_);refine bev 2 #[.string a0_0,.string a0_1] 61 ?_;intro gb109 hg w4 hbox hb;have BK109:=ζa (hbox);have GW109:=ζa (gbw hg (by exact HB.out));have GE109:=ζa (gbw hg (by exact HB.out));replace HB:=ζa (δr (by exact HB.out) hb);clear hb hbox hg;have hcz5_0:w4.cell? ⟨gb109,0,none⟩=some (.string a0_0):=(δl BK109.out 0).trans rfl;have hcz5_1:w4.cell? ⟨gb109,1,none⟩=some (.string a0_1):=(δl BK109.out 1).trans rfl;have hfz5_0:=δm BK109.out 0;have hfz5_1:=δm BK109.out 1)|((with_reducible refine δv (f:=125) rfl ?_);refine gl 8 Tryz.func125 #[.string a0_0,.string a1] ?_;(with_reducible refine (strings_Compare.calls a0_0 a1 t110 _ A3.out).mono ?_);rintro e w' ⟨rfl,⟨nd,rfl⟩⟩;refine ⟨_,rfl,?_⟩))
 go_ret
 exact ⟨by rfl,by repeat ((with_reducible first|exact HB.out|apply δi))⟩


open Go.Proofs.YtggemblkhckbpaaGreatDoorW.PrintWords renaming below_step → δr
set_option maxHeartbeats 8000000
set_option maxRecDepth 100000


/-! ### impl_pairAt: function 83 -/
def impl_pairAt.l0:Nat→List S61→ByteArray→Int→Int→Option Int
 | 0,_,_,_,_=>none
 | k+1,l,key,i,j=>if i<j then (if 0≤(i+j) / 2 then (if (i+j) / 2<(l.length:Int) then (if Lib.compareBytes ((rd_T61 l ((i+j) / 2)).f0).data.toList key.data.toList<0 then (impl_pairAt.l0 k l key ((i+j) / 2+1) j) else (impl_pairAt.l0 k l key i ((i+j) / 2))) else none) else none) else some i
def impl_pairAt.hit (l:List S61) (key:ByteArray) (r:Int):Bool:=decide (r<(l.length:Int)) && (Lib.compareBytes ((rd_T61 l r).f0).data.toList key.data.toList == 0)
def impl_pairAt.f (k:Nat) (l0:List S61) (a1:ByteArray):Option (Int × Bool):=(impl_pairAt.l0 k l0 a1 0 (l0.length:Int)).bind fun r=>if (l0.length:Int)<1000000000000 then (if 0≤r then (if r≤(l0.length:Int) then some (r,impl_pairAt.hit l0 a1 r) else none) else none) else none
theorem impl_pairAt.lit (x:S61) (key:ByteArray) (w:World) :
  Calls Tryz.prog 124 #[.agg #[.string x.f0,.string x.f1],.string key] w fun e w'=>e = .returned (.int .i64 (Lib.compareBytes x.f0.data.toList key.data.toList))∧Below w.heap.size w w' :=
 impl_pairAt_1.calls x.f0 x.f1 key _ w rfl
theorem impl_pairAt.search (k:Nat) (A0:Option Addr) (c0:Nat) (l0:List S61) (key:ByteArray) (r:Int) (w:World) (hr0:Kd.C k61 w A0 l0.length l0)
  (h:impl_pairAt.l0 k l0 key 0 (l0.length:Int)=some r) (hlen:(l0.length:Int)<1000000000000) (hr:0≤r) (hr':r≤(l0.length:Int)) :
  Calls Tryz.prog 123 #[.slice A0 l0.length c0,.string key,.func (.func 124) #[] #[]] w fun e w'=>e = .returned (.tuple #[.int .i64 r,.bool (impl_pairAt.hit l0 key r)])∧Below w.heap.size w w':=by
 have HR0:=ζa hr0
 have HB:=ζa (Below.refl w.heap.size w)
 clear hr0
 have H':=ζa h
 clear h
 go_enter Tryz.func123,Tryz.ntmps123
 go_wp2
 go_loopg [9,10] k (fun kq v9 v10 w' => ∃ i j:Int,v9 = .int .i64 i∧v10 = .int .i64 j∧0≤i∧i≤j∧j≤(l0.length:Int)∧Aside0 (impl_pairAt.l0 kq l0 key i j=some r)∧Aside0 (Below w.heap.size w w'))
 case atStart=>exact ⟨0,(l0.length:Int),rfl,rfl,by omega,by omega,by omega,H',HB⟩
 case round =>
  clear H' HB
  obtain ⟨i,j,rfl,rfl,g0,g1,g2,HA,HB⟩:=hrel
  cases gk with
  | zero=>exact absurd HA.out (by simp [impl_pairAt.l0])
  | succ k1 =>
   have H:=HA.out
   clear HA
   simp only [impl_pairAt.l0] at H
   by_cases c2:i<j
   ·
    rw [if_pos c2] at H
    have p0:0≤(i+j) / 2:=by omega
    have p1:(i+j) / 2<(l0.length:Int):=by omega
    rw [if_pos p0,if_pos p1] at H
    obtain ⟨ad,e1,hx0,hx1⟩:=at_T61 HR0.out _ p0 p1
    cases e1
    replace hx0:=(HB.out.cell (World.block_lt_of_cell? w _ hx0)).trans hx0
    replace hx1:=(HB.out.cell (World.block_lt_of_cell? w _ hx1)).trans hx1
    have hcall:=impl_pairAt.lit (rd_T61 l0 ((i+j) / 2)) key
    obtain ⟨X,hX⟩ : ∃ X,Lib.compareBytes ((rd_T61 l0 ((i+j) / 2)).f0).data.toList key.data.toList=X:=⟨_,rfl⟩
    rw [hX] at hcall H
    clear hX
    have hcall':=ζa hcall
    clear hcall
    go_wp2_with fail
    refine (hcall'.out _).mono ?_
    rintro e w' ⟨rfl,hb⟩
    have HB2:=ζa (δr HB.out hb)
    clear hb HB hcall'
    by_cases c3:X<0
    ·
     rw [if_pos c3] at H
     have H':=ζa H
     clear H hr hr'
     have hw1:IntKind.i64.wrap ((i+j) / 2+1)=(i+j) / 2+1:=IntWalk.i64_in _ (by omega)
     have q1:(i+j) / 2<j:=by omega
     have c3b:decide (X<0)=τ:=decide_eq_true c3
     clear c3
     generalize hm:(i+j) / 2=m at *
     clear hm p1
     go_wp2
     go_roundg k1
     case measure=>omega
     case rel=>exact ⟨m+1,j,by rfl,rfl,by omega,by omega,by omega,H',HB2⟩
    ·
     rw [if_neg c3] at H
     have H':=ζa H
     clear H hr hr'
     have q1:(i+j) / 2<j:=by omega
     have q2:i≤(i+j) / 2:=by omega
     have c3b:decide (X<0)=φ:=decide_eq_false c3
     clear c3
     generalize hm:(i+j) / 2=m at *
     clear hm p1
     go_wp2
     go_roundg k1
     case measure=>omega
     case rel=>exact ⟨i,m,rfl,by rfl,by omega,by omega,by omega,H',HB2⟩
   ·
    rw [if_neg c2] at H
    obtain rfl:=Option.some.inj H
    obtain rfl:i=j:=by omega
    by_cases c4:i<(l0.length:Int)
    ·
     obtain ⟨ad,e1,hx0,hx1⟩:=at_T61 HR0.out _ g0 c4
     cases e1
     replace hx0:=(HB.out.cell (World.block_lt_of_cell? w _ hx0)).trans hx0
     replace hx1:=(HB.out.cell (World.block_lt_of_cell? w _ hx1)).trans hx1
     have hfin:Aside0 (impl_pairAt.hit l0 key i=(Lib.compareBytes ((rd_T61 l0 i).f0).data.toList key.data.toList == 0)):=⟨by unfold impl_pairAt.hit;rw [decide_eq_true c4];rfl⟩
     have hcall:=impl_pairAt.lit (rd_T61 l0 i) key
     obtain ⟨X,hX⟩ : ∃ X,Lib.compareBytes ((rd_T61 l0 i).f0).data.toList key.data.toList=X:=⟨_,rfl⟩
     rw [hX] at hcall hfin
     clear hX
     have hcall':=ζa hcall
     clear hcall
     go_wp2_with fail
     refine (hcall'.out _).mono ?_
     rintro e w' ⟨rfl,hb⟩
     have HB2:=ζa (δr HB.out hb)
     clear hb HB hcall'
     go_wp2
     go_ret2
     exact ⟨by rw [hfin.out];rfl,HB2.out⟩
    ·
     have hfin:Aside0 (impl_pairAt.hit l0 key i=φ):=⟨by unfold impl_pairAt.hit;rw [decide_eq_false c4];rfl⟩
     go_wp2
     go_ret2
     exact ⟨by rw [hfin.out];rfl,HB.out⟩
theorem impl_pairAt.calls (k:Nat) (A0:Option Addr) (c0:Nat) (l0:List (S61)) (a1:ByteArray) (r1:Int) (r2:Bool) (w:World) (hr0:Kd.C k61 w A0 l0.length l0) (hc0:l0.length≤c0) (h:impl_pairAt.f k l0 a1=some (r1,r2)) :
  Calls Tryz.prog 83 #[.slice A0 l0.length c0,.string a1] w fun e w'=>e = .returned (.tuple #[.int .i64 r1,.bool r2])∧Below w.heap.size w w':=by
 obtain ⟨r,hl,h⟩:=Option.bind_eq_some_iff.mp h
 by_cases c1:(l0.length:Int)<1000000000000
 ·
  rw [if_pos c1] at h
  by_cases c2:0≤r
  ·
   rw [if_pos c2] at h
   by_cases c3:r≤(l0.length:Int)
   ·
    rw [if_pos c3] at h
    simp only [Option.some.injEq,Prod.mk.injEq] at h
    obtain ⟨rfl,rfl⟩:=h
    have HL:=ζa hl
    clear hl
    go_enter Tryz.func83,Tryz.ntmps83
    go_wp2_with fail
    refine (impl_pairAt.search k A0 c0 l0 a1 r _ hr0 HL.out c1 c2 c3).mono ?_
    rintro e w' ⟨rfl,hb⟩
    have HB2:=ζa hb
    clear hb
    go_wp2
    go_ret2
    exact ⟨rfl,HB2.out⟩
   · rw [if_neg c3] at h;cases h
  ·
   rw [if_neg c2] at h;cases h
 · rw [if_neg c1] at h;cases h


open Go.Proofs.YtggemblkhckbpaaGreatDoorW.PrintWords renaming gate_callee → δv, below_step → δr
set_option maxHeartbeats 8000000
set_option maxRecDepth 100000

/-! ### impl_get: function 43 -/
def impl_get.f (k:Nat) (l0:List (S61)) (a1:ByteArray):Option (ByteArray × Bool):=(impl_pairAt.f k l0 a1).bind fun bt111=>(if bt111.2=τ then (if 0≤bt111.1 then (if bt111.1<(l0.length:Int) then (some ((rd_T61 l0 bt111.1).f1,τ)) else (none)) else (none)) else (some ((⟨#[]⟩:ByteArray),φ)))
theorem impl_get.calls (k:Nat) (A0:Option Addr) (c0:Nat) (l0:List (S61)) (a1:ByteArray) (r1:ByteArray) (r2:Bool) (w:World) (hr0:Kd.C k61 w A0 l0.length l0) (hc0:l0.length≤c0) (h:impl_get.f k l0 a1=some (r1,r2)) :
  Calls Tryz.prog 43 #[.slice A0 l0.length c0,.string a1] w fun e w'=>e = .returned (.tuple #[.string r1,.bool r2])∧Below w.heap.size w w':=by
 have HR0:=ζa hr0
 have HC0:=ζa hc0
 clear hr0 hc0
 have HB:=ζa (Below.refl w.heap.size w)
 have H:((impl_pairAt.f k l0 a1).bind fun bt111=>(if bt111.2=τ then (if 0≤bt111.1 then (if bt111.1<(l0.length:Int) then (some ((rd_T61 l0 bt111.1).f1,τ)) else (none)) else (none)) else (some ((⟨#[]⟩:ByteArray),φ))))=some (r1,r2):=h
 clear h
 obtain ⟨⟨t111,t112⟩,A3,H⟩:=bsm H
 dsimp only at H
 by_cases c4:t112=τ
 ·
  subst c4
  rw [ifT] at H
  by_cases c5:0≤t111
  ·
   rw [if_pos c5] at H
   have c5b0:=decide_eq_true c5
   clear c5
   by_cases c6:t111<(l0.length:Int)
   ·
    rw [if_pos c6] at H
    have c6b0:=decide_eq_true c6
    clear c6
    simp only [Option.some.injEq,Prod.mk.injEq] at H
    obtain ⟨rfl,rfl⟩:=H
    go_enter Tryz.func43,Tryz.ntmps43
    go_wp2_with (((with_reducible refine δv (f:=83) rfl ?_);refine gl 11 Tryz.func83 #[.slice A0 l0.length c0,.string a1] ?_;(with_reducible refine (impl_pairAt.calls k _ _ l0 a1 t111 τ _ ?side1 ?side2 A3.out).mono ?_);(case side1=>repeat (exact HR0.out));(case side2=>exact HC0.out);rintro e w7 ⟨rfl,hb⟩;refine ⟨_,rfl,?_⟩;replace HB:=ζa (δr (by exact HB.out) hb);(try clear hb);(try clear hb2);(try clear hk);(try clear hi);have p113:0≤(t111:Int):=of_decide_eq_true (by (with_reducible assumption));have q113:t111<(l0.length:Int):=of_decide_eq_true (by (with_reducible assumption));obtain ⟨ad113,e113,hx113_0,hx113_1⟩:=at_T61 HR0.out t111 p113 q113;cases e113;replace hx113_0:=(HB.out.cell (World.block_lt_of_cell? w _ hx113_0)).trans hx113_0;replace hx113_1:=(HB.out.cell (World.block_lt_of_cell? w _ hx113_1)).trans hx113_1;replace p113:=eq_true p113;replace q113:=eq_true q113))
    go_ret2
    exact ⟨by rfl,by repeat ((with_reducible exact HB.out))⟩
   ·
    rw [if_neg c6] at H
    exact absurd H (by simp)
  ·
   rw [if_neg c5] at H
   exact absurd H (by simp)
 ·
  replace c4:=Bool.eq_false_iff.mpr c4
  subst c4
  rw [ifF] at H
  simp only [Option.some.injEq,Prod.mk.injEq] at H
  obtain ⟨rfl,rfl⟩:=H
  go_enter Tryz.func43,Tryz.ntmps43
  go_wp2_with (((with_reducible refine δv (f:=83) rfl ?_);refine gl 11 Tryz.func83 #[.slice A0 l0.length c0,.string a1] ?_;(with_reducible refine (impl_pairAt.calls k _ _ l0 a1 t111 φ _ ?side1 ?side2 A3.out).mono ?_);(case side1=>repeat (exact HR0.out));(case side2=>exact HC0.out);rintro e w8 ⟨rfl,hb⟩;refine ⟨_,rfl,?_⟩;replace HB:=ζa (δr (by exact HB.out) hb);(try clear hb);(try clear hb2);(try clear hk);(try clear hi)))
  go_ret2
  exact ⟨by rfl,by repeat ((with_reducible exact HB.out))⟩


set_option maxHeartbeats 8000000
set_option maxRecDepth 100000

/-! ### impl_amountText: function 104 -/
def impl_amountText.f (a0:Int):Option (ByteArray):=(strconv_Itoa.f a0).bind fun t131=>(some t131)
theorem impl_amountText.calls (a0:Int) (r:ByteArray) (w:World) (hT0:TabsOK w) (h:impl_amountText.f a0=some r) :
  Calls Tryz.prog 104 #[.int .i64 a0] w fun e w'=>e = .returned (.string r)∧Below w.heap.size w w':=by
 have HT0:=ζa hT0
 clear hT0
 have HB:=ζa (Below.refl w.heap.size w)
 have H:((strconv_Itoa.f a0).bind fun t131=>(some t131))=some r:=h
 clear h
 obtain ⟨t131,A2,H⟩:=bsm H
 obtain rfl:=Option.some.inj H
 go_enter Tryz.func104,Tryz.ntmps104
 go_wp2_with (((with_reducible refine δv (f:=132) rfl ?_);refine gl 4 Tryz.func132 #[.int .i64 a0] ?_;(with_reducible refine (strconv_Itoa.calls a0 t131 _ (HT0.out.below (by exact HB.out)) A2.out).mono ?_);rintro e w3 ⟨rfl,hb⟩;refine ⟨_,rfl,?_⟩;replace HB:=ζa (δr (by exact HB.out) hb);(try clear hb);(try clear hb2);(try clear hk);(try clear hi)))
 go_ret
 exact ⟨by rfl,by repeat ((with_reducible exact HB.out))⟩


set_option maxHeartbeats 8000000
set_option maxRecDepth 100000

/-! ### impl_isAmount: function 135 -/
def impl_isAmount.f (a0:Int):Option (Bool):=(impl_within.f a0 0 1000000000000000000).bind fun t147=>(some t147)
theorem impl_isAmount.calls (a0:Int) (r:Bool) (w:World) (h:impl_isAmount.f a0=some r) :
  Calls Tryz.prog 135 #[.int .i64 a0] w fun e w'=>e = .returned (.bool r)∧Drawn0 w w':=by
 have H:((impl_within.f a0 0 1000000000000000000).bind fun t147=>(some t147))=some r:=h
 clear h
 obtain ⟨t147,A2,H⟩:=bsm H
 obtain rfl:=Option.some.inj H
 go_enter Tryz.func135,Tryz.ntmps135
 go_wp2_with (((with_reducible refine δv (f:=44) rfl ?_);refine gl 4 Tryz.func44 #[.int .i64 a0,.int .i64 0,.int .i64 1000000000000000000] ?_;(with_reducible refine (impl_within.calls a0 0 1000000000000000000 t147 _ A2.out).mono ?_);rintro e w' ⟨rfl,⟨nd,rfl⟩⟩;refine ⟨_,rfl,?_⟩))
 go_ret
 exact ⟨by rfl,by repeat (first|exact Drawn0.refl _|apply Drawn0.step)⟩


open Go.Proofs.YtggemblkhckbpaaGreatDoorW.PrintWords renaming pw_below_drewN → δi, below_step → δr
set_option maxHeartbeats 8000000
set_option maxRecDepth 100000


/-! ### impl_readAmount: function 106 -/
/-- The amount that a text tells,and whether it is one. -/
def impl_readAmount.f (a0:ByteArray):Option (Int × Bool) :=
 if a0.size≤281474976710656 then (match Lib.atoiAll a0.data.toList with
  | .ok v=>if 0≤v then (if v≤1000000000000000000 then (if (⟨(Lib.itoa v).toArray⟩:ByteArray).toList=a0.toList then some (v,τ) else some (0,φ)) else some (0,φ)) else some (0,φ)
  | _=>some (0,φ)) else none
theorem impl_readAmount.bad (a0:ByteArray) (hs:a0.size≤281474976710656) (hb:(∀ v,Lib.atoiAll a0.data.toList ≠ .ok v)) (w:World) (hT0:TabsOK w) :
  Calls Tryz.prog 134 #[.string a0] w fun e w' => ∃ (n:Int) (te N:Nat),e = .returned (.tuple #[.int .i64 n,.iface te (.pointer (some ⟨N,0,none⟩))])∧Below w.heap.size w w':=by
 cases hh:Lib.atoiAll a0.data.toList with
 | ok v=>exact absurd hh (hb v)
 | range =>
  obtain ⟨tp,p,hv⟩:=hT0.2.2
  refine (Tryz.strconv_Atoi_range_var a0 hs hh tp p w (hv w (Below.refl _ _))).mono ?_
  rintro e w' ⟨N,rfl,_,_,hb⟩
  exact ⟨_,_,N,rfl,hb⟩
 | _ =>
  obtain ⟨tp,p,hv⟩:=hT0.2.1
  refine (Tryz.strconv_Atoi_syntax_var a0 hs hh tp p w (hv w (Below.refl _ _))).mono ?_
  rintro e w' ⟨N,rfl,_,_,hb⟩
  exact ⟨_,_,N,rfl,hb⟩
theorem impl_readAmount.good (a0:ByteArray) (hs:a0.size≤281474976710656) (v:Int) (hb:Lib.atoiAll a0.data.toList = .ok v) (w:World) :
  Calls Tryz.prog 134 #[.string a0] w fun e w'=>e = .returned (.tuple #[.int .i64 v,.nilIface])∧Below w.heap.size w w':=by
 refine (Tryz.strconv_Atoi_ok a0 (by omega) v hb w).mono ?_
 rintro e w' ⟨rfl,rfl|⟨t,rfl⟩⟩
 · exact ⟨rfl,Below.refl _ _⟩
 ·
  exact ⟨rfl,bytes_below (Below.refl _ _) (Nat.le_refl _) 5 t⟩
theorem impl_readAmount.calls (a0:ByteArray) (r1:Int) (r2:Bool) (w:World) (hT0:TabsOK w) (h:impl_readAmount.f a0=some (r1,r2)) :
  Calls Tryz.prog 106 #[.string a0] w fun e w'=>e = .returned (.tuple #[.int .i64 r1,.bool r2])∧Below w.heap.size w w':=by
 unfold impl_readAmount.f at h
 by_cases hs:a0.size≤281474976710656
 ·
  rw [if_pos hs] at h
  by_cases hg : ∃ v,Lib.atoiAll a0.data.toList = .ok v
  ·
   obtain ⟨v,hv⟩:=hg
   rw [hv] at h
   have HV:=ζa hv
   have HS:=ζa hs
   have HT:=ζa hT0
   clear hv hs hT0
   dsimp only at h
   by_cases h0:0≤v∧v≤1000000000000000000
   ·
    rw [if_pos h0.1,if_pos h0.2] at h
    have HA:Aside0 (impl_isAmount.f v=some τ):=⟨by
     unfold impl_isAmount.f impl_within.f
     rw [if_pos h0.1,decide_eq_true h0.2]
     rfl⟩
    have HI:Aside0 (impl_amountText.f v=some ⟨(Lib.itoa v).toArray⟩):=⟨by
     unfold impl_amountText.f strconv_Itoa.f
     rw [if_pos (by omega),if_pos (by omega)]
     rfl⟩
    generalize (⟨(Lib.itoa v).toArray⟩:ByteArray)=t at h HI
    by_cases ht:t.toList=a0.toList
    ·
     rw [if_pos ht] at h
     injection h with h
     injection h with e1 e2
     subst e1 e2
     go_enter Tryz.func106,Tryz.ntmps106
     go_wp2_with fail
     refine (impl_readAmount.good a0 HS.out v HV.out _).mono ?_
     rintro e w' ⟨rfl,hb⟩
     have HB:=ζa hb
     clear hb
     go_wp2_with fail
     refine (impl_isAmount.calls v τ _ HA.out).mono ?_
     rintro e w2 ⟨rfl,⟨m,rfl⟩⟩
     go_wp2_with fail
     refine (impl_amountText.calls v t _ (HT.out.below (δi HB.out m)) HI.out).mono ?_
     rintro e w3 ⟨rfl,hb3⟩
     have HB3:=ζa (δr (δi HB.out m) hb3)
     clear hb3
     go_wp2
     go_ret2
     exact ⟨rfl,HB3.out⟩
    ·
     rw [if_neg ht] at h
     have htb:(t.toList == a0.toList)=φ:=beq_eq_false_iff_ne.2 ht
     clear ht
     injection h with h
     injection h with e1 e2
     subst e1 e2
     go_enter Tryz.func106,Tryz.ntmps106
     go_wp2_with fail
     refine (impl_readAmount.good a0 HS.out v HV.out _).mono ?_
     rintro e w' ⟨rfl,hb⟩
     have HB:=ζa hb
     clear hb
     go_wp2_with fail
     refine (impl_isAmount.calls v τ _ HA.out).mono ?_
     rintro e w2 ⟨rfl,⟨m,rfl⟩⟩
     go_wp2_with fail
     refine (impl_amountText.calls v t _ (HT.out.below (δi HB.out m)) HI.out).mono ?_
     rintro e w3 ⟨rfl,hb3⟩
     have HB3:=ζa (δr (δi HB.out m) hb3)
     clear hb3
     go_wp2
     go_ret2
     exact ⟨rfl,HB3.out⟩
   ·
    have e:(some ((0:Int),φ):Option (Int × Bool))=some (r1,r2):=by
     by_cases h1:0≤v
     · rw [if_pos h1,if_neg (fun h2=>h0 ⟨h1,h2⟩)] at h;exact h
     ·
      rw [if_neg h1] at h;exact h
    clear h
    injection e with h
    injection h with e1 e2
    subst e1 e2
    have HA:Aside0 (impl_isAmount.f v=some φ):=⟨by
     unfold impl_isAmount.f impl_within.f
     by_cases h1:0≤v
     · rw [if_pos h1,decide_eq_false (fun h2=>h0 ⟨h1,h2⟩)];rfl
     ·
      rw [if_neg h1];rfl⟩
    clear h0
    go_enter Tryz.func106,Tryz.ntmps106
    go_wp2_with fail
    refine (impl_readAmount.good a0 HS.out v HV.out _).mono ?_
    rintro e w' ⟨rfl,hb⟩
    have HB:=ζa hb
    clear hb
    go_wp2_with fail
    refine (impl_isAmount.calls v φ _ HA.out).mono ?_
    rintro e w2 ⟨rfl,⟨m,rfl⟩⟩
    go_wp2
    go_ret2
    exact ⟨rfl,δi HB.out m⟩
  ·
   have hn : ∀ v,Lib.atoiAll a0.data.toList ≠ .ok v:=fun v hv=>hg ⟨v,hv⟩
   have e:(some ((0:Int),φ):Option (Int × Bool))=some (r1,r2):=by
    cases hh:Lib.atoiAll a0.data.toList with
    | ok v=>exact absurd hh (hn v)
    | range=>rw [hh] at h;exact h
    | _ => rw [hh] at h;exact h
   clear h
   injection e with h
   injection h with e1 e2
   subst e1 e2
   have HN:=ζa (impl_readAmount.bad a0 hs hn w hT0)
   clear hs hn hg hT0
   go_enter Tryz.func106,Tryz.ntmps106
   go_wp2_with fail
   refine HN.out.mono ?_
   rintro e w' ⟨n,te,N,rfl,hb⟩
   have HB:=ζa hb
   clear hb
   go_wp2
   go_ret2
   exact ⟨rfl,HB.out⟩
 · rw [if_neg hs] at h;cases h


set_option maxHeartbeats 8000000
set_option maxRecDepth 100000

/-! ### impl_amountAt: function 68 -/
def impl_amountAt.f (k:Nat) (l0:List (S61)) (a1:ByteArray):Option (Int):=(impl_get.f k l0 a1).bind fun bt148=>((impl_readAmount.f bt148.1).bind fun bt150=>(some bt150.1))
theorem impl_amountAt.calls (k:Nat) (A0:Option Addr) (c0:Nat) (l0:List (S61)) (a1:ByteArray) (r:Int) (w:World) (hr0:Kd.C k61 w A0 l0.length l0) (hc0:l0.length≤c0) (hT0:TabsOK w) (h:impl_amountAt.f k l0 a1=some r) :
  Calls Tryz.prog 68 #[.slice A0 l0.length c0,.string a1] w fun e w'=>e = .returned (.int .i64 r)∧Below w.heap.size w w':=by
 have HT0:=ζa hT0
 clear hT0
 have HR0:=ζa hr0
 have HC0:=ζa hc0
 clear hr0 hc0
 have HB:=ζa (Below.refl w.heap.size w)
 have H:((impl_get.f k l0 a1).bind fun bt148=>((impl_readAmount.f bt148.1).bind fun bt150=>(some bt150.1)))=some r:=h
 clear h
 obtain ⟨⟨t148,t149⟩,A3,H⟩:=bsm H
 dsimp only at H
 obtain ⟨⟨t150,t151⟩,A4,H⟩:=bsm H
 dsimp only at H
 obtain rfl:=Option.some.inj H
 go_enter Tryz.func68,Tryz.ntmps68
 go_wp2_with (first|((with_reducible refine δv (f:=43) rfl ?_);refine gl 12 Tryz.func43 #[.slice A0 l0.length c0,.string a1] ?_;(with_reducible refine (impl_get.calls k _ _ l0 a1 t148 t149 _ ?side1 ?side2 A3.out).mono ?_);(case side1=>repeat (exact HR0.out));(case side2=>exact HC0.out);rintro e w5 ⟨rfl,hb⟩;refine ⟨_,rfl,?_⟩;replace HB:=ζa (δr (by exact HB.out) hb);(try clear hb);(try clear hb2);(try clear hk);(try clear hi))|((with_reducible refine δv (f:=106) rfl ?_);refine gl 17 Tryz.func106 #[.string t148] ?_;(with_reducible refine (impl_readAmount.calls t148 t150 t151 _ (HT0.out.below (by exact HB.out)) A4.out).mono ?_);rintro e w6 ⟨rfl,hb⟩;refine ⟨_,rfl,?_⟩;replace HB:=ζa (δr (by exact HB.out) hb);(try clear hb);(try clear hb2);(try clear hk);(try clear hi)))
 go_ret
 exact ⟨by rfl,by repeat ((with_reducible exact HB.out))⟩


open Go.Proofs.YtggemblkhckbpaaGreatDoorW.PrintWords.Kd renaming R_reads' → ζg, R_drew → ζe
open Go.Proofs.YtggemblkhckbpaaGreatDoorW.PrintWords renaming below_drew1 → δj
open Go.Proofs.YtggemblkhckbpaaGreatDoorW.PrintLast renaming pure_ → ζk
open Go.Act renaming put → ζl
open List renaming setIfInBounds_toArray → δa, set_cons_zero → δb, set_cons_succ → δc
set_option maxHeartbeats 8000000
set_option maxRecDepth 100000


/-! ### slices_Delete_impl_Pair_impl_Pair: function 136 -/
theorem slices_Delete_impl_Pair_impl_Pair.clear_one {W:World} {g n c:Nat} {cur:Array Value} (hg:W.heap[g]? = some (.cells cur 61 (0,0))) (hcs:(n - 1) * 2+1<cur.size) (hn:1≤n) :
  (Builtin.clear_ #[25] 0 #[.slice (some ⟨g,(n - 1) * 2,none⟩) (n - (n - 1)) (c - (n - 1))]).run Tryz.prog W = .ok (.tuple #[]) ((W.setCell ⟨g,(n - 1) * 2,none⟩ (.string ⟨#[]⟩)).setCell ⟨g,(n - 1) * 2+1,none⟩ (.string ⟨#[]⟩)):=by
 have e:n - (n - 1)=1:=by omega
 rw [e]
 generalize (n - 1) * 2=o at *
 have hz : ∀ w,(zeroValue 61).run Tryz.prog w = .ok (.agg #[.string ⟨#[]⟩,.string ⟨#[]⟩]) w:=fun w=>by kernel_rfl
 have hst:=run_storeCells_cells (P:=Tryz.prog) g o [.string ⟨#[]⟩,.string ⟨#[]⟩] 0 W
  (fun j hj=>by
   simp only [World.cell?,hg]
   simp at hj
   rcases (show j=0 ∨ j=1 by omega) with rfl|rfl
   · simp;omega
   ·
    simp;omega)
  (fun j hj=>by simp [World.frozen?,hg]) (by intro v hv;simp at hv;subst hv;rfl)
 simp only [Nat.add_zero] at hst
 have hzc:(Builtin.zeroCells (Value.agg #[.string ⟨#[]⟩,.string ⟨#[]⟩]).cells 1).toList = [.string ⟨#[]⟩,.string ⟨#[]⟩]:=by kernel_rfl
 simp [Builtin.clear_,run_underlying Tryz.underlying25,hz,hzc,hst,World.setCells]
theorem slices_Delete_impl_Pair_impl_Pair.R_spare {w:World} {base g n cap:Nat} {xs:List S61} (h:Kd.R k61 61 w base (fun _=>True) (.slice (some ⟨g,0,none⟩) n cap) xs) (j:Nat) (hj:n * 2≤j) (u:Value) :
  Kd.R k61 61 (w.setCell ⟨g,j,none⟩ u) base (fun _=>True) (.slice (some ⟨g,0,none⟩) n cap) xs:=by
 have hn:=(ζg h).1
 obtain ⟨hok,inner,hown,hr⟩:=h
 refine ⟨hok,inner,?_,hr.imp_ (fun p c hp=>by rw [k61_openM hp];exact k61_mkM _ _ _ p)⟩
 rw [← hn] at hown ⊢
 have h1:=(hown.stored j u).1
 have hl:inner.length=n * 2:=hown.1
 rw [List.set_eq_of_length_le (by omega)] at h1
 exact h1
theorem slices_Delete_impl_Pair_impl_Pair.calls (base g n c i:Nat) (xs:List S61) (w0 w:World) (ho:Kd.R k61 61 w base (fun _=>True) (.slice (some ⟨g,0,none⟩) n c) xs) (hi:i<n) (hn:n≤1000000) (hnc:n≤c) (hc:c≤9223372036854775807) (hb:Below base w0 w) (hbs:base≤w.heap.size) :
  Calls Tryz.prog 136 #[.slice (some ⟨g,0,none⟩) n c,.int .i64 i,.int .i64 ((i+1:Nat):Int)] w fun e w'=>e = .returned (.slice (some ⟨g,0,none⟩) (n - 1) c)∧Kd.R k61 61 w' base (fun _=>True) (.slice (some ⟨g,0,none⟩) (n - 1) c) (xs.eraseIdx i)∧Below base w0 w':=by
 have HO:=ζa ho
 have HB:=ζa hb
 clear ho hb
 go_enter Tryz.func136,Tryz.ntmps136
 go_wp2_with fail
 have hil:(i+1)≤n:=by omega
 have hlen:=ζa (ζg HO.out).1
 have HB1:=ζa (δj HB.out)
 have HO1:=ζa (ζe HO.out)
 clear HB HO
 refine start_ (n:=8) (S:=fun _=>True) (ds:=[]) #[φ,φ,φ,φ,φ,φ,φ,φ] (by kernel_rfl) rfl rfl trivial (fun hHeld => ?_)
 have hbs1:base≤w.drew.heap.size:=hbs
 clear hbs
 generalize w.drew=w1 at HB1 HO1 hbs1 ⊢
 refine ζk (i:=0) (N:=some 20) (v:=?_) (a':=?_) #[τ,φ,φ,φ,φ,φ,φ,φ] rfl rfl (by kernel_rfl) (fun _ _ _ h=>h) (Or.inl ⟨by rfl,?_⟩) ?_ ?_
 rotate_left
 · intro w';go_simp;with_reducible rfl
 rotate_left
 · simp only [ζl,δa,δb,δc,i64_w,i32_w];rfl
 refine ζk (i:=1) (N:=some 21) (v:=?_) (a':=?_) #[τ,τ,φ,φ,φ,φ,φ,φ] rfl rfl (by kernel_rfl) (fun _ _ _ h=>h) (Or.inl ⟨by rfl,?_⟩) ?_ ?_
 rotate_left
 · intro w';go_simp;with_reducible rfl
 rotate_left
 · simp only [ζl,δa,δb,δc,i64_w,i32_w];rfl
 refine ζk (i:=2) (N:=some 22) (v:=?_) (a':=?_) #[τ,τ,τ,φ,φ,φ,φ,φ] rfl rfl (by kernel_rfl) (fun _ _ _ h=>h) (Or.inl ⟨by rfl,?_⟩) ?_ ?_
 rotate_left
 ·
  intro w'
  go_simp
  rw [if_pos (by omega)]
 rotate_left
 · simp only [ζl,δa,δb,δc,i64_w,i32_w];rfl
 refine ζk (i:=3) (N:=some 23) (v:=?_) (a':=?_) #[τ,τ,τ,τ,φ,φ,φ,φ] rfl rfl (by kernel_rfl) (fun _ _ _ h=>h) (Or.inl ⟨by rfl,?_⟩) ?_ ?_
 rotate_left
 · intro w';go_simp;with_reducible rfl
 rotate_left
 · simp only [ζl,δa,δb,δc,i64_w,i32_w];rfl
 refine ζk (i:=4) (N:=some 24) (v:=?_) (a':=?_) #[τ,τ,τ,τ,τ,φ,φ,φ] rfl rfl (by kernel_rfl) (fun _ _ _ h=>h) (Or.inl ⟨by rfl,?_⟩) ?_ ?_
 rotate_left
 · intro w';go_simp;with_reducible rfl
 rotate_left
 · simp only [ζl,δa,δb,δc,i64_w,i32_w];rfl
 refine ζk (i:=5) (N:=some 25) (v:=?_) (a':=?_) #[τ,τ,τ,τ,τ,τ,φ,φ] rfl rfl (by kernel_rfl) (fun _ _ _ h=>h) (Or.inl ⟨by rfl,?_⟩) ?_ ?_
 rotate_left
 ·
  intro w'
  go_simp
  rw [if_pos (by omega)]
 rotate_left
 · simp only [ζl,δa,δb,δc,i64_w,i32_w];rfl
 refine one_ (i:=6) (N:=some 26) #[τ,τ,τ,τ,τ,τ,τ,φ] rfl rfl (by kernel_rfl) (by decide) (fun K hK => ?_)
 refine Kd.R_delete_step (w0:=w0) k61 base (by rfl) (.tmp 22) (.tmp 25) 25 61 rfl Tryz.underlying25 (by kernel_rfl) (g:=g) (n:=n) (c:=c) (k:=i) (m:=n - (i+1)) (c2:=c - (i+1)) (ok:=fun _=>True) rfl rfl ?hA rfl HO1.out hi HB1.out hbs1 ?_
 case hA =>
  by_cases hc1:c=i+1
  · rw [if_pos hc1,if_pos hc1]
  ·
   rw [if_neg hc1,if_neg hc1,Option.map_some,add_plain]
   rfl
 intro w2 ho2 hb2 hg2
 refine hK.out _ _ trivial (fun hHeld => ?_)
 clear hK K
 refine nm 26 ?_
 refine ζk (i:=7) (N:=some 0) (v:=?_) (a':=?_) #[τ,τ,τ,τ,τ,τ,τ,τ] rfl rfl (by kernel_rfl) (fun _ _ _ h=>h) (Or.inl ⟨by rfl,?_⟩) ?_ ?_
 rotate_left
 · intro w';go_simp;with_reducible rfl
 rotate_left
 · simp only [ζl,δa,δb,δc,i64_w,i32_w];rfl
 refine done_ (by kernel_rfl) ?_
 generalize (if c=i+1 then some (⟨g,0,none⟩:Addr) else some ⟨g,(i+1) * 2,none⟩)=vv
 have hrow : ∃ cur:Array Value,w2.heap[g]? = some (.cells cur 61 (0,0))∧cur.size=c * 2:=by
  obtain ⟨_,inner,hown,_⟩:=ho2
  rcases hown.2 with ⟨h',_⟩|⟨g',cap',cur,h',_,hg,_,_,hcs,_⟩
  · simp at h'
  ·
   simp only [Value.slice.injEq,Option.some.injEq,Addr.mk.injEq,and_true,true_and] at h'
   obtain ⟨rfl,_,rfl⟩:=h'
   exact ⟨cur,hg,hcs⟩
 obtain ⟨cur,hcur,hcsz⟩:=hrow
 have hcl:=slices_Delete_impl_Pair_impl_Pair.clear_one (n:=n) (c:=c) hcur (by rw [hcsz];omega) (by omega)
 have HO3:=ζa (slices_Delete_impl_Pair_impl_Pair.R_spare (slices_Delete_impl_Pair_impl_Pair.R_spare ho2 ((n - 1) * 2) (Nat.le_refl _) (.string ⟨#[]⟩)) ((n - 1) * 2+1) (Nat.le_succ _) (.string ⟨#[]⟩))
 have hge:base≤g:=Kd.R_base ho2 g rfl
 have HB3:=ζa ((hb2.setCell (p:=⟨g,(n - 1) * 2,none⟩) hge (.string ⟨#[]⟩)).setCell (p:=⟨g,(n - 1) * 2+1,none⟩) hge (.string ⟨#[]⟩))
 clear hcur hcsz ho2 hb2 hg2 HB1 HO1
 go_wp2
 go_ret
 exact ⟨rfl,HO3.out,HB3.out⟩


open Go.Proofs.YtggemblkhckbpaaGreatDoorW.PrintWords.Kd renaming R_below → ζh, R_reads' → ζg
set_option maxHeartbeats 8000000
set_option maxRecDepth 100000


/-! ### impl_drop: function 111 -/
def impl_drop.f (k:Nat) (l0:List (S61)) (a1:ByteArray):Option (List (S61) × Int) :=
 if l0.length≤1000000 then ((impl_pairAt.f k l0 a1).bind fun b=>if b.2=τ then (if 0≤b.1 then (if b.1<(l0.length:Int) then some (l0.eraseIdx b.1.toNat,0) else none) else none) else some (l0,5)) else none
theorem impl_drop.calls (k:Nat) (A0:Option Addr) (c0:Nat) (l0:List (S61)) (a1:ByteArray) (r1:List (S61)) (r2:Int) (w:World) (hr0:Kd.C k61 w A0 l0.length l0) (hc0:l0.length≤c0) (h:impl_drop.f k l0 a1=some (r1,r2)) :
  Calls Tryz.prog 111 #[.slice A0 l0.length c0,.string a1] w fun e w' => ∃ v0_:Value,e = .returned (.tuple #[v0_,.int .i64 r2])∧Kd.R k61 61 w' w.heap.size (fun _=>True) v0_ r1∧Below w.heap.size w w':=by
 unfold impl_drop.f at h
 by_cases hl:l0.length≤1000000
 ·
  rw [if_pos hl] at h
  obtain ⟨⟨b1,b2⟩,h1,h⟩:=Option.bind_eq_some_iff.mp h
  have H1:=ζa h1
  have HL:=ζa hl
  have HR0:=ζa hr0
  have HC0:=ζa hc0
  have HCL:Aside0 (slices_Clone_impl_Pair_impl_Pair.f l0=some l0):=⟨by unfold slices_Clone_impl_Pair_impl_Pair.f;rw [if_pos (by omega)]⟩
  clear h1 hr0 hc0 hl
  cases b2 with
  | false =>
   simp only [Bool.false_eq_true,if_false,Option.some.injEq,Prod.mk.injEq] at h
   obtain ⟨rfl,rfl⟩:=h
   go_enter Tryz.func111,Tryz.ntmps111
   go_wp2_with fail
   refine (slices_Clone_impl_Pair_impl_Pair.calls A0 c0 l0 l0 _ HR0.out HC0.out HCL.out).mono ?_
   rintro e w' ⟨v,rfl,ho,hb⟩
   obtain ⟨A,c,rfl,hnc,hrc⟩:=Kd.R_reads ho
   have HO:=ζa ho
   have HB:=ζa hb
   have HC:=ζa hrc
   have HN:=ζa hnc
   clear ho hb hrc hnc
   go_wp2_with fail
   refine (impl_pairAt.calls k A c l0 a1 b1 φ _ HC.out HN.out H1.out).mono ?_
   rintro e w2 ⟨rfl,hb2⟩
   have HO2:=ζa (ζh HO.out hb2)
   have HB2:=ζa (δr HB.out hb2)
   clear hb2
   go_wp2
   go_ret2
   exact ⟨_,rfl,HO2.out,HB2.out⟩
  | true =>
   simp only [if_true] at h
   by_cases g1:0≤b1
   ·
    rw [if_pos g1] at h
    by_cases g2:b1<(l0.length:Int)
    ·
     rw [if_pos g2] at h
     simp only [Option.some.injEq,Prod.mk.injEq] at h
     obtain ⟨rfl,rfl⟩:=h
     obtain ⟨i,rfl⟩ : ∃ i:Nat,b1=(i:Int):=⟨b1.toNat,by omega⟩
     have hi:i<l0.length:=by omega
     have HI:=ζa hi
     have hib:i≤1000000:=by have:=HL.out;omega
     clear g1 g2 hi
     go_enter Tryz.func111,Tryz.ntmps111
     go_wp2_with fail
     refine (slices_Clone_impl_Pair_impl_Pair.calls A0 c0 l0 l0 _ HR0.out HC0.out HCL.out).mono ?_
     rintro e w' ⟨v,rfl,ho,hb⟩
     have hshape : ∃ g c,v = .slice (some ⟨g,0,none⟩) l0.length c∧l0.length≤c∧c≤maxLen:=by
      obtain ⟨_,inner,hown,_⟩:=ho
      rcases hown.2 with ⟨_,h0⟩|⟨g,cap,cur,hv,_,_,hn,hm,_⟩
      · have:=HI.out;omega
      ·
       exact ⟨g,cap,hv,hn,hm⟩
     obtain ⟨g,c,rfl,hnc,hcm⟩:=hshape
     have HC:=ζa (ζg ho).2.2
     have HO:=ζa ho
     have HB:=ζa hb
     have HN:=ζa hnc
     have HM:=ζa hcm
     clear ho hb hnc hcm
     go_wp2_with fail
     refine (impl_pairAt.calls k (some ⟨g,0,none⟩) c l0 a1 i τ _ HC.out HN.out H1.out).mono ?_
     rintro e w2 ⟨rfl,hb2⟩
     have HO2:=ζa (ζh HO.out hb2)
     have HB2:=ζa (δr HB.out hb2)
     clear hb2
     go_wp2_with fail
     refine (slices_Delete_impl_Pair_impl_Pair.calls w.heap.size g l0.length c i l0 w _ HO2.out HI.out HL.out HN.out (by have:=HM.out;unfold maxLen at this;omega) HB2.out HB2.out.size).mono ?_
     rintro e w3 ⟨rfl,ho3,hb3⟩
     have HO3:=ζa ho3
     have HB3:=ζa hb3
     clear ho3 hb3
     go_wp2
     go_ret2
     exact ⟨_,rfl,HO3.out,HB3.out⟩
    · rw [if_neg g2] at h;cases h
   ·
    rw [if_neg g1] at h;cases h
 · rw [if_neg hl] at h;cases h


open Bool renaming true → τ
set_option maxHeartbeats 8000000
set_option maxRecDepth 100000


/-! ### impl_all: function 69 -/
/-- A function value and what it captures. -/
abbrev FV:=Nat × Array Value
def encF (x:FV):Value:=.func (.func x.1) #[] x.2
/-- A function value that does F to a store: in this world and in all later ones. -/
structure Chg (w:World) (x:FV) (F:List S61→Option (List S61 × Int)):Prop where
 enters : ∀ args w,(callFunc x.1 args).run Tryz.prog w = .ok (.enter x.1 args) w
 calls : ∀ (W:World) (A:Option Addr) (c:Nat) (l r:List S61) (code:Int),Below w.heap.size w W→Kd.C k61 W A l.length l→l.length≤c→F l=some (r,code) →
  Calls Tryz.prog x.1 (#[.slice A l.length c] ++ x.2) W fun e W' => ∃ v0,e = .returned (.tuple #[v0,.int .i64 code])∧(code=0→Kd.R k61 61 W' W.heap.size (fun _=>True) v0 r)∧Below W.heap.size W W'
theorem Chg.below {w W:World} {x:FV} {F:List S61→Option (List S61 × Int)} (h:Chg w x F) (hb:Below w.heap.size w W):Chg W x F :=
 ⟨h.enters,fun W2 A c l r code hb2=>h.calls W2 A c l r code (δr hb hb2)⟩
/-- The same,and what it hands back is always its own. -/
structure ChgR (w:World) (x:FV) (F:List S61→Option (List S61 × Int)):Prop where
 enters : ∀ args w,(callFunc x.1 args).run Tryz.prog w = .ok (.enter x.1 args) w
 calls : ∀ (W:World) (A:Option Addr) (c:Nat) (l r:List S61) (code:Int),Below w.heap.size w W→Kd.C k61 W A l.length l→l.length≤c→F l=some (r,code) →
  Calls Tryz.prog x.1 (#[.slice A l.length c] ++ x.2) W fun e W' => ∃ v0,e = .returned (.tuple #[v0,.int .i64 code])∧Kd.R k61 61 W' W.heap.size (fun _=>True) v0 r∧Below W.heap.size W W'
theorem ChgR.below {w W:World} {x:FV} {F:List S61→Option (List S61 × Int)} (h:ChgR w x F) (hb:Below w.heap.size w W):ChgR W x F :=
 ⟨h.enters,fun W2 A c l r code hb2=>h.calls W2 A c l r code (δr hb hb2)⟩
def kF:Kd FV:=Kd.scalar encF (fun _=>rfl)
theorem at_F {w:World} {A:Option Addr} {n:Nat} {xs:List FV} (h:kF.C w A n xs) (i:Int) (h0:0≤i) (h1:i<n) : ∃ ad,A=some ad∧w.cell? (ad.add i.toNat)=some (encF (rdOf (0,#[]) xs i)) :=
 ReadsOf.at_ (Kd.reads_of_C (enc:=encF) (d:=(0,#[])) (h1:=fun _=>rfl) h) i h0 h1
def impl_all.go (k:Nat) (l0:List S61):List (List S61→Option (List S61 × Int))→List S61→Option (List S61 × Int)
 | [],o=>some (o,0)
 | F :: Fs,o=>(F o).bind fun b=>if b.2=0 then impl_all.go k l0 Fs b.1 else (impl_drop.f k l0 ⟨#[]⟩).bind fun d=>some (d.1,b.2)
def impl_all.f (k:Nat) (l0:List S61) (Fs:List (List S61→Option (List S61 × Int))):Option (List S61 × Int):=(impl_drop.f k l0 ⟨#[]⟩).bind fun d=>impl_all.go k l0 Fs d.1
theorem impl_all.calls (k:Nat) (A0:Option Addr) (c0:Nat) (l0:List S61) (B:Option Addr) (cB:Nat) (xs:List FV) (Fs:List (List S61→Option (List S61 × Int))) (r1:List S61) (r2:Int) (w:World) (hr0:Kd.C k61 w A0 l0.length l0) (hc0:l0.length≤c0) (hx:kF.C w B xs.length xs) (hlen:xs.length=Fs.length) (hchg : ∀ (i:Nat) x F,xs[i]? = some x→Fs[i]? = some F→Chg w x F) (h:impl_all.f k l0 Fs=some (r1,r2)) :
  Calls Tryz.prog 69 #[.slice A0 l0.length c0,.slice B xs.length cB] w fun e w' => ∃ v0_:Value,e = .returned (.tuple #[v0_,.int .i64 r2])∧Kd.R k61 61 w' w.heap.size (fun _=>True) v0_ r1∧Below w.heap.size w w':=by
 obtain ⟨⟨d1,d2⟩,h1,h⟩:=Option.bind_eq_some_iff.mp h
 have H1:=ζa h1
 have HG:=ζa h
 have HR0:=ζa hr0
 have HC0:=ζa hc0
 have HX:=ζa hx
 have HL:=ζa hlen
 have HCH:=ζa hchg
 have hmax:xs.length≤9223372036854775807:=hx.2.1
 clear h1 h hr0 hc0 hx hlen hchg
 go_enter Tryz.func69,Tryz.ntmps69
 go_wp2_with fail
 refine (impl_drop.calls k A0 c0 l0 ⟨#[]⟩ d1 d2 _ HR0.out HC0.out H1.out).mono ?_
 rintro e w1 ⟨v,rfl,ho,hb⟩
 have HO:=ζa ho
 have HB:=ζa hb
 clear ho hb
 go_wp2_with fail
 go_loopg [6,21] xs.length (fun gg s6 s21 wr => ∃ (kk:Nat) (o:List S61),kk≤xs.length∧xs.length - kk≤gg∧s21 = .int .i64 kk∧Aside0 (Kd.R k61 61 wr w.heap.size (fun _=>True) s6 o)∧Aside0 (impl_all.go k l0 (Fs.drop kk) o=some (r1,r2))∧Aside0 (Below w.heap.size w wr))
 case atStart=>exact ⟨0,d1,Nat.zero_le _,by omega,rfl,⟨by repeat (exact HO.out)⟩,HG,⟨by repeat (exact HB.out)⟩⟩
 case round =>
  clear HO HB HG
  obtain ⟨kk,o,hkk,hg,rfl,HO,HG,HB⟩:=hrel
  by_cases hlt:kk<xs.length
  ·
   have hltz:(kk:Int)<(xs.length:Int):=by omega
   have p0:0≤(kk:Int):=by omega
   obtain ⟨ad,e1,hx0⟩:=at_F HX.out kk p0 hltz
   cases e1
   rw [Int.toNat_natCast] at hx0
   replace hx0:=(HB.out.cell (World.block_lt_of_cell? w _ hx0)).trans hx0
   have hxk:xs[kk]? = some (rdOf (0,#[]) xs kk):=by
    simp only [rdOf,Int.toNat_natCast,List.getD_eq_getElem?_getD]
    rw [List.getElem?_eq_getElem hlt];rfl
   have hFk:kk<Fs.length:=by rw [← HL.out];exact hlt
   have hch:=HCH.out kk _ (Fs[kk]) hxk (List.getElem?_eq_getElem hFk)
   have hG:=HG.out
   rw [List.drop_eq_getElem_cons hFk] at hG
   obtain ⟨⟨n1,n2⟩,hF,hG⟩:=Option.bind_eq_some_iff.mp hG
   generalize rdOf (0,#[]) xs kk=x at *
   obtain ⟨g,lb⟩:=x
   replace hx0:wr.cell? (ad.add kk)=some (.func (.func g) #[] lb):=hx0
   have eg:=hch.enters
   replace eg : ∀ args w,(callFunc g args).run Tryz.prog w = .ok (.enter g args) w:=eg
   obtain ⟨A,c,rfl,hnc,hrc⟩:=Kd.R_reads HO.out
   have HCHG:=ζa hch
   have HF:=ζa hF
   have HO':=HO
   clear hch hF hxk
   go_wp2_with fail
   refine (HCHG.out.calls _ A c o n1 n2 (by repeat (exact HB.out)) (by repeat (exact hrc)) hnc HF.out).mono ?_
   rintro e w2 ⟨v2,rfl,ho2,hb2⟩
   have HB2:=ζa (δr HB.out hb2)
   have HO2:Aside0 (n2=0→Kd.R k61 61 w2 w.heap.size (fun _=>True) v2 n1):=⟨fun h0=>Kd.R_lower (ho2 h0) HB.out.size⟩
   clear ho2 hb2 hrc
   by_cases c2:n2=0
   ·
    subst c2
    rw [if_pos rfl] at hG
    have HG2:=ζa hG
    have HO3:=ζa (HO2.out rfl)
    clear hG HO2 HO HO' HB HG
    go_wp2
    go_roundg (xs.length - (kk+1))
    case measure=>omega
    case rel=>exact ⟨kk+1,n1,by omega,by omega,by go_num,HO3,HG2,HB2⟩
   ·
    rw [if_neg c2] at hG
    obtain ⟨⟨z1,z2⟩,hd,hG⟩:=Option.bind_eq_some_iff.mp hG
    simp only [Option.some.injEq,Prod.mk.injEq] at hG
    obtain ⟨rfl,rfl⟩:=hG
    have HD:=ζa hd
    have c2b:(n2 != 0)=τ:=bne_iff_ne.mpr c2
    clear hd c2
    go_wp2_with fail
    refine (impl_drop.calls k A0 c0 l0 ⟨#[]⟩ z1 z2 _ (by repeat (exact Kd.C_below HR0.out HB2.out)) HC0.out HD.out).mono ?_
    rintro e w3 ⟨v3,rfl,ho3,hb3⟩
    have HB3:=ζa (δr HB2.out hb3)
    have HO3:=ζa (Kd.R_lower ho3 HB2.out.size)
    clear ho3 hb3
    go_wp2
    go_ret2
    exact ⟨_,rfl,HO3.out,HB3.out⟩
  ·
   have hltz : ¬ (kk:Int)<(xs.length:Int):=by omega
   have hk:kk=xs.length:=by omega
   have hG:=HG.out
   rw [hk,HL.out,List.drop_length] at hG
   simp only [impl_all.go,Option.some.injEq,Prod.mk.injEq] at hG
   obtain ⟨rfl,rfl⟩:=hG
   go_wp2
   go_ret2
   exact ⟨_,rfl,HO.out,HB.out⟩


open List renaming length_take → δh, length_drop → δg
open Go.Proofs.YtggemblkhckbpaaGreatDoorW.PrintWords.Kd renaming R_reads' → ζg
open Go.Proofs.YtggemblkhckbpaaGreatDoorW.PrintWords renaming below_drew1 → δj, gate_dst → δx
set_option maxHeartbeats 8000000
set_option maxRecDepth 100000


/-! ### slices_Insert_impl_Pair_impl_Pair: function 112 -/
theorem slices_Insert_impl_Pair_impl_Pair.cell_at {W:World} {g:Nat} {cur:Array Value} (hg:W.heap[g]? = some (.cells cur 61 (0,0))) (j:Nat):W.cell? ⟨g,j,none⟩=cur[j]?:=by
 simp [World.cell?,hg]
theorem slices_Insert_impl_Pair_impl_Pair.reps {α:Type} {R:α→List Value→Prop} {ps:List α} {cs new:List Value} {p:α} (h:Reps R 2 ps cs) (hp:R p new) (hc:new.length=2) (i:Nat) (hi:i≤ps.length) :
  Reps R 2 (ps.insertIdx i p) (cs.take (i * 2) ++ new ++ cs.drop (i * 2)):=by
 have hl:=h.1
 have ht:(cs.take (i * 2)).length=i * 2:=by rw [δh];omega
 refine ⟨by rw [List.length_insertIdx_of_le_length hi,List.length_append,List.length_append,ht,hc,δg];omega,fun j q hq => ?_⟩
 rw [List.getElem?_insertIdx] at hq
 have e : ∀ d:List Value,d.drop (j * 2)=d.drop (j * 2):=fun _=>rfl
 split at hq
 ·
  rename_i hj
  have:=h.2 j q hq
  rw [List.append_assoc,List.drop_append_of_le_length (by omega),List.take_append_of_le_length (by rw [δg];omega),List.drop_take,List.take_take,Nat.min_eq_left (by omega)]
  exact this
 ·
  rename_i hj
  split at hq
  ·
   rename_i hji
   subst hji
   rw [if_pos hi] at hq
   have hq':p=q:=by simpa using hq
   subst hq'
   rw [List.append_assoc,List.drop_append,ht,Nat.sub_self,List.drop_zero,List.drop_of_length_le (by omega),List.nil_append,List.take_append_of_le_length (by omega),List.take_of_length_le (by omega)]
   exact hp
  ·
   rename_i hji
   have:=h.2 (j - 1) q hq
   rw [List.drop_append,List.length_append,ht,hc,List.drop_of_length_le (by rw [List.length_append];omega),List.nil_append,List.drop_drop,show i * 2+(j * 2 - (i * 2+2))=(j - 1) * 2 by omega]
   exact this
theorem slices_Insert_impl_Pair_impl_Pair.one {w:World} {base:Nat} {ok:Nat→Prop} {xs:List S61} {cs:List Value} (h:Reps (k61.M w base ok) 2 xs cs) : ∀ v ∈ cs,v.oneCell'=τ:=by
 intro v hv
 obtain ⟨k,hk,rfl⟩:=List.getElem_of_mem hv
 have hl:=h.1
 have hj:k / 2<xs.length:=by omega
 have hs:=k61_openM (h.2 (k / 2) _ (List.getElem?_eq_getElem hj))
 have hm:cs[k] ∈ (cs.drop (k / 2 * 2)).take 2:=by
  refine List.mem_iff_getElem?.2 ⟨k % 2,?_⟩
  rw [List.getElem?_take,if_pos (by omega),List.getElem?_drop,show k / 2 * 2+k % 2=k by omega,List.getElem?_eq_getElem hk]
 rw [hs] at hm
 simp at hm
 rcases hm with e|e <;> (rw [e];rfl)
theorem slices_Insert_impl_Pair_impl_Pair.room (base g n c i vb:Nat) (xs:List S61) (p:S61) (w0 w:World) (ho:Kd.R k61 61 w base (fun _=>True) (.slice (some ⟨g,0,none⟩) n c) xs) (hi:i<n) (hroom:n+1≤c) (hn:n≤1000000) (hc:c≤9223372036854775807) (hv:w.heap[vb]? = some (.cells #[.string p.f0,.string p.f1] 61 (0,0))) (hvb:vb≠g) (hb:Below base w0 w) :
  Calls Tryz.prog 112 #[.slice (some ⟨g,0,none⟩) n c,.int .i64 i,.slice (some ⟨vb,0,none⟩) 1 1] w fun e w'=>e = .returned (.slice (some ⟨g,0,none⟩) (n+1) c)∧Kd.R k61 61 w' base (fun _=>True) (.slice (some ⟨g,0,none⟩) (n+1) c) (xs.insertIdx i p)∧Below base w0 w':=by
 have hnl:=(ζg ho).1
 obtain ⟨hok,inner,hown,hr⟩:=ho
 have hin:=hown.1
 rcases hown.2 with ⟨h',_⟩|⟨g',cap',cur,h',hbg,hg,hnc2,hcm,hcs,htk⟩
 · simp at h'
 simp only [Value.slice.injEq,Option.some.injEq,Addr.mk.injEq,and_true,true_and] at h'
 obtain ⟨rfl,hnx,rfl⟩:=h'
 have hs2:k61.sz=2:=rfl
 rw [hs2] at hin hcs htk
 obtain ⟨CU,hCU⟩ : ∃ CU,CU=cur.toList:=⟨_,rfl⟩
 have hCUl:CU.length=c * 2:=by rw [hCU,Array.length_toList,hcs]
 obtain ⟨cs1,hcs1⟩ : ∃ cs1,cs1=(CU.drop (i * 2)).take ((n - i) * 2):=⟨_,rfl⟩
 have hl1:cs1.length=(n - i) * 2:=by rw [hcs1,δh,δg];omega
 obtain ⟨row1,hrow1⟩ : ∃ row1,row1=CU.take ((i+1) * 2) ++ cs1 ++ CU.drop ((n+1) * 2):=⟨_,rfl⟩
 obtain ⟨row2,hrow2⟩ : ∃ row2,row2=row1.take (i * 2) ++ [.string p.f0,.string p.f1] ++ row1.drop (i * 2+2):=⟨_,rfl⟩
 have hl2:row1.length=c * 2:=by rw [hrow1];simp only [List.length_append,δh,δg,hl1];omega
 have hci:cs1=inner.drop (i * 2):=by rw [hcs1,← htk,← hCU,List.drop_take,← hnx];congr 1;omega
 have h1c : ∀ v ∈ cs1,v.oneCell'=τ:=fun v hv=>slices_Insert_impl_Pair_impl_Pair.one hr v (by rw [hci] at hv;exact List.mem_of_mem_drop hv)
 have hsz:(Tryz.prog.info? 61).map (·.size)=some 2:=by kernel_rfl
 have hcp1 : ∀ ty dc sc,(Builtin.copy_ #[25,25] ty #[.slice (some ⟨g,(i+1) * 2,none⟩) (n - i) dc,.slice (some ⟨g,i * 2,none⟩) (n+1 - i) sc]).run Tryz.prog w.drew = .ok (goInt ((n - i:Nat):Int)) (w.drew.setRow g row1.toArray):=fun ty dc sc=>by
  have h:=U.run_copy_row_n (P:=Tryz.prog) w.drew 25 25 ty 61 g ((i+1) * 2) (n - i) dc ⟨g,i * 2,none⟩ (n+1 - i) sc cur 61 cs1 2 (n - i) Tryz.underlying25 hsz hg (by simp only [Nat.min_def];split <;> omega) hl1
   (fun j v hj=>by
    rw [Addr.add_lit,slices_Insert_impl_Pair_impl_Pair.cell_at (W:=w.drew) hg,← Array.getElem?_toList,← hCU]
    rw [hcs1,List.getElem?_take] at hj
    split at hj
    · rwa [List.getElem?_drop] at hj
    ·
     cases hj) (by rw [hl1,hcs];omega) h1c
  rw [h,← hCU,hl1,show (i+1) * 2+(n - i) * 2=(n+1) * 2 by omega,← hrow1]
 have hcp2 : ∀ W:World,W.heap[g]? = some (.cells row1.toArray 61 (0,0))→W.heap[vb]? = some (.cells #[.string p.f0,.string p.f1] 61 (0,0)) → ∀ ty dc,(Builtin.copy_ #[25,25] ty #[.slice (some ⟨g,i * 2,none⟩) (n+1 - i) dc,.slice (some ⟨vb,0,none⟩) 1 1]).run Tryz.prog W = .ok (goInt ((1:Nat):Int)) (W.setRow g row2.toArray):=fun W hW hV ty dc=>by
  have h:=U.run_copy_row_n (P:=Tryz.prog) W 25 25 ty 61 g (i * 2) (n+1 - i) dc ⟨vb,0,none⟩ 1 1 row1.toArray 61 [.string p.f0,.string p.f1] 2 1 Tryz.underlying25 hsz hW (by simp only [Nat.min_def];split <;> omega) rfl
   (fun j v hj=>by
    rw [Addr.add_lit,slices_Insert_impl_Pair_impl_Pair.cell_at hV]
    rcases j with _|_|j
    · simpa using hj
    ·
     simpa using hj
    · simp at hj) (by simp only [List.length_cons,List.length_nil,List.size_toArray,hl2];omega) (by intro v hv;simp at hv;rcases hv with rfl|rfl <;> rfl)
  rw [h,hrow2]
  simp only [List.length_cons,List.length_nil]
 have hov : ∀ lb cb,(callFunc 137 #[.slice (some ⟨vb,0,none⟩) 1 1,.slice (some ⟨g,(i+1) * 2,none⟩) lb cb]).run Tryz.prog w = .ok (.value (.bool φ)) w:=fun lb cb=>by
  rw [run_callFunc_extern Tryz.func137 (by kernel_rfl) (by kernel_rfl) (by kernel_rfl) (e:=Extern.SlicesOverlaps.overlaps #[25,25] #[4]) (by kernel_rfl),
   Lib.run_overlaps_apart w 25 4 61 Tryz.underlying25 2 (fun w=>by kernel_rfl) ⟨vb,0,none⟩ ⟨g,(i+1) * 2,none⟩ 1 1 lb cb hvb 61 61 2 (c * 2) (by simp [World.shape?,hv]) (by simp [World.shape?,hg,hcs]) (by omega) (by simp [World.frozen?,hv]) (by simp [World.frozen?,hv])]
  rfl
 have hR : ∀ W:World,W.heap[g]? = some (.cells row2.toArray 61 (0,0))→Kd.R k61 61 W base (fun _=>True) (.slice (some ⟨g,0,none⟩) (n+1) c) (xs.insertIdx i p):=fun W hW=>by
  have hrr:=slices_Insert_impl_Pair_impl_Pair.reps (hr.imp_ (fun q z hq=>(by rw [k61_openM hq];exact k61_mkM _ _ _ q:k61.M W base (fun k=>True∧some k≠(Value.slice (some ⟨g,0,none⟩) (n+1) c).ownBlock) q z))) (k61_mkM _ _ _ p) rfl i (by omega)
  have hlen:(xs.insertIdx i p).length=n+1:=by rw [List.length_insertIdx_of_le_length (by omega)];omega
  have hmid:=U.ins_list CU [.string p.f0,.string p.f1] i n 2 (by omega) rfl (by omega)
  have htk2:row2.take ((n+1) * 2)=inner.take (i * 2) ++ [.string p.f0,.string p.f1] ++ inner.drop (i * 2):=by
   rw [hrow2,hrow1,hcs1,hmid,List.take_append_of_le_length (by simp only [List.length_append,δh,δg,List.length_cons,List.length_nil];omega),List.take_of_length_le (by simp only [List.length_append,δh,δg,List.length_cons,List.length_nil];omega),← htk,← hCU,List.take_take,Nat.min_eq_left (by omega),← hnx]
  refine ⟨fun _ _=>trivial,_,⟨?_,Or.inr ⟨g,c,row2.toArray,by rw [hlen],hbg,hW,by omega,hcm,?_,?_⟩⟩,hrr⟩
  · rw [hs2];exact hrr.1
  ·
   rw [hs2,List.size_toArray,hrow2]
   simp only [List.length_append,δh,δg,List.length_cons,List.length_nil,hl2]
   omega
  · rw [hs2,hlen];exact htk2
 have hz2 : ¬ ((i:Int)=(n:Int)):=by omega
 have hw1:IntKind.i64.wrap ((i:Int)+(1:Int))=(i:Int)+(1:Int):=by rw [IntKind.wrap_i64];omega
 have hb1:(0:Int)≤(i:Int)+(1:Int):=by omega
 have htn:((i:Int)+(1:Int)).toNat=i+1:=by omega
 have hb2 : ¬ (c=i+1):=by omega
 have hb3:(i:Int)≤(n:Int)+(1:Int):=by omega
 have hb4 : ¬ (c=i):=by omega
 have hil:i≤n:=by omega
 have mixed:Tryz.prog.follows Departure.mixedOrders=τ:=by kernel_rfl
 have hgW:=setRow_heap w.drew g cur row1.toArray 61 (0,0) hg
 have hvW:(w.drew.setRow g row1.toArray).heap[vb]? = some (.cells #[.string p.f0,.string p.f1] 61 (0,0)):=by
  rw [Go.setRow_other w.drew g vb _ hvb];exact hv
 have hgF:=setRow_heap (w.drew.setRow g row1.toArray) g row1.toArray row2.toArray 61 (0,0) hgW
 have HR:=ζa (hR _ hgF)
 have HB:=ζa (below_setRow (below_setRow (δj hb) hbg row1.toArray) hbg row2.toArray)
 have hcp2':=hcp2 _ hgW hvW
 clear hR hcp2 hrow2 hrow1 hcs1 hCU hCUl hl1 hl2 htk hcs hin hown hr hok hb hgF hgW hvW h1c hv hnl hnx hnc2
 go_enter Tryz.func112,Tryz.ntmps112
 go_wp2_with (simp only [hov])
 go_region_law_o (refine step_copy_runI rfl _ _ 25 25 rfl _ _ (by simp [Act.eval,ζl]) (by simp [Act.eval,ζl]) (hcp1 _ _ _) ?_)
 go_wp2_with (at_builtin;refine wpList_copy_runI _ rfl _ _ 25 25 rfl _ _ rfl rfl (hcp2' _ _) ?_)
 go_ret
 exact ⟨rfl,HR.out,HB.out⟩
theorem slices_Insert_impl_Pair_impl_Pair.grow (base g n c i vb:Nat) (xs:List S61) (p:S61) (w0 w:World) (ho:Kd.R k61 61 w base (fun _=>True) (.slice (some ⟨g,0,none⟩) n c) xs) (hi:i<n) (hnc:n≤c) (hroom:c<n+1) (hn:n≤1000000) (hv:w.heap[vb]? = some (.cells #[.string p.f0,.string p.f1] 61 (0,0))) (hb:Below base w0 w) (hbs:base≤w.heap.size) :
  Calls Tryz.prog 112 #[.slice (some ⟨g,0,none⟩) n c,.int .i64 i,.slice (some ⟨vb,0,none⟩) 1 1] w fun e w' => ∃ v0,e = .returned v0∧Kd.R k61 61 w' base (fun _=>True) v0 (xs.insertIdx i p)∧Below base w0 w':=by
 have hnl:=(ζg ho).1
 obtain ⟨hok,inner,hown,hr⟩:=ho
 have hin:=hown.1
 rcases hown.2 with ⟨h',_⟩|⟨g',cap',cur,h',hbg,hg,hnc2,hcm,hcs,htk⟩
 · simp at h'
 simp only [Value.slice.injEq,Option.some.injEq,Addr.mk.injEq,and_true,true_and] at h'
 obtain ⟨rfl,hnx,rfl⟩:=h'
 have hs2:k61.sz=2:=rfl
 rw [hs2] at hin hcs htk
 obtain ⟨CU,hCU⟩ : ∃ CU,CU=cur.toList:=⟨_,rfl⟩
 have hCUl:CU.length=c * 2:=by rw [hCU,Array.length_toList,hcs]
 obtain ⟨cs1,hci⟩ : ∃ cs1,cs1=inner.drop (i * 2):=⟨_,rfl⟩
 have hinl:inner.length=n * 2:=by rw [hin,hnl]
 have hl1:cs1.length=(n - i) * 2:=by rw [hci,δg];omega
 have h1c : ∀ v ∈ cs1,v.oneCell'=τ:=fun v hv=>slices_Insert_impl_Pair_impl_Pair.one hr v (by rw [hci] at hv;exact List.mem_of_mem_drop hv)
 have hsz:(Tryz.prog.info? 61).map (·.size)=some 2:=by kernel_rfl
 obtain ⟨i0,hi0,hzz⟩:=Option.map_eq_some_iff.1 info61
 simp only [Prod.mk.injEq] at hzz
 obtain ⟨hz0,hzs,hzb⟩:=hzz
 have hgw:g<w.heap.size:=(Array.getElem?_eq_some_iff.1 hg).1
 have hvw:vb<w.heap.size:=(Array.getElem?_eq_some_iff.1 hv).1
 have hkk:(n:Int)+(1:Int) - (i:Int)=((n+1 - i:Nat):Int):=by omega
 have hik:i+(n+1 - i)=n+1:=by omega
 have hold:(Builtin.firstCells i0.size i (.slice (some ⟨g,0,none⟩) i c)).run Tryz.prog w.drew = .ok (inner.take (i * 2)).toArray w.drew:=by
  rw [hzs]
  exact run_firstCells_some w.drew 2 i ⟨g,0,none⟩ i c (inner.take (i * 2)) (by rw [δh];omega) (fun j v hj=>by
   rw [Addr.add_lit,Nat.zero_add,slices_Insert_impl_Pair_impl_Pair.cell_at (W:=w.drew) hg,← Array.getElem?_toList]
   rw [List.getElem?_take] at hj
   split at hj
   ·
    rw [← htk,List.getElem?_take] at hj
    split at hj
    · exact hj
    ·
     cases hj
   · cases hj)
 have hrz : ∀ ty,(Builtin.append_ #[25,3] ty #[.slice (some ⟨g,0,none⟩) i c,.int .i64 ((n:Int)+(1:Int) - (i:Int))]).run Tryz.prog w = .ok (.slice (some ⟨w.heap.size,0,none⟩) (n+1) (grownCap w (n+1) c 61)) (w.drew.alloc (.cells ((inner.take (i * 2)).toArray ++ Builtin.zeroCells (Value.agg #[.string ⟨#[]⟩,.string ⟨#[]⟩]).cells (n+1 - i) ++ Builtin.zeroCells (Value.agg #[.string ⟨#[]⟩,.string ⟨#[]⟩]).cells (grownCap w (n+1) c 61 - (n+1))) 61)):=fun ty=>by
  have h:=Lib.run_append_grow_zeros w 25 3 ty 61 i0 _ .i64 .i64 Tryz.underlying25 Tryz.underlying3 hi0 hz0 (some ⟨g,0,none⟩) i c _ hold (n+1 - i) (by omega) (by rw [hzs];omega) (by omega) (by omega) (by rw [hzb];omega) (by rw [hzb,hik];exact growslice_fits hroom (by omega))
  rw [hik] at h
  rw [hkk]
  exact h
 obtain ⟨G,hG⟩ : ∃ G,G=grownCap w (n+1) c 61:=⟨_,rfl⟩
 rw [← hG] at hrz
 obtain ⟨ROW,hROW⟩ : ∃ ROW:Array Value,ROW=(inner.take (i * 2)).toArray ++ Builtin.zeroCells (Value.agg #[.string ⟨#[]⟩,.string ⟨#[]⟩]).cells (n+1 - i) ++ Builtin.zeroCells (Value.agg #[.string ⟨#[]⟩,.string ⟨#[]⟩]).cells (G - (n+1)):=⟨_,rfl⟩
 rw [← hROW] at hrz
 have hRl:ROW.toList.length=G * 2:=by
  have hGn:n+1≤G:=by rw [hG];exact grownCap_ge w _ _ _
  rw [hROW]
  simp [Builtin.zeroCells,Value.cells]
  omega
 have hGn:n+1≤G:=by rw [hG];exact grownCap_ge w _ _ _
 have hG63:G≤maxLen:=by rw [hG];exact grownCap_le_maxLen w (n+1) c _ (by unfold maxLen;omega)
 have hRt:ROW.toList.take (i * 2)=inner.take (i * 2):=by
  rw [hROW]
  simp only [Array.toList_append,List.append_assoc]
  rw [List.take_append_of_le_length (by rw [δh];omega),List.take_take,Nat.min_self]
 obtain ⟨rowA,hrowA⟩ : ∃ rowA,rowA=ROW.toList.take (i * 2) ++ [.string p.f0,.string p.f1] ++ ROW.toList.drop (i * 2+2):=⟨_,rfl⟩
 have hlA:rowA.length=G * 2:=by rw [hrowA];simp only [List.length_append,δh,δg,List.length_cons,List.length_nil,hRl];omega
 obtain ⟨rowB,hrowB⟩ : ∃ rowB,rowB=rowA.take ((i+1) * 2) ++ cs1 ++ rowA.drop ((n+1) * 2):=⟨_,rfl⟩
 obtain ⟨N,hN⟩ : ∃ N,N=w.heap.size:=⟨_,rfl⟩
 have hcpA : ∀ W:World,W.heap[N]? = some (.cells ROW 61 (0,0))→W.heap[vb]? = some (.cells #[.string p.f0,.string p.f1] 61 (0,0)) → ∀ ty dc,(Builtin.copy_ #[25,25] ty #[.slice (some ⟨N,i * 2,none⟩) (n+1 - i) dc,.slice (some ⟨vb,0,none⟩) 1 1]).run Tryz.prog W = .ok (goInt ((1:Nat):Int)) (W.setRow N rowA.toArray):=fun W hW hV ty dc=>by
  have h:=U.run_copy_row_n (P:=Tryz.prog) W 25 25 ty 61 N (i * 2) (n+1 - i) dc ⟨vb,0,none⟩ 1 1 ROW 61 [.string p.f0,.string p.f1] 2 1 Tryz.underlying25 hsz hW (by simp only [Nat.min_def];split <;> omega) rfl
   (fun j v hj=>by
    rw [Addr.add_lit,slices_Insert_impl_Pair_impl_Pair.cell_at hV]
    rcases j with _|_|j
    · simpa using hj
    ·
     simpa using hj
    · simp at hj) (by rw [Array.length_toList] at hRl;simp only [List.length_cons,List.length_nil,hRl];omega) (by intro v hv;simp at hv;rcases hv with rfl|rfl <;> rfl)
  rw [h,hrowA]
  simp only [List.length_cons,List.length_nil]
 have hcpB : ∀ W:World,W.heap[N]? = some (.cells rowA.toArray 61 (0,0))→W.heap[g]? = some (.cells cur 61 (0,0)) → ∀ ty dc sc,(Builtin.copy_ #[25,25] ty #[.slice (some ⟨N,(i+1) * 2,none⟩) (n - i) dc,.slice (some ⟨g,i * 2,none⟩) (n - i) sc]).run Tryz.prog W = .ok (goInt ((n - i:Nat):Int)) (W.setRow N rowB.toArray):=fun W hW hV ty dc sc=>by
  have h:=U.run_copy_row_n (P:=Tryz.prog) W 25 25 ty 61 N ((i+1) * 2) (n - i) dc ⟨g,i * 2,none⟩ (n - i) sc rowA.toArray 61 cs1 2 (n - i) Tryz.underlying25 hsz hW (by simp only [Nat.min_def];split <;> omega) hl1
   (fun j v hj=>by
    rw [Addr.add_lit,slices_Insert_impl_Pair_impl_Pair.cell_at hV,← Array.getElem?_toList]
    rw [hci,← htk,List.getElem?_drop,List.getElem?_take] at hj
    split at hj
    · exact hj
    ·
     cases hj) (by rw [hl1,List.size_toArray,hlA];omega) h1c
  rw [h,hl1,show (i+1) * 2+(n - i) * 2=(n+1) * 2 by omega,hrowB]
 have hR : ∀ W:World,W.heap[N]? = some (.cells rowB.toArray 61 (0,0))→Kd.R k61 61 W base (fun _=>True) (.slice (some ⟨N,0,none⟩) (n+1) G) (xs.insertIdx i p):=fun W hW=>by
  have hrr:=slices_Insert_impl_Pair_impl_Pair.reps (hr.imp_ (fun q z hq=>(by rw [k61_openM hq];exact k61_mkM _ _ _ q:k61.M W base (fun k=>True∧some k≠(Value.slice (some ⟨N,0,none⟩) (n+1) G).ownBlock) q z))) (k61_mkM _ _ _ p) rfl i (by omega)
  have hlen:(xs.insertIdx i p).length=n+1:=by rw [List.length_insertIdx_of_le_length (by omega)];omega
  have hA2:rowA.take ((i+1) * 2)=inner.take (i * 2) ++ [.string p.f0,.string p.f1]:=by
   rw [hrowA,hRt,List.take_append_of_le_length (by simp only [List.length_append,δh,List.length_cons,List.length_nil];omega),List.take_of_length_le (by simp only [List.length_append,δh,List.length_cons,List.length_nil];omega)]
  have htk2:rowB.take ((n+1) * 2)=inner.take (i * 2) ++ [.string p.f0,.string p.f1] ++ inner.drop (i * 2):=by
   rw [hrowB,hA2,hci,List.take_append_of_le_length (by simp only [List.length_append,δh,δg,List.length_cons,List.length_nil];omega),List.take_of_length_le (by simp only [List.length_append,δh,δg,List.length_cons,List.length_nil];omega)]
  refine ⟨fun _ _=>trivial,_,⟨?_,Or.inr ⟨N,G,rowB.toArray,by rw [hlen],by omega,hW,by omega,hG63,?_,?_⟩⟩,hrr⟩
  · rw [hs2];exact hrr.1
  ·
   rw [hs2,List.size_toArray,hrowB]
   simp only [List.length_append,δh,δg,hl1,hlA]
   omega
  · rw [hs2,hlen];exact htk2
 have HR:=ζa hR
 have HB:=ζa hb
 have hgA : ∀ o:Array Value,(w.drew.alloc (.cells o 61)).heap[N]? = some (.cells o 61 (0,0)):=fun o=>by rw [hN];exact Go.Deep.blk_alloc_new w.drew _
 have hvA : ∀ o:Obj,(w.drew.alloc o).heap[vb]? = some (.cells #[.string p.f0,.string p.f1] 61 (0,0)):=fun o=>by rw [Go.Deep.blk_alloc_lt w.drew _ _ hvw];exact hv
 have hcA : ∀ o:Obj,(w.drew.alloc o).heap[g]? = some (.cells cur 61 (0,0)):=fun o=>by rw [Go.Deep.blk_alloc_lt w.drew _ _ hgw];exact hg
 have hgN:g≠N:=by omega
 have hw1:IntKind.i64.wrap ((i:Int)+(1:Int))=(i:Int)+(1:Int):=by rw [IntKind.wrap_i64];omega
 have hz2 : ¬ ((i:Int)=(n:Int)):=by omega
 have hz3:(c:Int)<(n:Int)+(1:Int):=by omega
 have hb1:(0:Int)≤(i:Int)+(1:Int):=by omega
 have hin:i≤n:=by omega
 have htn:((i:Int)+(1:Int)).toNat=i+1:=by omega
 have hb3:(i:Int)≤(n:Int):=by omega
 have hGi : ¬ (G=i):=by omega
 have hGim : ¬ (G=i+1):=by omega
 have hci2 : ¬ (c=i):=by omega
 have mixed:Tryz.prog.follows Departure.mixedOrders=τ:=by kernel_rfl
 have hNb:base≤N:=by omega
 have hcpA1:=hcpA _ (hgA ROW) (hvA _)
 have hcpA2 : ∀ ty dc,(Builtin.copy_ #[25,25] ty #[.slice (some ⟨N,i * 2,none⟩) (n+1 - i) dc,.slice (some ⟨vb,0,none⟩) 1 1]).run Tryz.prog (w.alloc (.cells ROW 61)).drew = .ok (goInt ((1:Nat):Int)) ((w.alloc (.cells ROW 61)).drew.setRow N rowA.toArray):=hcpA1
 have hgB:=setRow_heap (w.drew.alloc (.cells ROW 61)) N ROW rowA.toArray 61 (0,0) (hgA ROW)
 have hgF:=setRow_heap _ N rowA.toArray rowB.toArray 61 (0,0) hgB
 have hcpB1:=hcpB _ hgB (by rw [Go.setRow_other _ N g _ hgN];exact hcA _)
 have hgc:((w.drew.alloc (.cells ROW 61)).setRow N rowA.toArray).heap[g]? = some (.cells cur 61 (0,0)):=by rw [Go.setRow_other _ N g _ hgN];exact hcA _
 have hcpB2 : ∀ ty dc sc,(Builtin.copy_ #[25,25] ty #[.slice (some ⟨N,(i+1) * 2,none⟩) (n - i) dc,.slice (some ⟨g,i * 2,none⟩) (n - i) sc]).run Tryz.prog ((w.alloc (.cells ROW 61)).drew.setRow N rowA.toArray).drew = .ok (goInt ((n - i:Nat):Int)) (((w.alloc (.cells ROW 61)).drew.setRow N rowA.toArray).drew.setRow N rowB.toArray):=hcpB _ hgB hgc
 have HF2:Aside0 (Kd.R k61 61 (((w.alloc (.cells ROW 61)).drew.setRow N rowA.toArray).drew.setRow N rowB.toArray) base (fun _=>True) (.slice (some ⟨N,0,none⟩) (n+1) G) (xs.insertIdx i p)):=⟨hR _ hgF⟩
 have hb2:Below base w0 ((w.alloc (.cells ROW 61)).drew):=δj (hb.alloc hbs _)
 have HB2:Aside0 (Below base w0 (((w.alloc (.cells ROW 61)).drew.setRow N rowA.toArray).drew.setRow N rowB.toArray)):=⟨below_setRow (δj (below_setRow hb2 hNb _)) hNb _⟩
 clear hb2
 have HF:=ζa (hR _ hgF)
 have HBF:Aside0 (Below base w0 (((w.drew.alloc (.cells ROW 61)).setRow N rowA.toArray).setRow N rowB.toArray)):=⟨below_setRow (below_setRow ((δj hb).alloc hbs _) hNb _) hNb _⟩
 rw [← hN] at hrz
 clear hgc hN hkk hik hold hROW hG hRl hR hcpA hcpB hrowA hrowB hlA hRt hgA hvA hcA hgB hgF hci hl1 h1c hinl hCU hCUl htk hcs hown hr hok hv hg hb hnl hnx hnc2 hi0 hz0 hzs hzb HR HB hgw hvw hbs hbg hNb
 go_enter Tryz.func112,Tryz.ntmps112
 go_wp2_with (first
  | (at_builtin;refine Lib.wpList_append_run _ rfl _ _ _ _ rfl _ _ rfl rfl _ _ (hrz _) ?_)
  | simp only [hcpA2,Result.andThen_ok])
 go_region_law_o (refine step_copy_runI rfl _ _ 25 25 rfl _ _ (by simp [Act.eval,ζl]) (by simp [Act.eval,ζl]) (hcpB2 _ _ _) ?_)
 go_wp2_with fail
 go_ret
 exact ⟨_,rfl,HF2.out,HB2.out⟩
theorem slices_Insert_impl_Pair_impl_Pair.atEnd (base n c vb:Nat) (A:Option Addr) (xs:List S61) (p:S61) (w0 w:World) (ho:Kd.R k61 61 w base (fun _=>True) (.slice A n c) xs) (hn:n≤1000000) (hv:w.heap[vb]? = some (.cells #[.string p.f0,.string p.f1] 61 (0,0))) (hb:Below base w0 w) (hbs:base≤w.heap.size) :
  Calls Tryz.prog 112 #[.slice A n c,.int .i64 n,.slice (some ⟨vb,0,none⟩) 1 1] w fun e w' => ∃ v0,e = .returned v0∧Kd.R k61 61 w' base (fun _=>True) v0 (xs ++ [p])∧Below base w0 w':=by
 have HO:=ζa ho
 have HB:=ζa hb
 have hl:=(ζg ho).1
 have HRR:Aside0 (ReadsRow (fun (x:S61) cs=>cs = [.string x.f0,.string x.f1]) k61.sz w (some ⟨vb,0,none⟩) 1 [p]):=⟨rfl,by omega,fun _=>⟨_,rfl,fun j q hj=>by
  have hj0:j=0:=by
   rcases j with _|j
   · rfl
   ·
    simp at hj
  subst hj0
  have hq:p=q:=by simpa using hj
  subst hq
  refine ⟨_,rfl,rfl,fun t u hu => ?_⟩
  rw [Addr.add_lit,slices_Insert_impl_Pair_impl_Pair.cell_at hv]
  rcases t with _|_|t
  · simpa using hu
  ·
   simpa using hu
  · simp at hu⟩⟩
 have HL:Aside0 ((xs.length+1) * 32≤140737488355328):=⟨by omega⟩
 clear ho hb hl
 go_enter Tryz.func112,Tryz.ntmps112
 go_wp2_with ((with_reducible refine δx (N:=25) rfl ?_);refine Kd.R_append_rows (w0:=w0) (Rr:=fun (x:S61) cs=>cs = [.string x.f0,.string x.f1]) k61 base ?hg (.tmp 23) (.tmp 24) 25 61 (.agg #[(.string ⟨#[]⟩),(.string ⟨#[]⟩)]) 32 rfl Tryz.underlying25 info61 rfl (by decide) (by decide) (.slice A n c) xs [p] (some ⟨vb,0,none⟩) 1 1 (fun _=>True) (fun _=>False) rfl rfl HO.out HRR.out (fun x cs h=>by rw [h];exact k61_mkM _ _ _ x) (fun _ h=>h.elim) (fun _ _=>trivial) HB.out hbs HL.out ?_;(case hg=>rfl);intro v7 w7 ho7 hb7 hg_ hnew_;clear hg_ hnew_;have HO7:=ζa ho7;have HB7:=ζa hb7;clear ho7 hb7)
 all_goals (go_ret;exact ⟨_,rfl,HO7.out,HB7.out⟩)
theorem slices_Insert_impl_Pair_impl_Pair.calls (base n c i vb:Nat) (A:Option Addr) (xs:List S61) (p:S61) (w0 w:World) (ho:Kd.R k61 61 w base (fun _=>True) (.slice A n c) xs) (hi:i≤n) (hnc:n≤c) (hc:c≤9223372036854775807) (hn:n≤1000000) (hv:w.heap[vb]? = some (.cells #[.string p.f0,.string p.f1] 61 (0,0))) (hvb : ∀ a,A=some a→vb≠a.block) (hb:Below base w0 w) (hbs:base≤w.heap.size) :
  Calls Tryz.prog 112 #[.slice A n c,.int .i64 i,.slice (some ⟨vb,0,none⟩) 1 1] w fun e w' => ∃ v0,e = .returned v0∧Kd.R k61 61 w' base (fun _=>True) v0 (xs.insertIdx i p)∧Below base w0 w':=by
 have hnl:=(ζg ho).1
 by_cases hin:i=n
 ·
  subst hin
  have e:xs.insertIdx i p=xs ++ [p]:=by rw [hnl];exact List.insertIdx_length_self
  rw [e]
  exact slices_Insert_impl_Pair_impl_Pair.atEnd base i c vb A xs p w0 w ho hn hv hb hbs
 ·
  have hlt:i<n:=by omega
  have hA : ∃ g,A=some ⟨g,0,none⟩:=by
   obtain ⟨_,inner,hown,_⟩:=ho
   rcases hown.2 with ⟨_,h0⟩|⟨g,cap,cur,hv',_⟩
   · omega
   ·
    simp only [Value.slice.injEq] at hv'
    exact ⟨g,hv'.1⟩
  obtain ⟨g,rfl⟩:=hA
  by_cases hr:n+1≤c
  · exact (slices_Insert_impl_Pair_impl_Pair.room base g n c i vb xs p w0 w ho hlt hr hn hc hv (hvb _ rfl) hb).mono (fun e w' h=>⟨_,h⟩)
  ·
   exact slices_Insert_impl_Pair_impl_Pair.grow base g n c i vb xs p w0 w ho hlt hnc (by omega) hn hv hb hbs


open Go.Proofs.YtggemblkhckbpaaGreatDoorW.PrintWords.Kd renaming R_reads' → ζg, R_below → ζh, R_alloc → ζd
open Go.Proofs.YtggemblkhckbpaaGreatDoorW.PrintWords renaming below_step → δr, below_set → δq, below_alloc → δk
set_option maxHeartbeats 8000000
set_option maxRecDepth 100000


/-! ### impl_put: function 73 -/
def impl_put.f (k:Nat) (l0:List (S61)) (a1 a2:ByteArray):Option (List (S61) × Int) :=
 if l0.length≤1000000 then ((impl_pairAt.f k l0 a1).bind fun b=>if 0≤b.1 then (if b.1≤(l0.length:Int) then (if b.2=τ then (if b.1<(l0.length:Int) then some (l0.set b.1.toNat ⟨(rd_T61 l0 b.1).f0,a2⟩,0) else none) else (if (l0.length:Int)=400 then some (l0,7) else some (l0.insertIdx b.1.toNat ⟨a1,a2⟩,0))) else none) else none) else none
theorem impl_put.calls (k:Nat) (A0:Option Addr) (c0:Nat) (l0:List (S61)) (a1 a2:ByteArray) (r1:List (S61)) (r2:Int) (w:World) (hr0:Kd.C k61 w A0 l0.length l0) (hc0:l0.length≤c0) (h:impl_put.f k l0 a1 a2=some (r1,r2)) :
  Calls Tryz.prog 73 #[.slice A0 l0.length c0,.string a1,.string a2] w fun e w' => ∃ v0_:Value,e = .returned (.tuple #[v0_,.int .i64 r2])∧Kd.R k61 61 w' w.heap.size (fun _=>True) v0_ r1∧Below w.heap.size w w':=by
 unfold impl_put.f at h
 by_cases hl:l0.length≤1000000
 ·
  rw [if_pos hl] at h
  obtain ⟨⟨b1,b2⟩,h1,h⟩:=Option.bind_eq_some_iff.mp h
  by_cases g1:0≤b1
  ·
   rw [if_pos g1] at h
   by_cases g2:b1≤(l0.length:Int)
   ·
    rw [if_pos g2] at h
    have H1:=ζa h1
    have HL:=ζa hl
    have HR0:=ζa hr0
    have HC0:=ζa hc0
    have HCL:Aside0 (slices_Clone_impl_Pair_impl_Pair.f l0=some l0):=⟨by unfold slices_Clone_impl_Pair_impl_Pair.f;rw [if_pos (by omega)]⟩
    clear h1 hr0 hc0 hl
    obtain ⟨i,rfl⟩ : ∃ i:Nat,b1=(i:Int):=⟨b1.toNat,by omega⟩
    have hi:i≤l0.length:=by omega
    have HI:=ζa hi
    clear g1 g2 hi
    cases b2 with
    | true =>
     rw [if_pos rfl] at h
     by_cases g3:(i:Int)<(l0.length:Int)
     ·
      rw [if_pos g3] at h
      simp only [Option.some.injEq,Prod.mk.injEq] at h
      obtain ⟨rfl,rfl⟩:=h
      have G3:=ζa g3
      clear g3
      go_enter Tryz.func73,Tryz.ntmps73
      go_wp2_with fail
      refine (slices_Clone_impl_Pair_impl_Pair.calls A0 c0 l0 l0 _ HR0.out HC0.out HCL.out).mono ?_
      rintro e w' ⟨v,rfl,ho,hb⟩
      have hshape : ∃ g c,v = .slice (some ⟨g,0,none⟩) l0.length c∧l0.length≤c∧w.heap.size≤g:=by
       obtain ⟨_,inner,hown,_⟩:=ho
       rcases hown.2 with ⟨_,h0⟩|⟨g,cap,cur,hv,hbg,_,hn,_⟩
       · have:=G3.out;omega
       ·
        exact ⟨g,cap,hv,hn,hbg⟩
      obtain ⟨g,c,rfl,hnc,hwg⟩:=hshape
      have HC:=ζa (ζg ho).2.2
      have HO:=ζa ho
      have HB:=ζa hb
      have HN:=ζa hnc
      have HG:=ζa hwg
      clear ho hb hnc hwg
      go_wp2_with fail
      refine (impl_pairAt.calls k (some ⟨g,0,none⟩) c l0 a1 i τ _ HC.out HN.out H1.out).mono ?_
      rintro e w2 ⟨rfl,hb2⟩
      have HO2:=ζa (ζh HO.out hb2)
      have HB2:=ζa (δr HB.out hb2)
      clear hb2
      have p0:0≤(i:Int):=by omega
      have q0:(i:Int)<(l0.length:Int):=G3.out
      obtain ⟨ce,hcl,hM,hcc,hfr⟩:=Kd.R_elem HO2.out z61 (i:Int) p0 q0
      obtain rfl:=k61_openM hM
      have HP:=ζa (Kd.R_seg HO2.out (i:Int) p0 q0 (seg:=[.string a2]) (j:=1) hcl hcc (show 2≤2 from by decide) (x':=(⟨(rd_T61 l0 (i:Int)).f0,a2⟩:S61)) (k61_mkM _ _ _ (⟨(rd_T61 l0 (i:Int)).f0,a2⟩:S61)) (fun _ hk=>hk))
      have hx1:w2.cell? ⟨g,i * 2+1,none⟩=some (.string ((rd_T61 l0 (i:Int)).f1)):=hcc 1 _ rfl
      have hf1:w2.frozen? ⟨g,i * 2+1,none⟩=φ:=hfr 1
      clear hcl hcc hfr hM
      go_wp2_with (((with_reducible refine gate_store (t:=9) (p:=32) rfl ?_);refine store_event (t:=9) (p:=32) (v:=?vo) (w1:=(w2.setCell ⟨g,i * 2+1,none⟩ (.string a2))) ?hg ?ho ?hn ?hr ?_;(case ho=>rfl);(case hg=>rfl);(case hn=>rfl);(case hr=>(go_simp;done));intro w3 hw;have HO3:Aside0 (Kd.R k61 61 w3 w.heap.size (fun _=>True) (.slice (some ⟨g,0,none⟩) l0.length c) (l0.set (i:Int).toNat ⟨(rd_T61 l0 (i:Int)).f0,a2⟩)):=⟨by rw [hw];exact HP.out.1⟩;have HB3:Aside0 (Below w.heap.size w w3):=⟨by rw [hw];exact δq HB2.out HG.out⟩;clear hw))
      go_ret2
      exact ⟨_,rfl,HO3.out,HB3.out⟩
     · rw [if_neg g3] at h;cases h
    | false =>
     simp only [Bool.false_eq_true,if_false] at h
     by_cases g3:(l0.length:Int)=400
     ·
      rw [if_pos g3] at h
      simp only [Option.some.injEq,Prod.mk.injEq] at h
      obtain ⟨rfl,rfl⟩:=h
      have c3:((l0.length:Int) == 400)=τ:=beq_iff_eq.mpr g3
      clear g3
      go_enter Tryz.func73,Tryz.ntmps73
      go_wp2_with fail
      refine (slices_Clone_impl_Pair_impl_Pair.calls A0 c0 l0 l0 _ HR0.out HC0.out HCL.out).mono ?_
      rintro e w' ⟨v,rfl,ho,hb⟩
      obtain ⟨A,c,rfl,hnc,hrc⟩:=Kd.R_reads ho
      have HO:=ζa ho
      have HB:=ζa hb
      have HC:=ζa hrc
      have HN:=ζa hnc
      clear ho hb hrc hnc
      go_wp2_with fail
      refine (impl_pairAt.calls k A c l0 a1 i φ _ HC.out HN.out H1.out).mono ?_
      rintro e w2 ⟨rfl,hb2⟩
      have HO2:=ζa (ζh HO.out hb2)
      have HB2:=ζa (δr HB.out hb2)
      clear hb2
      go_wp2
      go_ret2
      exact ⟨_,rfl,HO2.out,HB2.out⟩
     ·
      rw [if_neg g3] at h
      simp only [Option.some.injEq,Prod.mk.injEq] at h
      obtain ⟨rfl,rfl⟩:=h
      have c3:((l0.length:Int) == 400)=φ:=beq_eq_false_iff_ne.mpr g3
      clear g3
      go_enter Tryz.func73,Tryz.ntmps73
      go_wp2_with fail
      refine (slices_Clone_impl_Pair_impl_Pair.calls A0 c0 l0 l0 _ HR0.out HC0.out HCL.out).mono ?_
      rintro e w' ⟨v,rfl,ho,hb⟩
      have hmx : ∀ A n c,v = .slice A n c→c≤9223372036854775807:=by
       rintro A n c rfl
       obtain ⟨_,inner,hown,_⟩:=ho
       rcases hown.2 with ⟨hv,_⟩|⟨g,cap,cur,hv,_,_,_,hm,_⟩
       · simp only [Value.slice.injEq] at hv;omega
       ·
        simp only [Value.slice.injEq] at hv
        have:maxLen=9223372036854775807:=rfl
        omega
      obtain ⟨A,c,rfl,hnc,hrc⟩:=Kd.R_reads ho
      have HM:=ζa (hmx A _ c rfl)
      have HO:=ζa ho
      have HB:=ζa hb
      have HC:=ζa hrc
      have HN:=ζa hnc
      clear ho hb hrc hnc hmx
      go_wp2_with fail
      refine (impl_pairAt.calls k A c l0 a1 i φ _ HC.out HN.out H1.out).mono ?_
      rintro e w2 ⟨rfl,hb2⟩
      have HO2:=ζa (ζh HO.out hb2)
      have HB2:=ζa (δr HB.out hb2)
      clear hb2
      go_wp2_with fail
      have hA : ∀ a,A=some a→w2.heap.size≠a.block:=by
       rintro a rfl
       have:=Kd.R_lt HO2.out a.block (by
        obtain ⟨_,inner,hown,_⟩:=HO2.out
        rcases hown.2 with ⟨hv,_⟩|⟨g,cap,cur,hv,_⟩
        · simp at hv
        ·
         simp only [Value.slice.injEq,Option.some.injEq] at hv;rw [hv.1];rfl)
       omega
      refine (slices_Insert_impl_Pair_impl_Pair.calls w.heap.size l0.length c i _ A l0 ⟨a1,a2⟩ w _ ?_ HI.out HN.out HM.out HL.out ?_ hA ?_ ?_).mono ?_
      · repeat (first|exact HO2.out|apply ζd)
      ·
       exact heap_alloc_new _ _
      · repeat (first|exact HB2.out|apply δk)
      ·
       have:=HB2.out.size;simp;omega
      rintro e w3 ⟨v3,rfl,ho3,hb3⟩
      have HO3:=ζa ho3
      have HB3:=ζa hb3
      clear ho3 hb3 hA
      go_wp2
      go_ret2
      exact ⟨_,rfl,HO3.out,HB3.out⟩
   · rw [if_neg g2] at h;cases h
  ·
   rw [if_neg g1] at h;cases h
 · rw [if_neg hl] at h;cases h


open Go.Proofs.YtggemblkhckbpaaGreatDoorW.PrintWords renaming gate_callee → δv, below_step → δr, below_size → δs
set_option maxHeartbeats 8000000
set_option maxRecDepth 100000

/-! ### impl_putAmount: function 71 -/
def impl_putAmount.f (k:Nat) (l0:List (S61)) (a1:ByteArray) (a2:Int):Option ((List (S61)) × Int):=if a2 > 0 then ((impl_amountText.f a2).bind fun t160=>((impl_put.f k l0 a1 t160).bind fun bt161=>(some (bt161.1,bt161.2)))) else ((impl_drop.f k l0 a1).bind fun bt165=>(some (bt165.1,0)))
theorem impl_putAmount.calls (k:Nat) (A0:Option Addr) (c0:Nat) (l0:List (S61)) (a1:ByteArray) (a2:Int) (r1:List (S61)) (r2:Int) (w:World) (hr0:Kd.C k61 w A0 l0.length l0) (hc0:l0.length≤c0) (hT0:TabsOK w) (h:impl_putAmount.f k l0 a1 a2=some (r1,r2)) :
  Calls Tryz.prog 71 #[.slice A0 l0.length c0,.string a1,.int .i64 a2] w fun e w' => ∃ v0_:Value,e = .returned (.tuple #[v0_,.int .i64 r2])∧Kd.R k61 61 w' w.heap.size (fun _=>True) v0_ r1∧Below w.heap.size w w':=by
 have HT0:=ζa hT0
 clear hT0
 have HR0:=ζa hr0
 have HC0:=ζa hc0
 clear hr0 hc0
 have HB:=ζa (Below.refl w.heap.size w)
 have H:(if a2 > 0 then ((impl_amountText.f a2).bind fun t160=>((impl_put.f k l0 a1 t160).bind fun bt161=>(some (bt161.1,bt161.2)))) else ((impl_drop.f k l0 a1).bind fun bt165=>(some (bt165.1,0))))=some (r1,r2):=h
 clear h
 by_cases c4:a2 > 0
 ·
  rw [if_pos c4] at H
  have c4b0:decide (0<a2)=τ:=decide_eq_true c4
  clear c4
  obtain ⟨t160,A5,H⟩:=bsm H
  obtain ⟨⟨t161,t162⟩,A6,H⟩:=bsm H
  dsimp only at H
  simp only [Option.some.injEq,Prod.mk.injEq] at H
  obtain ⟨rfl,rfl⟩:=H
  go_enter Tryz.func71,Tryz.ntmps71
  go_wp2_with (first|((with_reducible refine δv (f:=104) rfl ?_);refine gl 15 Tryz.func104 #[.int .i64 a2] ?_;(with_reducible refine (impl_amountText.calls a2 t160 _ (HT0.out.below (by exact HB.out)) A5.out).mono ?_);rintro e w7 ⟨rfl,hb⟩;refine ⟨_,rfl,?_⟩;replace HB:=ζa (δr (by exact HB.out) hb);(try clear hb);(try clear hb2);(try clear hk);(try clear hi))|((with_reducible refine δv (f:=73) rfl ?_);refine gl 16 Tryz.func73 #[.slice A0 l0.length c0,.string a1,.string t160] ?_;(with_reducible refine (impl_put.calls k _ _ l0 a1 t160 t161 t162 _ ?side1 ?side2 A6.out).mono ?_);(case side1=>repeat (exact (Kd.C_below HR0.out HB.out)));(case side2=>exact HC0.out);rintro e w8 ⟨v163,rfl,ho0,hb⟩;refine ⟨_,rfl,?_⟩;have HO164:=ζa (Kd.R_lower ho0 (δs (by exact HB.out)));replace HB:=ζa (δr (by exact HB.out) hb);(try clear hb);(try clear hb2);(try clear hk);(try clear hi);(try clear ho0)))
  go_ret2
  exact ⟨_,by rfl,by exact HO164.out,by repeat ((with_reducible exact HB.out))⟩
 ·
  rw [if_neg c4] at H
  have c4b0:decide (0<a2)=φ:=decide_eq_false c4
  clear c4
  obtain ⟨⟨t165,t166⟩,A9,H⟩:=bsm H
  dsimp only at H
  simp only [Option.some.injEq,Prod.mk.injEq] at H
  obtain ⟨rfl,rfl⟩:=H
  go_enter Tryz.func71,Tryz.ntmps71
  go_wp2_with (((with_reducible refine δv (f:=111) rfl ?_);refine gl 22 Tryz.func111 #[.slice A0 l0.length c0,.string a1] ?_;(with_reducible refine (impl_drop.calls k _ _ l0 a1 t165 t166 _ ?side1 ?side2 A9.out).mono ?_);(case side1=>repeat (exact HR0.out));(case side2=>exact HC0.out);rintro e w10 ⟨v167,rfl,ho0,hb⟩;refine ⟨_,rfl,?_⟩;have HO168:=ζa (Kd.R_lower ho0 (δs (by exact HB.out)));replace HB:=ζa (δr (by exact HB.out) hb);(try clear hb);(try clear hb2);(try clear hk);(try clear hi);(try clear ho0)))
  go_ret2
  exact ⟨_,by rfl,by exact HO168.out,by repeat ((with_reducible exact HB.out))⟩


set_option maxHeartbeats 8000000
set_option maxRecDepth 100000


/-! ### impl_sendPacket_1: function 70 -/
theorem impl_sendPacket_1.keep {w w':World} {p:Addr} {v:Value} (hb:Below w.heap.size w w') (h:w.cell? p=some v):w'.cell? p=some v:=(hb.cell (World.block_lt_of_cell? w _ h)).trans h
theorem impl_sendPacket_1.calls (k:Nat) (A0:Option Addr) (c0:Nat) (l0:List S61) (pq:Addr) (q:Int) (r1:List S61) (r2:Int) (w:World) (hr0:Kd.C k61 w A0 l0.length l0) (hc0:l0.length≤c0) (hT0:TabsOK w) (hq:w.cell? pq=some (.int .i64 q))
  (h:impl_putAmount.f k l0 (⟨#[110,47,115,101,110,100]⟩:ByteArray) q=some (r1,r2)) :
  Calls Tryz.prog 70 #[.slice A0 l0.length c0,.pointer (some pq)] w fun e w' => ∃ v0_:Value,e = .returned (.tuple #[v0_,.int .i64 r2])∧(r2=0→Kd.R k61 61 w' w.heap.size (fun _=>True) v0_ r1)∧Below w.heap.size w w':=by
 have H:=ζa h
 have HR0:=ζa hr0
 have HC0:=ζa hc0
 have HT0:=ζa hT0
 clear h hr0 hc0 hT0
 go_enter Tryz.func70,Tryz.ntmps70
 go_wp2_with fail
 refine (impl_putAmount.calls k A0 c0 l0 _ q r1 r2 _ HR0.out HC0.out HT0.out H.out).mono ?_
 rintro e w1 ⟨v1,rfl,ho,hb⟩
 have HO:=ζa ho
 have HB:=ζa hb
 clear ho hb
 go_wp2
 go_ret2
 exact ⟨_,rfl,fun _=>HO.out,HB.out⟩


open Go.Proofs.YtggemblkhckbpaaGreatDoorW.PrintWords renaming gate_dst → δx, below_size → δs, below_step → δr, below_set → δq
set_option maxHeartbeats 8000000
set_option maxRecDepth 100000

/-! ### impl_number: function 82 -/
def impl_number.l0:Nat→Int→List Int→Int→Option (ByteArray)
 | 0,_,_,_=>none
 | k+1,x0,x5,x6=>if x6 ≥ 0 then (if 0≤x6 then (if x6<(x5.length:Int) then (impl_number.l0 k (x0 / 256) (x5.set (x6:Int).toNat ((x0) % 256)) (ζm (x6 - 1))) else (none)) else (none)) else (some (strOfNums x5))
def impl_number.f (k:Nat) (a0:Int) (a1:Int):Option (ByteArray):=if 0≤a1 then (if (a1:Int).toNat≤281474976710656 then (impl_number.l0 k a0 (List.replicate (a1:Int).toNat 0) (ζm (a1 - 1))) else (none)) else (none)
theorem impl_number.mono_l : ∀ k,(∀ y0 y1 y2,LeO (impl_number.l0 k y0 y1 y2) (impl_number.l0 (k+1) y0 y1 y2))
 | 0=>fun _ _ _ r h=>by simp [impl_number.l0] at h
 | k+1=>by
  have ih0:=impl_number.mono_l k
  ·
   intro y0 y1 y2
   unfold impl_number.l0
   repeat' first
   | (with_reducible exact ih0 _ _ _)
   | (with_reducible exact LeO.refl _)
   | (with_reducible exact LeO.none _)
   | (with_reducible refine LeO.ite ?_ ?_)
   | (with_reducible refine LeO.bind ?_ (fun _ => ?_))
   | exact ih0 _ _ _
   | exact LeO.none _
   | refine LeO.ite ?_ ?_
   | refine LeO.bind ?_ (fun _ => ?_)
theorem impl_number.mono : ∀ a0 a1 k,LeO (impl_number.f k a0 a1) (impl_number.f (k+1) a0 a1):=by
 intro a0 a1 k
 have ih0:=impl_number.mono_l k
 unfold impl_number.f
 repeat' first
   | (with_reducible exact ih0 _ _ _)
   | (with_reducible exact LeO.refl _)
   | (with_reducible exact LeO.none _)
   | (with_reducible refine LeO.ite ?_ ?_)
   | (with_reducible refine LeO.bind ?_ (fun _ => ?_))
   | exact ih0 _ _ _
   | exact LeO.none _
   | refine LeO.ite ?_ ?_
   | refine LeO.bind ?_ (fun _ => ?_)
theorem impl_number.calls (k:Nat) (a0:Int) (a1:Int) (r:ByteArray) (w:World) (h:impl_number.f k a0 a1=some r) :
  Calls Tryz.prog 82 #[.int .i64 a0,.int .i64 a1] w fun e w'=>e = .returned (.string r)∧Below w.heap.size w w':=by
 have HB:=ζa (Below.refl w.heap.size w)
 have H:(if 0≤a1 then (if (a1:Int).toNat≤281474976710656 then (impl_number.l0 k a0 (List.replicate (a1:Int).toNat 0) (ζm (a1 - 1))) else (none)) else (none))=some r:=h
 clear h
 by_cases c3:0≤a1
 ·
  rw [if_pos c3] at H
  have c3b0:=eq_true c3
  have c3b1:=decide_eq_true c3
  clear c3
  by_cases c4:(a1:Int).toNat≤281474976710656
  ·
   rw [if_pos c4] at H
   have c4b0:=eq_true c4
   have c4b1:=decide_eq_true c4
   clear c4
   obtain ⟨y169,hy169⟩ : ∃ y_:List Int,y_=(List.replicate (a1:Int).toNat 0):=⟨_,rfl⟩
   replace H:(impl_number.l0 k a0 y169 (ζm (a1 - 1)))=some r:=by (rw [hy169];with_reducible exact H)
   have Ny169:=ζa hy169
   clear hy169
   have H':=ζa H
   clear H
   go_enter Tryz.func82,Tryz.ntmps82
   go_wp2_with (((with_reducible refine δx (N:=8) rfl ?_);refine Kd.R_make (Kd.int .u8) _ 5 rfl (N:=8) rfl 22 _ _ rfl a1 rfl rfl Tryz.underlying22 (.int .u8 0) 1 info5 rfl (by decide) (by omega) 0 (ok:=fun _=>True) (okp:=fun _=>True) rfl (fun _ hk=>hk) trivial (of_decide_eq_true (by (with_reducible assumption))) (Nat.le_trans (Nat.mul_le_mul_right _ (of_decide_eq_true (by (with_reducible assumption)):a1.toNat≤281474976710656)) (by omega)) (Below.refl _ _) (Nat.le_refl _) ?_;intro v170 w5 ho6 hb hg_ hnew_;clear hg_ hnew_;(rw [← Ny169.out] at ho6);have HO171:=ζa (Kd.R_lower ho6 (δs (by exact HB.out)));replace HB:=ζa (δr (by exact HB.out) hb);clear hb ho6))
   go_loopg [0,6] k (fun kq v0 v6 w' => ∃ (x0_1:Int) (x5_1:List Int) (x6_1:Int),v0 = .int .i64 x0_1∧v6 = .int .i64 x6_1∧Aside0 (impl_number.l0 kq x0_1 x5_1 x6_1=some r)∧Aside0 (kq≤k)∧Aside0 (Kd.R (Kd.int .u8) 5 w' w.heap.size (fun _=>True) v170 x5_1)∧Aside0 (Below w.heap.size w w'))
   case atStart=>exact ⟨(a0),(y169),(ζm (a1 - 1)),(by rfl),(by rfl),H',⟨Nat.le_refl _⟩,⟨by exact HO171.out⟩,⟨by repeat ((with_reducible exact HB.out))⟩⟩
   case round =>
    clear H'
    try clear p2
    try clear c3
    try clear c3b0
    try clear c3b1
    try clear c4
    try clear c4b0
    try clear c4b1
    try clear p6
    obtain ⟨x0_1,x5_1,x6_1,rfl,rfl,HA,HK1,HO_5,HB⟩:=hrel
    cases gk with
    | zero=>exact absurd HA.out (by simp [impl_number.l0])
    | succ k1 =>
     have H:=HA.out
     clear HA
     simp only [impl_number.l0] at H
     by_cases c7:x6_1 ≥ 0
     ·
      rw [if_pos c7] at H
      have c7b0:decide (0≤x6_1)=τ:=decide_eq_true c7
      clear c7
      by_cases c8:0≤x6_1
      ·
       rw [if_pos c8] at H
       have c8b0:=decide_eq_true c8
       clear c8
       by_cases c9:x6_1<(x5_1.length:Int)
       ·
        rw [if_pos c9] at H
        have c9b0:=decide_eq_true c9
        clear c9
        obtain ⟨y172,hy172⟩ : ∃ y_:List Int,y_=(x5_1.set (x6_1:Int).toNat ((x0_1) % 256)):=⟨_,rfl⟩
        replace H:(impl_number.l0 k1 (x0_1 / 256) y172 (ζm (x6_1 - 1)))=some r:=by (rw [hy172];with_reducible exact H)
        have Ny172:=ζa hy172
        clear hy172
        have H':=ζa H
        clear H
        have p10:0≤(x6_1:Int):=of_decide_eq_true (by (with_reducible assumption))
        have q10:(x6_1:Int)<((x5_1.length:Int):Int):=of_decide_eq_true (by (with_reducible assumption))
        obtain ⟨go10,co10,eo10,gb10,gl10,cl10,HG10⟩:=Kd.R_form HO_5.out (by omega)
        (cases eo10)
        have GB10:=ζa gb10
        have GG10:=ζa HG10
        clear gb10 gl10 HG10
        obtain ⟨hx10_0,hf10_0⟩:=Kd.R_celln 0 HO_5.out (x6_1:Int) p10 q10
        replace p10:=eq_true p10
        replace q10:=eq_true q10
        have HP11:=Kd.R_putg HO_5.out (x6_1:Int) ((x0_1) % 256)
        go_wp2_with (((with_reducible refine gate_store (t:=5) (p:=19) rfl ?_);refine store_event (t:=5) (p:=19) (v:=?vo_w12) (w1:=(wr.setCell ⟨go10,(x6_1:Int).toNat,none⟩ (.int .u8 ((x0_1) % 256)))) ?hg ?ho ?hn ?hr ?_;(case ho=>rfl);(case hg=>rfl);(case hn=>rfl);(case hr=>(go_simp;done));intro w12 hw;have hg:wr.grownBy w12 (some go10):=(by rw [hw];exact HP11.2);have hp_:Kd.R (Kd.int .u8) 5 w12 w.heap.size (fun _=>True) (.slice (some ⟨go10,0,none⟩) x5_1.length co10) y172:=(by rw [hw,Ny172.out];exact HP11.1);clear HP11;replace HO_5:=ζa (hp_);replace HB:=ζa ((by rw [hw];exact δq (HB.out) GB10.out:Below w.heap.size w w12));clear hg hw hp_))
        go_roundg k1
        case measure=>have:=HK1.out;omega
        case rel=>exact ⟨(x0_1 / 256),(y172),(ζm (x6_1 - 1)),(by rfl),(by rfl),H',⟨by have:=HK1.out;omega⟩,⟨by exact HO_5.out⟩,⟨by repeat ((with_reducible exact HB.out))⟩⟩
       ·
        rw [if_neg c9] at H
        exact absurd H (by simp)
      ·
       rw [if_neg c8] at H
       exact absurd H (by simp)
     ·
      rw [if_neg c7] at H
      have c7b0:decide (0≤x6_1)=φ:=decide_eq_false c7
      clear c7
      obtain rfl:=Option.some.inj H
      have hcv13:=own_string (P:=Tryz.prog) Tryz.underlying22 Tryz.underlying5 Tryz.underlying9 (Kd.own_of_R HO_5.out)
      go_wp2
      go_ret
      exact ⟨by rfl,by repeat ((with_reducible exact HB.out))⟩
  ·
   rw [if_neg c4] at H
   exact absurd H (by simp)
 ·
  rw [if_neg c3] at H
  exact absurd H (by simp)


open Go.Proofs.YtggemblkhckbpaaGreatDoorW.PrintWords renaming gate_dst → δx, below_step → δr, blk_drew → δp, below_drew1 → δj, blk_cell → δl
set_option maxHeartbeats 8000000
set_option maxRecDepth 100000

/-! ### impl_Packet_bytes: function 41 -/
def impl_Packet_bytes.f (k:Nat) (a0_0:Int) (a0_1:Int) (a0_2:ByteArray):Option (ByteArray):=(impl_number.f k a0_0 1).bind fun t174=>((impl_number.f k a0_1 1).bind fun t175=>(if t174.size+t175.size≤9223372036854775807 then (if (t174 ++ t175).size+a0_2.size≤9223372036854775807 then (some ((t174 ++ t175) ++ a0_2)) else (none)) else (none)))
def impl_Packet_bytes.T1:Bool × List (List Nat × List Nat):=(τ,[([],[]),([0],[0]),([1],[1]),([],[]),([3],[3]),([4,2],[4]),([2,5],[2,5]),([],[]),([7],[7]),([6,8],[6,8]),([9,5,0,1,2,3,4,5,6,7,8,9],[9])])
def impl_Packet_bytes.B1:List Nat:=[0,1,3,0,8,31,63,0,128,511,1023]
theorem impl_Packet_bytes.tab1:rtab .any (opsOf Tryz.f41 1)=impl_Packet_bytes.T1:=by kernel_rfl
theorem impl_Packet_bytes.bits1:waitsOk impl_Packet_bytes.T1.2 impl_Packet_bytes.B1=τ:=by kernel_rfl
theorem impl_Packet_bytes.calls (k:Nat) (a0_0:Int) (a0_1:Int) (a0_2:ByteArray) (r:ByteArray) (w:World) (h:impl_Packet_bytes.f k a0_0 a0_1 a0_2=some r) :
  Calls Tryz.prog 41 #[.agg #[.int .i64 a0_0,.int .i64 a0_1,.string a0_2]] w fun e w'=>e = .returned (.string r)∧Below w.heap.size w w':=by
 have hu36:=Tryz.underlying36
 have HB:=ζa (Below.refl w.heap.size w)
 have H:((impl_number.f k a0_0 1).bind fun t174=>((impl_number.f k a0_1 1).bind fun t175=>(if t174.size+t175.size≤9223372036854775807 then (if (t174 ++ t175).size+a0_2.size≤9223372036854775807 then (some ((t174 ++ t175) ++ a0_2)) else (none)) else (none))))=some r:=h
 clear h
 obtain ⟨t174,A2,H⟩:=bsm H
 obtain ⟨t175,A3,H⟩:=bsm H
 by_cases c4:t174.size+t175.size≤9223372036854775807
 ·
  rw [if_pos c4] at H
  have c4b0:=eq_true c4
  have c4b1:=decide_eq_true c4
  try have c4b2:(9223372036854775807<t174.size+t175.size)=False:=eq_false (Nat.not_lt.2 c4)
  by_cases c5:(t174 ++ t175).size+a0_2.size≤9223372036854775807
  ·
   rw [if_pos c5] at H
   have c5b0:=eq_true c5
   have c5b1:=decide_eq_true c5
   try have c5b2:(9223372036854775807<(t174 ++ t175).size+a0_2.size)=False:=eq_false (Nat.not_lt.2 c5)
   have c5b3:(9223372036854775807<t174.size+t175.size+a0_2.size)=False:=eq_false (by have h_:=c5;simp only [ByteArray.size_append] at h_;omega)
   obtain rfl:=Option.some.inj H
   go_enter Tryz.func41,Tryz.ntmps41
   try go_wp2_with (((with_reducible refine δx (N:=1) rfl ?_);refine bev 1 #[.int .i64 a0_0,.int .i64 a0_1,.string a0_2] 36 ?_;intro gb173 hg w6 hbox hb;have BK173:=ζa (hbox);have GW173:=ζa (gbw hg (by exact HB.out));have GE173:=ζa (gbw hg (by exact HB.out));replace HB:=ζa (δr (by exact HB.out) hb);clear hb hbox hg))
   replace BK173:=ζa (δp BK173.out)
   replace HB:=ζa (δj HB.out)
   refine sta 11 (fun w'=>w'.cell? ⟨gb173,0,none⟩=some (.int .i64 a0_0)∧w'.cell? ⟨gb173,1,none⟩=some (.int .i64 a0_1)∧w'.cell? ⟨gb173,2,none⟩=some (.string a0_2)) [] impl_Packet_bytes.tab1 impl_Packet_bytes.bits1 ⟨(δl BK173.out 0).trans rfl,(δl BK173.out 1).trans rfl,(δl BK173.out 2).trans rfl⟩ (fun hHeld HT_ HW_ => ?_)
   generalize w6.drew=w7 at BK173 HB hHeld ⊢
   refine pu 0 3 ?_
   refine pu 3 6 ?_
   refine pu 7 10 ?_
   refine ta 1 4 ?_
   refine ta 4 7 ?_
   refine ta 8 11 ?_
   refine on 2 5 (fun K hK => ?_)
   refine gs Tryz.func82 #[.int .i64 a0_0,.int .i64 1] ?_
   with_reducible refine (impl_number.calls k a0_0 1 t174 _ A2.out).mono ?_
   rintro e w8 ⟨rfl,hb⟩
   refine ⟨_,rfl,?_⟩
   replace BK173:=ζa (blk_below (g:=gb173) (o:=.cells #[.int .i64 a0_0,.int .i64 a0_1,.string a0_2] 36 (0,0)) (by exact BK173.out) hb)
   replace HB:=ζa (δr (by exact HB.out) hb)
   (try clear hb)
   (try clear hb2)
   (try clear hk)
   (try clear hi)
   refine hK.out _ _ ⟨(δl BK173.out 0).trans rfl,(δl BK173.out 1).trans rfl,(δl BK173.out 2).trans rfl⟩ (fun hHeld => ?_)
   clear hK K
   refine nm 5 ?_
   refine on 5 8 (fun K hK => ?_)
   refine gs Tryz.func82 #[.int .i64 a0_1,.int .i64 1] ?_
   with_reducible refine (impl_number.calls k a0_1 1 t175 _ A3.out).mono ?_
   rintro e w9 ⟨rfl,hb⟩
   refine ⟨_,rfl,?_⟩
   replace BK173:=ζa (blk_below (g:=gb173) (o:=.cells #[.int .i64 a0_0,.int .i64 a0_1,.string a0_2] 36 (0,0)) (by exact BK173.out) hb)
   replace HB:=ζa (δr (by exact HB.out) hb)
   (try clear hb)
   (try clear hb2)
   (try clear hk)
   (try clear hi)
   refine hK.out _ _ ⟨(δl BK173.out 0).trans rfl,(δl BK173.out 1).trans rfl,(δl BK173.out 2).trans rfl⟩ (fun hHeld => ?_)
   clear hK K
   refine nm 8 ?_
   refine pu 6 9 ?_
   refine pu 9 12 ?_
   refine pu 10 2 ?_
   refine done_ (done_of HT_.out (by kernel_rfl)) ?_
   try go_wp2
   go_ret
   exact ⟨by rfl,by repeat ((with_reducible exact HB.out))⟩
  ·
   rw [if_neg c5] at H
   exact absurd H (by simp)
 ·
  rw [if_neg c4] at H
  exact absurd H (by simp)




/-! ### strings_Repeat: function 117 -/
def strings_Repeat.f (a0 : ByteArray) (a1 : Int) : Option ByteArray := if 0 ≤ a1 ∧ a1 ≤ 1000000 ∧ a0.size ≤ 1000 then some ⟨(Lib.repeatL a0.data.toList a1.toNat).toArray⟩ else none
theorem strings_Repeat.calls (a0 : ByteArray) (a1 : Int) (r : ByteArray) (w : World) (h : strings_Repeat.f a0 a1 = some r) :
    Calls Tryz.prog 117 #[.string a0, .int .i64 a1] w fun e w' => e = .returned (.string r) ∧ Below w.heap.size w w' := by
  unfold strings_Repeat.f at h
  split at h
  · rename_i hc
    cases h
    have e : a1 = ((a1.toNat : Nat) : Int) := by omega
    have hm : a0.size * a1.toNat ≤ 1000 * 1000000 := Nat.mul_le_mul hc.2.2 (by omega)
    have := Tryz.strings_Repeat a0 a1.toNat w (by omega) (by omega)
    rw [← e] at this
    exact this
  · cases h


open Go.Proofs.YtggemblkhckbpaaGreatDoorW.PrintWords renaming gate_dst → δx, box_event → δz, below_size → δs, below_step → δr, below_alloc → δk, pw_below_drewN → δi, below_drew1 → δj
set_option maxHeartbeats 8000000
set_option maxRecDepth 100000


/-! ### impl_hashWords: function 118 -/
def impl_hashWords.f:Option (List Int):=some [1779033703,3144134277,1013904242,2773480762,1359893119,2600822924,528734635,1541459225]
theorem impl_hashWords.one (L:List Int):((L.map (Value.int .u32)).toArray).all (·.oneCell')=τ:=by
 rw [Array.all_eq_true_iff_forall_mem]
 intro x hx
 simp only [List.mem_toArray,List.mem_map] at hx
 obtain ⟨y,_,rfl⟩:=hx
 rfl
theorem impl_hashWords.self {W:World} {g:Nat} {t:TypeId} {old cs:Array Value} (h:W.heap[g]? = some (.cells old t (0,0))):(W.setRow g cs).heap[g]? = some (.cells cs t (0,0)):=by
 simp only [World.setRow]
 rw [Array.getElem?_modify,if_pos rfl,h]
 rfl
theorem impl_hashWords.low {w W:World} {g:Nat} {cs:Array Value} (h:Below w.heap.size w W) (hg:w.heap.size≤g):Below w.heap.size w (W.setRow g cs) :=
 ⟨h.os,h.tape,h.output,by have:=h.size;simpa [World.setRow] using this,fun k hk=>(show (W.setRow g cs).heap[k]? = W.heap[k]? by simp only [World.setRow];rw [Array.getElem?_modify,if_neg (by omega)]).trans (h.block k hk)⟩
theorem impl_hashWords.calls (r:List Int) (w:World) (h:impl_hashWords.f=some r) :
  Calls Tryz.prog 118 #[] w fun e w'=>e = .returned (.agg (r.map (Value.int .u32)).toArray)∧Below w.heap.size w w':=by
 have hu:=Tryz.underlying113
 have HB:=ζa (Below.refl w.heap.size w)
 obtain ⟨L,hL⟩ : ∃ L:List Int,L = [1779033703,3144134277,1013904242,2773480762,1359893119,2600822924,528734635,1541459225]:=⟨_,rfl⟩
 have hr:L=r:=hL.trans (Option.some.inj h)
 subst hr
 clear h
 have HL:=ζa hL
 have SZ:=ζa (show ((L.map (Value.int .u32)).toArray).size=8 by rw [hL];rfl)
 clear hL
 go_enter Tryz.func118,Tryz.ntmps118
 go_wp2_with (first
  | ((with_reducible refine δx (N:=0) rfl ?_);refine δz ?hg (N:=0) ?hd (cs:=(((List.replicate 8 (0:Int)).map (Value.int .u32)).toArray)) (t:=113) ?hr ?_;(case hd=>rfl);(case hg=>rfl);(case hr=>first|(go_simp;done)|(go_simp;rfl));intro gbp hg wp hbox hb;have GW:=ζa ((by rw [hg];exact δs HB.out):w.heap.size≤gbp);replace HB:=ζa (δr (by repeat (first|exact HB.out|apply δk|apply δi|apply δj)) hb);have BKp:=ζa hbox;clear hb hbox hg)
  | ((with_reducible refine gate_store (t:=113) (p:=0) rfl ?_);refine wpList_plain rfl fun _ hK=>wp_store_row 113 (.tmp 0) (.tmp 1) rfl gbp ((L.map (Value.int .u32)).toArray) (by rfl) (by rw [HL.out];rfl) _ _ BKp.out ((show _=some 8 from by kernel_rfl).trans (congrArg some SZ.out.symm)) (by rw [SZ.out];rfl) (impl_hashWords.one L) (hK _ _ ?_)))
 refine bodyPost_ret (results_cell_row rfl _ _ gbp 113 _ (0,0) _ rfl (impl_hashWords.self BKp.out) hu rfl ((show _=some 8 from by kernel_rfl).trans (congrArg some SZ.out.symm))) rfl ?_
 exact ⟨rfl,impl_hashWords.low HB.out GW.out⟩


set_option maxHeartbeats 8000000
set_option maxRecDepth 100000


/-! ### impl_roundWords: function 119 -/
def impl_roundWords.f:Option (List Int):=some [1116352408,1899447441,3049323471,3921009573,961987163,1508970993,2453635748,2870763221,3624381080,310598401,607225278,1426881987,1925078388,2162078206,2614888103,3248222580,3835390401,4022224774,264347078,604807628,770255983,1249150122,1555081692,1996064986,2554220882,2821834349,2952996808,3210313671,3336571891,3584528711,113926993,338241895,666307205,773529912,1294757372,1396182291,1695183700,1986661051,2177026350,2456956037,2730485921,2820302411,3259730800,3345764771,3516065817,3600352804,4094571909,275423344,430227734,506948616,659060556,883997877,958139571,1322822218,1537002063,1747873779,1955562222,2024104815,2227730452,2361852424,2428436474,2756734187,3204031479,3329325298]
theorem impl_roundWords.one (L:List Int):((L.map (Value.int .u32)).toArray).all (·.oneCell')=τ:=by
 rw [Array.all_eq_true_iff_forall_mem]
 intro x hx
 simp only [List.mem_toArray,List.mem_map] at hx
 obtain ⟨y,_,rfl⟩:=hx
 rfl
theorem impl_roundWords.self {W:World} {g:Nat} {t:TypeId} {old cs:Array Value} (h:W.heap[g]? = some (.cells old t (0,0))):(W.setRow g cs).heap[g]? = some (.cells cs t (0,0)):=by
 simp only [World.setRow]
 rw [Array.getElem?_modify,if_pos rfl,h]
 rfl
theorem impl_roundWords.low {w W:World} {g:Nat} {cs:Array Value} (h:Below w.heap.size w W) (hg:w.heap.size≤g):Below w.heap.size w (W.setRow g cs) :=
 ⟨h.os,h.tape,h.output,by have:=h.size;simpa [World.setRow] using this,fun k hk=>(show (W.setRow g cs).heap[k]? = W.heap[k]? by simp only [World.setRow];rw [Array.getElem?_modify,if_neg (by omega)]).trans (h.block k hk)⟩
theorem impl_roundWords.calls (r:List Int) (w:World) (h:impl_roundWords.f=some r) :
  Calls Tryz.prog 119 #[] w fun e w'=>e = .returned (.agg (r.map (Value.int .u32)).toArray)∧Below w.heap.size w w':=by
 have hu:=Tryz.underlying115
 have HB:=ζa (Below.refl w.heap.size w)
 obtain ⟨L,hL⟩ : ∃ L:List Int,L = [1116352408,1899447441,3049323471,3921009573,961987163,1508970993,2453635748,2870763221,3624381080,310598401,607225278,1426881987,1925078388,2162078206,2614888103,3248222580,3835390401,4022224774,264347078,604807628,770255983,1249150122,1555081692,1996064986,2554220882,2821834349,2952996808,3210313671,3336571891,3584528711,113926993,338241895,666307205,773529912,1294757372,1396182291,1695183700,1986661051,2177026350,2456956037,2730485921,2820302411,3259730800,3345764771,3516065817,3600352804,4094571909,275423344,430227734,506948616,659060556,883997877,958139571,1322822218,1537002063,1747873779,1955562222,2024104815,2227730452,2361852424,2428436474,2756734187,3204031479,3329325298]:=⟨_,rfl⟩
 have hr:L=r:=hL.trans (Option.some.inj h)
 subst hr
 clear h
 have HL:=ζa hL
 have SZ:=ζa (show ((L.map (Value.int .u32)).toArray).size=64 by rw [hL];rfl)
 clear hL
 go_enter Tryz.func119,Tryz.ntmps119
 go_wp2_with (first
  | ((with_reducible refine δx (N:=0) rfl ?_);refine δz ?hg (N:=0) ?hd (cs:=(((List.replicate 64 (0:Int)).map (Value.int .u32)).toArray)) (t:=115) ?hr ?_;(case hd=>rfl);(case hg=>rfl);(case hr=>first|(go_simp;done)|(go_simp;rfl));intro gbp hg wp hbox hb;have GW:=ζa ((by rw [hg];exact δs HB.out):w.heap.size≤gbp);replace HB:=ζa (δr (by repeat (first|exact HB.out|apply δk|apply δi|apply δj)) hb);have BKp:=ζa hbox;clear hb hbox hg)
  | ((with_reducible refine gate_store (t:=115) (p:=0) rfl ?_);refine wpList_plain rfl fun _ hK=>wp_store_row 115 (.tmp 0) (.tmp 1) rfl gbp ((L.map (Value.int .u32)).toArray) (by rfl) (by rw [HL.out];rfl) _ _ BKp.out ((show _=some 64 from by kernel_rfl).trans (congrArg some SZ.out.symm)) (by rw [SZ.out];rfl) (impl_roundWords.one L) (hK _ _ ?_)))
 refine bodyPost_ret (results_cell_row rfl _ _ gbp 115 _ (0,0) _ rfl (impl_roundWords.self BKp.out) hu rfl ((show _=some 64 from by kernel_rfl).trans (congrArg some SZ.out.symm))) rfl ?_
 exact ⟨rfl,impl_roundWords.low HB.out GW.out⟩


set_option maxHeartbeats 8000000
set_option maxRecDepth 100000

/-! ### bits_RotateLeft32: function 160 -/
def bits_RotateLeft32.f (a0:Int) (a1:Int):Option (Int):=if 0≤(Go.bits .and .u64 (IntKind.u64.wrap (a1)) 31) then (if 0≤(IntKind.u64.wrap (32 - (Go.bits .and .u64 (IntKind.u64.wrap (a1)) 31))) then (some (Go.bits .or .u32 (shl .u32 a0 (Go.bits .and .u64 (IntKind.u64.wrap (a1)) 31)) (shr .u32 a0 (IntKind.u64.wrap (32 - (Go.bits .and .u64 (IntKind.u64.wrap (a1)) 31)))))) else (none)) else (none)
theorem bits_RotateLeft32.calls (a0:Int) (a1:Int) (r:Int) (w:World) (h:bits_RotateLeft32.f a0 a1=some r) :
  Calls Tryz.prog 160 #[.int .u32 a0,.int .i64 a1] w fun e w'=>e = .returned (.int .u32 r)∧Drawn0 w w':=by
 have H:(if 0≤(Go.bits .and .u64 (IntKind.u64.wrap (a1)) 31) then (if 0≤(IntKind.u64.wrap (32 - (Go.bits .and .u64 (IntKind.u64.wrap (a1)) 31))) then (some (Go.bits .or .u32 (shl .u32 a0 (Go.bits .and .u64 (IntKind.u64.wrap (a1)) 31)) (shr .u32 a0 (IntKind.u64.wrap (32 - (Go.bits .and .u64 (IntKind.u64.wrap (a1)) 31)))))) else (none)) else (none))=some r:=h
 clear h
 obtain ⟨ji3,hji3⟩ : ∃ j_:Int,(Go.bits .and .u64 (IntKind.u64.wrap (a1)) 31)=j_:=⟨_,rfl⟩
 replace H:(if 0≤(ji3) then (if 0≤(IntKind.u64.wrap (32 - (ji3))) then (some (Go.bits .or .u32 (shl .u32 a0 (ji3)) (shr .u32 a0 (IntKind.u64.wrap (32 - (ji3)))))) else (none)) else (none))=some r:=by (rw [hji3] at H;exact H)
 by_cases c4:0≤(ji3)
 ·
  rw [if_pos c4] at H
  have c4b0:=eq_true c4
  have c4b1:=decide_eq_true c4
  clear c4
  obtain ⟨ji5,hji5⟩ : ∃ j_:Int,(shl .u32 a0 (ji3))=j_:=⟨_,rfl⟩
  replace H:(if 0≤(IntKind.u64.wrap (32 - (ji3))) then (some (Go.bits .or .u32 (ji5) (shr .u32 a0 (IntKind.u64.wrap (32 - (ji3)))))) else (none))=some r:=by (rw [hji5] at H;exact H)
  have hji5_:(IntKind.u32.wrap (a0 * 2 ^ min (ji3).toNat 32))=ji5:=hji5
  have hji5z:(ji3)≤32→(IntKind.u32.wrap (a0 * 2 ^ (ji3).toNat))=ji5:=shl_small hji5
  obtain ⟨ji6,hji6⟩ : ∃ j_:Int,(IntKind.u64.wrap (32 - (ji3)))=j_:=⟨_,rfl⟩
  replace H:(if 0≤(ji6) then (some (Go.bits .or .u32 (ji5) (shr .u32 a0 (ji6)))) else (none))=some r:=by (rw [hji6] at H;exact H)
  by_cases c7:0≤(ji6)
  ·
   rw [if_pos c7] at H
   have c7b0:=eq_true c7
   have c7b1:=decide_eq_true c7
   clear c7
   obtain ⟨ji8,hji8⟩ : ∃ j_:Int,(shr .u32 a0 (ji6))=j_:=⟨_,rfl⟩
   replace H:(some (Go.bits .or .u32 (ji5) (ji8)))=some r:=by (rw [hji8] at H;exact H)
   have hji8_:(a0 / 2 ^ min (ji6).toNat 32)=ji8:=hji8
   have hji8z:(ji6)≤32→(a0 / 2 ^ (ji6).toNat)=ji8:=shr_small hji8
   obtain rfl:=Option.some.inj H
   go_enter Tryz.func160,Tryz.ntmps160
   go_wp2
   go_ret
   exact ⟨by rfl,by repeat (exact Drawn0.refl _)⟩
  ·
   rw [if_neg c7] at H
   exact absurd H (by simp)
 ·
  rw [if_neg c4] at H
  exact absurd H (by simp)


set_option maxHeartbeats 8000000
set_option maxRecDepth 100000

/-! ### impl_turned: function 146 -/
def impl_turned.f (a0:Int) (a1:Int):Option (Int):=(bits_RotateLeft32.f a0 (ζm (-a1))).bind fun t179=>(some t179)
theorem impl_turned.calls (a0:Int) (a1:Int) (r:Int) (w:World) (h:impl_turned.f a0 a1=some r) :
  Calls Tryz.prog 146 #[.int .u32 a0,.int .i64 a1] w fun e w'=>e = .returned (.int .u32 r)∧Drawn0 w w':=by
 have H:((bits_RotateLeft32.f a0 (ζm (-a1))).bind fun t179=>(some t179))=some r:=h
 clear h
 obtain ⟨t179,A3,H⟩:=bsm H
 obtain rfl:=Option.some.inj H
 go_enter Tryz.func146,Tryz.ntmps146
 go_wp2_with (((with_reducible refine δv (f:=160) rfl ?_);refine gl 8 Tryz.func160 #[.int .u32 a0,.int .i64 (ζm (-a1))] ?_;(with_reducible refine (bits_RotateLeft32.calls a0 (ζm (-a1)) t179 _ A3.out).mono ?_);rintro e w' ⟨rfl,⟨nd,rfl⟩⟩;refine ⟨_,rfl,?_⟩))
 go_ret
 exact ⟨by rfl,by repeat (first|exact Drawn0.refl _|apply Drawn0.step)⟩


open List renaming setIfInBounds_toArray → δa, map_toArray → δd, map_cons → δe, map_nil → δf
open Go.Proofs.YtggemblkhckbpaaGreatDoorW.PrintWords renaming blk_cell → δl, blk_put → δw, gate_dst → δx, box_event → δz, below_size → δs, below_step → δr, below_alloc → δk, pw_below_drewN → δi, below_drew1 → δj, blk_drew → δp, blk_frozen → δm, below_set → δq, blk_drewN → δn
set_option maxHeartbeats 8000000
set_option maxRecDepth 100000


/-! ### impl_wordsOf: function 145 -/
theorem arr_set {L:List Int} {i:Nat} {x:Int} : ((L.map (Value.int .u32)).toArray).setIfInBounds i (.int .u32 x)=((L.set i x).map (Value.int .u32)).toArray:=by
 rw [δa,List.map_set]
theorem arr_get {L:List Int} {i:Nat} (h:i<L.length):((L.map (Value.int .u32)).toArray)[i]? = some (.int .u32 (rd L (i:Int))):=by
 rw [List.getElem?_toArray,List.getElem?_map,List.getElem?_eq_getElem h]
 show some _=some (Value.int .u32 (L.getD ((i:Int)).toNat 0))
 rw [Int.toNat_natCast,List.getD_eq_getElem?_getD,List.getElem?_eq_getElem h]
 rfl
theorem arr_keep {W:World} {g:Nat} {t:TypeId} {L:List Int} {i j:Nat} {u:Value} (h:W.heap[g]? = some (.cells ((L.map (Value.int .u32)).toArray) t (0,0))) (hne:i≠j) (hj:j<L.length):(W.setCell ⟨g,i,none⟩ u).cell? ⟨g,j,none⟩=some (.int .u32 (rd L (j:Int))):=by
 refine (δl (δw h i u rfl) j).trans ?_
 rw [Array.getElem?_setIfInBounds_ne hne]
 exact arr_get hj
theorem setRow_self {W:World} {g:Nat} {t:TypeId} {old cs:Array Value} (h:W.heap[g]? = some (.cells old t (0,0))):(W.setRow g cs).heap[g]? = some (.cells cs t (0,0)):=by
 simp only [World.setRow]
 rw [Array.getElem?_modify,if_pos rfl,h]
 rfl
theorem setRow_other {W:World} {g g':Nat} {cs:Array Value} (h:g≠g'):(W.setRow g cs).heap[g']? = W.heap[g']?:=by
 simp only [World.setRow]
 rw [Array.getElem?_modify,if_neg h]
theorem setRow_below {w W:World} {g:Nat} {cs:Array Value} (h:Below w.heap.size w W) (hg:w.heap.size≤g):Below w.heap.size w (W.setRow g cs) :=
 ⟨h.os,h.tape,h.output,by have:=h.size;simpa [World.setRow] using this,fun k hk=>(setRow_other (by omega)).trans (h.block k hk)⟩
theorem arr_size {L:List Int} : ((L.map (Value.int .u32)).toArray).size=L.length:=by simp
theorem arr_one {L:List Int} : ((L.map (Value.int .u32)).toArray).all (·.oneCell')=τ:=by
 rw [Array.all_eq_true_iff_forall_mem]
 intro x hx
 simp only [List.mem_toArray,List.mem_map] at hx
 obtain ⟨y,_,rfl⟩:=hx
 rfl
def turnV (x n:Int):Int:=Go.bits .or .u32 (shl .u32 x (32 - n)) (shr .u32 x n)
theorem turn_at (x n:Int) (hn:n=2 ∨ n=6 ∨ n=7 ∨ n=11 ∨ n=13 ∨ n=17 ∨ n=18 ∨ n=19 ∨ n=22 ∨ n=25):impl_turned.f x n=some (turnV x n):=by
 unfold impl_turned.f bits_RotateLeft32.f turnV
 have key : ∀ n m:Int,Go.bits .and .u64 (IntKind.u64.wrap (ζm (-n))) 31=m→0≤m→IntKind.u64.wrap (32 - m)=n→0≤n→m=32 - n→(if 0≤(Go.bits .and .u64 (IntKind.u64.wrap (ζm (-n))) 31) then (if 0≤(IntKind.u64.wrap (32 - (Go.bits .and .u64 (IntKind.u64.wrap (ζm (-n))) 31))) then (some (Go.bits .or .u32 (shl .u32 x (Go.bits .and .u64 (IntKind.u64.wrap (ζm (-n))) 31)) (shr .u32 x (IntKind.u64.wrap (32 - (Go.bits .and .u64 (IntKind.u64.wrap (ζm (-n))) 31)))))) else (none)) else (none):Option Int)=some (Go.bits .or .u32 (shl .u32 x (32 - n)) (shr .u32 x n)):=by
  intro n m h1 h2 h3 h4 h5
  rw [h1,h3,if_pos h2,if_pos h4,h5]
 rcases hn with rfl|rfl|rfl|rfl|rfl|rfl|rfl|rfl|rfl|rfl
 · rw [key 2 30 (by kernel_rfl) (by decide) (by kernel_rfl) (by decide) (by decide)];rfl
 ·
  rw [key 6 26 (by kernel_rfl) (by decide) (by kernel_rfl) (by decide) (by decide)];rfl
 · rw [key 7 25 (by kernel_rfl) (by decide) (by kernel_rfl) (by decide) (by decide)];rfl
 ·
  rw [key 11 21 (by kernel_rfl) (by decide) (by kernel_rfl) (by decide) (by decide)];rfl
 · rw [key 13 19 (by kernel_rfl) (by decide) (by kernel_rfl) (by decide) (by decide)];rfl
 ·
  rw [key 17 15 (by kernel_rfl) (by decide) (by kernel_rfl) (by decide) (by decide)];rfl
 · rw [key 18 14 (by kernel_rfl) (by decide) (by kernel_rfl) (by decide) (by decide)];rfl
 ·
  rw [key 19 13 (by kernel_rfl) (by decide) (by kernel_rfl) (by decide) (by decide)];rfl
 · rw [key 22 10 (by kernel_rfl) (by decide) (by kernel_rfl) (by decide) (by decide)];rfl
 ·
  rw [key 25 7 (by kernel_rfl) (by decide) (by kernel_rfl) (by decide) (by decide)];rfl
/-- A whole row into a box. -/
theorem row_event {Pg:Program} {ops:Array Oper} {Q:Exit→Act→World→Prop} {rest:List Oper} {op:Oper} {a:Act} {W:World} (hgd:op.guard=none) (ty:TypeId) (x y:Operand) (ho:op.op = .store ty x y)
  (g:Nat) (cells:Array Value) (hx:a.eval x = .pointer (some ⟨g,0,none⟩)) (hy:a.eval y = .agg cells) {t:TypeId} {old:Array Value} (hg:W.heap[g]? = some (.cells old t (0,0)))
  (hi:(Pg.info? ty).map (·.size)=some cells.size) (hold:old.size=cells.size) (h1:cells.all (·.oneCell')=τ)
  (h:wpList Pg ops Q rest (a.put op.dst undef) (W.setRow g cells)):wpList Pg ops Q (op :: rest) a W :=
 wpList_plain hgd fun _ hK=>wp_store_row ty x y ho g cells hx hy t old hg hi hold h1 (hK _ _ h)
def impl_wordsOf.wd (b:ByteArray) (j:Int):Int:=Go.bits .or .u32 (Go.bits .or .u32 (Go.bits .or .u32 (bt b j % 4294967296 * 16777216 % 4294967296) (bt b (j+1) % 4294967296 * 65536 % 4294967296)) (bt b (j+2) % 4294967296 * 256 % 4294967296)) (bt b (j+3) % 4294967296)
def impl_wordsOf.sg (x:Int) (a b c:Int):Int:=Go.bits .xor .u32 (Go.bits .xor .u32 (turnV x a) (turnV x b)) (x / c)
def impl_wordsOf.at (b:ByteArray) (L:List Int) (i:Nat):Int:=if i<16 then impl_wordsOf.wd b (4 * (i:Int)) else (((rd L ((i:Int) - 16)+impl_wordsOf.sg (rd L ((i:Int) - 15)) 7 18 8) % 4294967296+rd L ((i:Int) - 7)) % 4294967296+impl_wordsOf.sg (rd L ((i:Int) - 2)) 17 19 1024) % 4294967296
def impl_wordsOf.upto (b:ByteArray):Nat→List Int
 | 0=>List.replicate 64 0
 | i+1=>(impl_wordsOf.upto b i).set i (impl_wordsOf.at b (impl_wordsOf.upto b i) i)
theorem impl_wordsOf.upto_len (b:ByteArray) : ∀ i,(impl_wordsOf.upto b i).length=64
 | 0=>rfl
 | i+1=>by unfold impl_wordsOf.upto;rw [List.length_set];exact impl_wordsOf.upto_len b i
def impl_wordsOf.T6:Bool × List (List Nat × List Nat):=(τ,[([],[]),([],[]),([],[]),([2],[2]),([1,3],[1,3]),([4],[4]),([5],[5]),([],[]),([],[]),([8],[8]),([9],[9]),([7,10],[7,10]),([11],[11]),([12],[12]),([6,13],[6,13]),([],[]),([],[]),([16],[16]),([17],[17]),([15,18],[15,18]),([19],[19]),([20],[20]),([14,21],[14,21]),([],[]),([],[]),([24],[24]),([25],[25]),([23,26],[23,26]),([27],[27]),([22,28],[22,28]),([0,0,1,2,3,4,5,6,7,8,9,10,11,12,13,14,15,16,17,18,19,20,21,22,23,24,25,26,27,28,29],[0]),([30,29,0,1,2,3,4,5,6,7,8,9,10,11,12,13,14,15,16,17,18,19,20,21,22,23,24,25,26,27,28,29],[29,30])])
def impl_wordsOf.B6:List Nat:=[0,0,0,4,14,30,62,0,0,256,768,1920,3968,8064,16382,0,0,65536,196608,491520,1015808,2064384,4194302,0,0,16777216,50331648,125829120,260046848,536870910,1073741823,2147483647]
theorem impl_wordsOf.tab6:rtab .any (opsOf Tryz.f145 6)=impl_wordsOf.T6:=by kernel_rfl
theorem impl_wordsOf.bits6:waitsOk impl_wordsOf.T6.2 impl_wordsOf.B6=τ:=by kernel_rfl
def impl_wordsOf.T10:Bool × List (List Nat × List Nat):=(τ,[([],[]),([],[]),([1],[1]),([2],[2]),([3],[3]),([],[]),([4,5],[4,5]),([],[]),([7],[7]),([8],[8]),([9],[9]),([6,10],[6,10]),([],[]),([11,12],[11,12]),([0,0,1,2,3,4,5,6,7,8,9,10,11,12,13],[0]),([14,13,0,1,2,3,4,5,6,7,8,9,10,11,12,13],[13,14])])
def impl_wordsOf.B10:List Nat:=[0,0,2,6,14,0,62,0,128,384,896,2046,0,8190,16383,32767]
theorem impl_wordsOf.tab10:rtab .any (opsOf Tryz.f145 10)=impl_wordsOf.T10:=by kernel_rfl
theorem impl_wordsOf.bits10:waitsOk impl_wordsOf.T10.2 impl_wordsOf.B10=τ:=by kernel_rfl
theorem impl_wordsOf.calls (b:ByteArray) (w:World) (hb:b.size=64) :
  Calls Tryz.prog 145 #[.string b] w fun e w'=>e = .returned (.agg ((impl_wordsOf.upto b 64).map (Value.int .u32)).toArray)∧Below w.heap.size w w':=by
 have hu:=Tryz.underlying115
 have HB:=ζa (Below.refl w.heap.size w)
 go_enter Tryz.func145,Tryz.ntmps145
 go_wp2_with (first
  | ((with_reducible refine δx (N:=2) rfl ?_);refine δz ?hg (N:=2) ?hd (cs:=(((List.replicate 64 (0:Int)).map (Value.int .u32)).toArray)) (t:=115) ?hr ?_;(case hd=>rfl);(case hg=>rfl);(case hr=>first|(go_simp;done)|(go_simp;rfl));intro gbp hg wp hbox hb;have GWp:=ζa ((by rw [hg];exact δs HB.out):w.heap.size≤gbp);replace HB:=ζa (δr (by repeat (first|exact HB.out|apply δk|apply δi|apply δj)) hb);have BKp:=ζa hbox;clear hb hbox hg)
  | ((with_reducible refine δx (N:=3) rfl ?_);refine δz ?hg (N:=3) ?hd (cs:=(((List.replicate 64 (0:Int)).map (Value.int .u32)).toArray)) (t:=115) ?hr ?_;(case hd=>rfl);(case hg=>rfl);(case hr=>first|(go_simp;done)|(go_simp;rfl));intro gbw hg ww hbox hb;have NE:=ζa (show gbw≠gbp by intro e;have:=blk_lt BKp.out;omega);have HB0:=HB;replace HB:=ζa (δr (by repeat (first|exact HB.out|apply δk|apply δi|apply δj)) hb);replace BKp:=ζa (blk_below BKp.out hb);have BKw:=ζa hbox;have GWw:=ζa ((by rw [hg];exact δs HB0.out):w.heap.size≤gbw);clear HB0;clear hb hbox hg)
  | ((with_reducible refine gate_store (t:=115) (p:=3) rfl ?_);refine row_event rfl 115 (.tmp 3) (.tmp 9) rfl gbw (((List.replicate 64 (0:Int)).map (Value.int .u32)).toArray) (by rfl) (by rfl) BKw.out (by kernel_rfl) (by rfl) (by kernel_rfl) ?_;have n0_:=ζa (setRow_below (cs:=(((List.replicate 64 (0:Int)).map (Value.int .u32)).toArray)) HB.out GWw.out);have n1_:=ζa (setRow_self (cs:=(((List.replicate 64 (0:Int)).map (Value.int .u32)).toArray)) BKw.out);have n2_:=ζa ((setRow_other (W:=ww) (cs:=(((List.replicate 64 (0:Int)).map (Value.int .u32)).toArray)) (show gbw≠gbp from NE.out)).trans BKp.out);clear HB BKw BKp;have HB:=n0_;have BKw:=n1_;have BKp:=n2_;clear n0_ n1_ n2_;generalize ww.setRow gbw (((List.replicate 64 (0:Int)).map (Value.int .u32)).toArray)=w2 at HB BKw BKp ⊢))
 go_loopg [10] 64 (fun kq v10 w' => ∃ i:Nat,v10 = .int .i64 (i:Int)∧Aside0 (i+kq=64)∧Aside0 (w'.heap[gbw]? = some (.cells (((impl_wordsOf.upto b i).map (Value.int .u32)).toArray) 115 (0,0)))∧Aside0 (w'.heap[gbp]? = some (.cells (((List.replicate 64 (0:Int)).map (Value.int .u32)).toArray) 115 (0,0)))∧Aside0 (Below w.heap.size w w'))
 case atStart=>exact ⟨0,rfl,⟨rfl⟩,BKw,BKp,HB⟩
 case round =>
  clear BKw BKp HB
  obtain ⟨i,rfl,HI,BKw,BKp,HB⟩:=hrel
  cases gk with
  | zero =>
   have hi:i=64:=HI.out
   subst hi
   have hsz:some 64=some ((((impl_wordsOf.upto b 64).map (Value.int .u32)).toArray).size):=by rw [arr_size,impl_wordsOf.upto_len]
   go_wp2_with (first
    | ((with_reducible refine δx (N:=86) rfl ?_);refine wpList_load_row rfl 115 (.tmp 3) rfl gbw (by rfl) _ _ (0,0) _ BKw.out hu rfl ((show _=some 64 from by kernel_rfl).trans hsz) ?_)
    | ((with_reducible refine gate_store (t:=115) (p:=2) rfl ?_);refine row_event rfl 115 (.tmp 2) (.tmp 86) rfl gbp _ (by rfl) (by rfl) BKp.out ((show _=some 64 from by kernel_rfl).trans hsz) (by rw [arr_size,arr_size,impl_wordsOf.upto_len];rfl) arr_one ?_))
   refine bodyPost_ret (results_cell_row rfl _ _ gbp 115 _ (0,0) _ rfl (setRow_self BKp.out) hu rfl ((show _=some 64 from by kernel_rfl).trans hsz)) rfl ?_
   exact ⟨rfl,setRow_below HB.out GWp.out⟩
  | succ k1 =>
   have hi:=HI.out
   have hi64:(i:Int)<64:=by omega
   have c64:decide ((i:Int)<64)=τ:=decide_eq_true hi64
   have hz0:decide (0≤(i:Int))=τ:=decide_eq_true (by omega)
   have x64:((i:Int)<64)=True:=eq_true hi64
   have inc:ζm ((i:Int)+1)=((i+1:Nat):Int):=by rw [IntWalk.wrap64_in _ ⟨by omega,by omega⟩];rfl
   have INC:=ζa inc
   clear inc
   clear hi
   by_cases h16:(i:Int)<16
   ·
    have c16:decide ((i:Int)<16)=τ:=decide_eq_true h16
    obtain ⟨m0,hm0⟩ : ∃ j_:Int,ζm (4 * (i:Int))=j_:=⟨_,rfl⟩
    obtain ⟨m1,hm1⟩ : ∃ j_:Int,ζm (m0+1)=j_:=⟨_,rfl⟩
    obtain ⟨m2,hm2⟩ : ∃ j_:Int,ζm (m0+2)=j_:=⟨_,rfl⟩
    obtain ⟨m3,hm3⟩ : ∃ j_:Int,ζm (m0+3)=j_:=⟨_,rfl⟩
    have e0:m0=4 * (i:Int):=by rw [← hm0];exact IntWalk.wrap64_in _ ⟨by omega,by omega⟩
    have e1:m1=4 * (i:Int)+1:=by rw [← hm1,e0];exact IntWalk.wrap64_in _ ⟨by omega,by omega⟩
    have e2:m2=4 * (i:Int)+2:=by rw [← hm2,e0];exact IntWalk.wrap64_in _ ⟨by omega,by omega⟩
    have e3:m3=4 * (i:Int)+3:=by rw [← hm3,e0];exact IntWalk.wrap64_in _ ⟨by omega,by omega⟩
    have p0:(0≤m0)=True:=eq_true (by omega)
    have p1:(0≤m1)=True:=eq_true (by omega)
    have p2:(0≤m2)=True:=eq_true (by omega)
    have p3:(0≤m3)=True:=eq_true (by omega)
    have q0:(m0<64)=True:=eq_true (by omega)
    have q1:(m1<64)=True:=eq_true (by omega)
    have q2:(m2<64)=True:=eq_true (by omega)
    have q3:(m3<64)=True:=eq_true (by omega)
    have b0:=bt_at b m0
    have b1:=bt_at b m1
    have b2:=bt_at b m2
    have b3:=bt_at b m3
    have EE:=ζa (And.intro e0 (And.intro e1 (And.intro e2 e3)))
    have HH:=ζa h16
    have H64:=ζa hi64
    clear h16 hi64 e0 e1 e2 e3
    go_upto_region 6 with (fail)
    try go_wp2
    have n0_:=ζa (δp BKw.out)
    have n1_:=ζa (δp BKp.out)
    have n2_:=ζa (δj HB.out)
    clear BKw BKp HB
    have BKw:=n0_
    have BKp:=n1_
    have HB:=n2_
    clear n0_ n1_ n2_
    refine sta 32 (fun w'=>True) [] impl_wordsOf.tab6 impl_wordsOf.bits6 ⟨⟩ (fun hHeld HT_ HW_ => ?_)
    generalize wr.drew=wd_ at BKw BKp HB ⊢
    refine pu 0 15 ?_
    refine pu 1 16 ?_
    refine pu 2 17 ?_
    refine pu 3 18 ?_
    refine pu 4 19 ?_
    refine pu 5 20 ?_
    refine pu 6 21 ?_
    refine pu 7 22 ?_
    refine pu 8 23 ?_
    refine pu 9 24 ?_
    refine pu 10 25 ?_
    refine pu 11 26 ?_
    refine pu 12 27 ?_
    refine pu 13 28 ?_
    refine pu 14 29 ?_
    refine pu 15 30 ?_
    refine pu 16 31 ?_
    refine pu 17 32 ?_
    refine pu 18 33 ?_
    refine pu 19 34 ?_
    refine pu 20 35 ?_
    refine pu 21 36 ?_
    refine pu 22 37 ?_
    refine pu 23 38 ?_
    refine pu 24 39 ?_
    refine pu 25 40 ?_
    refine pu 26 41 ?_
    refine pu 27 42 ?_
    refine pu 28 43 ?_
    refine pu 29 44 ?_
    refine pu 30 45 ?_
    refine one_ (i:=31) (N:=none) #[τ,τ,τ,τ,τ,τ,τ,τ,τ,τ,τ,τ,τ,τ,τ,τ,τ,τ,τ,τ,τ,τ,τ,τ,τ,τ,τ,τ,τ,τ,τ,τ] rfl rfl (one_of HT_.out (by kernel_rfl)) (by decide) (fun K hK => ?_)
    have hs:=(δl BKw.out i).trans (arr_get (by rw [impl_wordsOf.upto_len];have:=HI.out;omega))
    have hf:=δm BKw.out i
    refine skip_ (w1:=?_) (by rfl) rfl ?_ ?_
    rotate_left
    ·
     go_simp
     rfl
    refine hK.out _ _ ⟨⟩ (fun hHeld => ?_)
    clear hK K
    refine done_ (done_of HT_.out (by kernel_rfl)) ?_
    go_wp2
    go_roundg k1
    case measure=>omega
    case rel =>
     refine ⟨i+1,by rw [INC.out],⟨by have:=HI.out;omega⟩,⟨δw BKw.out i _ ?_⟩,⟨(Below.heap_setCell _ ⟨gbw,i,none⟩ _ gbp (fun e=>NE.out e.symm)).trans BKp.out⟩,⟨δq HB.out GWw.out⟩⟩
     rw [arr_set]
     obtain ⟨e0,e1,e2,e3⟩:=EE.out
     show _=(((impl_wordsOf.upto b i).set i (impl_wordsOf.at b (impl_wordsOf.upto b i) i)).map (Value.int .u32)).toArray
     unfold impl_wordsOf.at impl_wordsOf.wd
     rw [if_pos (by have:=HH.out;omega),e0,e1,e2,e3]
   ·
    have c16:decide ((i:Int)<16)=φ:=decide_eq_false h16
    have L64:=impl_wordsOf.upto_len b i
    obtain ⟨n16,hn16,N16⟩ : ∃ n:Nat,ζm ((i:Int) - 16)=(n:Int)∧Aside0 (n+16=i):=⟨i - 16,by rw [IntWalk.wrap64_in _ ⟨by omega,by omega⟩];omega,⟨by omega⟩⟩
    obtain ⟨n15,hn15,N15⟩ : ∃ n:Nat,ζm ((i:Int) - 15)=(n:Int)∧Aside0 (n+15=i):=⟨i - 15,by rw [IntWalk.wrap64_in _ ⟨by omega,by omega⟩];omega,⟨by omega⟩⟩
    obtain ⟨n7,hn7,N7⟩ : ∃ n:Nat,ζm ((i:Int) - 7)=(n:Int)∧Aside0 (n+7=i):=⟨i - 7,by rw [IntWalk.wrap64_in _ ⟨by omega,by omega⟩];omega,⟨by omega⟩⟩
    obtain ⟨n2,hn2,N2⟩ : ∃ n:Nat,ζm ((i:Int) - 2)=(n:Int)∧Aside0 (n+2=i):=⟨i - 2,by rw [IntWalk.wrap64_in _ ⟨by omega,by omega⟩];omega,⟨by omega⟩⟩
    have x16:((n16:Int)<64)=True:=eq_true (by have:=N16.out;omega)
    have x15:((n15:Int)<64)=True:=eq_true (by have:=N15.out;omega)
    have x7:((n7:Int)<64)=True:=eq_true (by have:=N7.out;omega)
    have x2:((n2:Int)<64)=True:=eq_true (by have:=N2.out;omega)
    have z16:(0≤(n16:Int))=True:=eq_true (by omega)
    have z15:(0≤(n15:Int))=True:=eq_true (by omega)
    have z7:(0≤(n7:Int))=True:=eq_true (by omega)
    have z2:(0≤(n2:Int))=True:=eq_true (by omega)
    have v15:=(δl BKw.out n15).trans (arr_get (by rw [L64];have:=N15.out;omega))
    have v2:=(δl BKw.out n2).trans (arr_get (by rw [L64];have:=N2.out;omega))
    have H64:=ζa hi64
    have LL:=ζa L64
    have HH:=ζa h16
    clear h16 hi64 L64
    go_upto_region 7 with (fail)
    go_quiet (fail)
    go_wp2_with (first
     | ((with_reducible refine δx (N:=55) rfl ?_);refine goesL_ (some 55) rfl rfl Tryz.func146 (by kernel_rfl) rfl #[.int .u32 (rd (impl_wordsOf.upto b i) (n15:Int)),.int .i64 7] rfl (by (try simp only [δd,δe,δf]);first|done|rfl) ?_;(with_reducible refine (impl_turned.calls (rd (impl_wordsOf.upto b i) (n15:Int)) 7 _ _ (turn_at (rd (impl_wordsOf.upto b i) (n15:Int)) 7 (by decide))).mono ?_);rintro e w_ ⟨rfl,⟨nd55,rfl⟩⟩;refine ⟨_,rfl,?_⟩)
     | ((with_reducible refine δx (N:=57) rfl ?_);refine goesL_ (some 57) rfl rfl Tryz.func146 (by kernel_rfl) rfl #[.int .u32 (rd (impl_wordsOf.upto b i) (n15:Int)),.int .i64 18] rfl (by (try simp only [δd,δe,δf]);first|done|rfl) ?_;(with_reducible refine (impl_turned.calls (rd (impl_wordsOf.upto b i) (n15:Int)) 18 _ _ (turn_at (rd (impl_wordsOf.upto b i) (n15:Int)) 18 (by decide))).mono ?_);rintro e w_ ⟨rfl,⟨nd57,rfl⟩⟩;refine ⟨_,rfl,?_⟩)
     | ((with_reducible refine δx (N:=63) rfl ?_);refine goesL_ (some 63) rfl rfl Tryz.func146 (by kernel_rfl) rfl #[.int .u32 (rd (impl_wordsOf.upto b i) (n2:Int)),.int .i64 17] rfl (by (try simp only [δd,δe,δf]);first|done|rfl) ?_;(with_reducible refine (impl_turned.calls (rd (impl_wordsOf.upto b i) (n2:Int)) 17 _ _ (turn_at (rd (impl_wordsOf.upto b i) (n2:Int)) 17 (by decide))).mono ?_);rintro e w_ ⟨rfl,⟨nd63,rfl⟩⟩;refine ⟨_,rfl,?_⟩)
     | ((with_reducible refine δx (N:=65) rfl ?_);refine goesL_ (some 65) rfl rfl Tryz.func146 (by kernel_rfl) rfl #[.int .u32 (rd (impl_wordsOf.upto b i) (n2:Int)),.int .i64 19] rfl (by (try simp only [δd,δe,δf]);first|done|rfl) ?_;(with_reducible refine (impl_turned.calls (rd (impl_wordsOf.upto b i) (n2:Int)) 19 _ _ (turn_at (rd (impl_wordsOf.upto b i) (n2:Int)) 19 (by decide))).mono ?_);rintro e w_ ⟨rfl,⟨nd65,rfl⟩⟩;refine ⟨_,rfl,?_⟩))
    have n0_:=ζa (δn BKw.out (nq+nd55+nd57+nd63+nd65))
    have n1_:=ζa (δn BKp.out (nq+nd55+nd57+nd63+nd65))
    have n2_:Aside0 (Below w.heap.size w (wr.drewN (nq+nd55+nd57+nd63+nd65))):=⟨by apply δi;exact HB.out⟩
    clear BKw BKp HB v15 v2
    generalize wr.drewN (nq+nd55+nd57+nd63+nd65)=wn at n0_ n1_ n2_ ⊢
    have BKw:=n0_
    have BKp:=n1_
    have HB:=n2_
    clear n0_ n1_ n2_
    try go_wp2
    have n0_:=ζa (δp BKw.out)
    have n1_:=ζa (δp BKp.out)
    have n2_:=ζa (δj HB.out)
    clear BKw BKp HB
    have BKw:=n0_
    have BKp:=n1_
    have HB:=n2_
    clear n0_ n1_ n2_
    refine sta 16 (fun w'=>w'.cell? ⟨gbw,n16,none⟩=some (.int .u32 (rd (impl_wordsOf.upto b i) (n16:Int)))∧w'.cell? ⟨gbw,n7,none⟩=some (.int .u32 (rd (impl_wordsOf.upto b i) (n7:Int)))) [] impl_wordsOf.tab10 impl_wordsOf.bits10 ⟨(δl BKw.out n16).trans (arr_get (by rw [impl_wordsOf.upto_len];have:=N16.out;have:=H64.out;omega)),(δl BKw.out n7).trans (arr_get (by rw [impl_wordsOf.upto_len];have:=N7.out;have:=H64.out;omega))⟩ (fun hHeld HT_ HW_ => ?_)
    generalize wn.drew=wd_ at BKw BKp HB hHeld ⊢
    refine pu 0 70 ?_
    refine pu 1 71 ?_
    refine pu 2 72 ?_
    refine pu 3 73 ?_
    refine ta 4 74 ?_
    refine pu 5 75 ?_
    refine pu 6 76 ?_
    refine pu 7 77 ?_
    refine pu 8 78 ?_
    refine pu 9 79 ?_
    refine ta 10 80 ?_
    refine pu 11 81 ?_
    refine pu 12 82 ?_
    refine pu 13 83 ?_
    refine pu 14 84 ?_
    refine one_ (i:=15) (N:=none) #[τ,τ,τ,τ,τ,τ,τ,τ,τ,τ,τ,τ,τ,τ,τ,τ] rfl rfl (one_of HT_.out (by kernel_rfl)) (by decide) (fun K hK => ?_)
    have hs:=(δl BKw.out i).trans (arr_get (by rw [impl_wordsOf.upto_len];have:=H64.out;omega))
    have hf:=δm BKw.out i
    refine skip_ (w1:=?_) (by rfl) rfl ?_ ?_
    rotate_left
    ·
     go_simp
     rfl
    refine hK.out _ _ ⟨arr_keep BKw.out (by have:=N16.out;omega) (by rw [impl_wordsOf.upto_len];have:=N16.out;have:=H64.out;omega),arr_keep BKw.out (by have:=N7.out;omega) (by rw [impl_wordsOf.upto_len];have:=N7.out;have:=H64.out;omega)⟩ (fun hHeld => ?_)
    clear hK K
    refine done_ (done_of HT_.out (by kernel_rfl)) ?_
    go_wp2
    go_roundg k1
    case measure=>omega
    case rel =>
     refine ⟨i+1,by rw [INC.out],⟨by have:=HI.out;omega⟩,⟨δw BKw.out i _ ?_⟩,⟨(Below.heap_setCell _ ⟨gbw,i,none⟩ _ gbp (fun e=>NE.out e.symm)).trans BKp.out⟩,⟨δq HB.out GWw.out⟩⟩
     rw [arr_set]
     show _=(((impl_wordsOf.upto b i).set i (impl_wordsOf.at b (impl_wordsOf.upto b i) i)).map (Value.int .u32)).toArray
     unfold impl_wordsOf.at impl_wordsOf.sg
     rw [if_neg (by have:=HH.out;omega),show (i:Int) - 16=(n16:Int) by have:=N16.out;omega,show (i:Int) - 15=(n15:Int) by have:=N15.out;omega,show (i:Int) - 7=(n7:Int) by have:=N7.out;omega,show (i:Int) - 2=(n2:Int) by have:=N2.out;omega]


open Go.Proofs.YtggemblkhckbpaaGreatDoorW.PrintWords renaming gate_dst → δx, box_event → δz, below_size → δs, below_alloc → δk, pw_below_drewN → δi, below_drew1 → δj, below_step → δr, blk_drew → δp, blk_cell → δl, blk_frozen → δm, blk_put → δw, below_set → δq, blk_drewN → δn
open List renaming setIfInBounds_toArray → δa, set_cons_zero → δb, set_cons_succ → δc, map_toArray → δd, map_cons → δe, map_nil → δf
set_option maxHeartbeats 8000000
set_option maxRecDepth 100000


/-! ### impl_blockHash: function 120 -/
def impl_blockHash.p5 (K W v:List Int) (i:Nat):Int:=rd v 7+Go.bits .xor .u32 (Go.bits .xor .u32 (turnV (rd v 4) 6) (turnV (rd v 4) 11)) (turnV (rd v 4) 25)+Go.bits .or .u32 (Go.bits .and .u32 (rd v 4) (rd v 5)) (Go.bits .and .u32 (Go.bits .xor .u32 IntKind.u32.max (rd v 4)) (rd v 6))+rd K (i:Int)+rd W (i:Int)
def impl_blockHash.q5 (v:List Int):Int:=Go.bits .xor .u32 (Go.bits .xor .u32 (turnV (rd v 0) 2) (turnV (rd v 0) 13)) (turnV (rd v 0) 22)+Go.bits .or .u32 (Go.bits .or .u32 (Go.bits .and .u32 (rd v 0) (rd v 1)) (Go.bits .and .u32 (rd v 0) (rd v 2))) (Go.bits .and .u32 (rd v 1) (rd v 2))
def impl_blockHash.step (K W v:List Int) (i:Nat):List Int:=[(impl_blockHash.p5 K W v i+impl_blockHash.q5 v) % 4294967296,rd v 0,rd v 1,rd v 2,(rd v 3+impl_blockHash.p5 K W v i) % 4294967296,rd v 4,rd v 5,rd v 6]
def impl_blockHash.rounds (K W v0:List Int):Nat→List Int
 | 0=>v0
 | i+1=>impl_blockHash.step K W (impl_blockHash.rounds K W v0 i) i
theorem impl_blockHash.rounds_len (K W v0:List Int) (h:v0.length=8) : ∀ i,(impl_blockHash.rounds K W v0 i).length=8
 | 0=>h
 | i+1=>rfl
def impl_blockHash.adds (v0 words:List Int):Nat→List Int
 | 0=>v0
 | i+1=>(impl_blockHash.adds v0 words i).set i ((rd (impl_blockHash.adds v0 words i) (i:Int)+rd words (i:Int)) % 4294967296)
theorem impl_blockHash.adds_len (v0 words:List Int) : ∀ i,(impl_blockHash.adds v0 words i).length=v0.length
 | 0=>rfl
 | i+1=>by unfold impl_blockHash.adds;rw [List.length_set];exact impl_blockHash.adds_len v0 words i
def impl_blockHash.out (words kk:List Int) (block:ByteArray):List Int:=impl_blockHash.adds (impl_blockHash.rounds kk (impl_wordsOf.upto block 64) words 64) words 8
theorem row_event2 {Pg:Program} {ops:Array Oper} {Q:Exit→Act→World→Prop} {rest:List Oper} {op:Oper} {a:Act} {W:World} (hgd:op.guard=none) (ty:TypeId) (x y:Operand) (ho:op.op = .store ty x y)
  (g:Nat) (cells:Array Value) (hx:a.eval x = .pointer (some ⟨g,0,none⟩)) (hy:a.eval y = .agg cells) {t:TypeId} {old:Array Value} (hg:W.heap[g]? = some (.cells old t (0,0)))
  (hi:(Pg.info? ty).map (·.size)=some cells.size) (hold:old.size=cells.size) (h1:cells.all (·.oneCell')=τ)
  (h : ∀ w1,w1=W.setRow g cells→wpList Pg ops Q rest (a.put op.dst undef) w1):wpList Pg ops Q (op :: rest) a W:=row_event hgd ty x y ho g cells hx hy hg hi hold h1 (h _ rfl)
theorem impl_blockHash.exec_load {Pg:Program} {a:Act} {op:Oper} {ty:TypeId} {x:Operand} (ho:op.op = .load ty x) {g:Nat} (hx:a.eval x = .pointer (some ⟨g,0,none⟩)) {W:World} {t:TypeId} {cs:Array Value} {fr:Nat × Nat} {d:TypeDesc} (hg:W.heap[g]? = some (.cells cs t fr))
  (hu:Pg.underlying ty=some d) (hd:(match d with | .struct _ | .array _ _=>τ|_=>φ)=τ) (hi:(Pg.info? ty).map (·.size)=some cs.size):(execOp a.eval op).run Pg W = .ok (.value (.agg cs)) W:=by
 unfold execOp
 simp only [ho,hx,Instr.loadAt,Instr.sureAddr,Sem.run_bind,Sem.run_pure,Result.andThen_ok,run_loadVar_row W g t ty cs fr d hg hu hd hi]
theorem impl_blockHash.exec_store {Pg:Program} {a:Act} {op:Oper} {ty:TypeId} {x y:Operand} (ho:op.op = .store ty x y) {g:Nat} (hx:a.eval x = .pointer (some ⟨g,0,none⟩)) {cells:Array Value} (hy:a.eval y = .agg cells) {W:World} {t:TypeId} {old:Array Value} (hg:W.heap[g]? = some (.cells old t (0,0)))
  (hi:(Pg.info? ty).map (·.size)=some cells.size) (hold:old.size=cells.size) (h1:cells.all (·.oneCell')=τ):(execOp a.eval op).run Pg W = .ok .skip (W.setRow g cells):=by
 unfold execOp
 simp only [ho,hx,hy,Instr.storeAt,Instr.sureAddr,Sem.run_bind,Sem.run_pure,Result.andThen_ok,run_storeVar_row W g t ty old cells hg hi hold h1]
def impl_blockHash.T1:Bool × List (List Nat × List Nat):=(τ,[([],[]),([],[]),([1],[1]),([],[]),([],[]),([3,0,2,0,3,4],[0,3]),([4,2,5,0,1,2,3,4,5],[2,4])])
def impl_blockHash.B1:List Nat:=[0,0,2,0,0,31,63]
theorem impl_blockHash.tab1:rtab .any (opsOf Tryz.f120 1)=impl_blockHash.T1:=by kernel_rfl
theorem impl_blockHash.bits1:waitsOk impl_blockHash.T1.2 impl_blockHash.B1=τ:=by kernel_rfl
def impl_blockHash.T13:Bool × List (List Nat × List Nat):=(τ,[([],[]),([0],[0]),([1],[1]),([],[]),([3],[3]),([4],[4]),([2,5],[2,5]),([0,0,1,2,3,4,5,6],[0]),([7,6,0,1,2,3,4,5,6],[6,7])])
def impl_blockHash.B13:List Nat:=[0,1,3,0,8,24,63,127,255]
theorem impl_blockHash.tab13:rtab .any (opsOf Tryz.f120 13)=impl_blockHash.T13:=by kernel_rfl
theorem impl_blockHash.bits13:waitsOk impl_blockHash.T13.2 impl_blockHash.B13=τ:=by kernel_rfl
theorem impl_blockHash.calls (words kk:List Int) (block:ByteArray) (w:World) (hw8:words.length=8) (hk64:kk.length=64) (hbs:block.size=64) :
  Calls Tryz.prog 120 #[.agg ((words.map (Value.int .u32)).toArray),.agg ((kk.map (Value.int .u32)).toArray),.string block] w fun e w'=>e = .returned (.agg ((impl_blockHash.out words kk block).map (Value.int .u32)).toArray)∧Below w.heap.size w w':=by
 have hu8:=Tryz.underlying113
 have hu64:=Tryz.underlying115
 have SW:=ζa (show ((words.map (Value.int .u32)).toArray).size=8 by rw [arr_size,hw8])
 have SK:=ζa (show ((kk.map (Value.int .u32)).toArray).size=64 by rw [arr_size,hk64])
 obtain ⟨W64,hW64⟩ : ∃ l:List Int,l=impl_wordsOf.upto block 64:=⟨_,rfl⟩
 have L64:W64.length=64:=by rw [hW64];exact impl_wordsOf.upto_len block 64
 have S64:=ζa (show ((W64.map (Value.int .u32)).toArray).size=64 by rw [arr_size,L64])
 have HC:Aside0 (∀ w:World,Calls Tryz.prog 145 #[.string block] w fun e w'=>e = .returned (.agg (W64.map (Value.int .u32)).toArray)∧Below w.heap.size w w'):=⟨fun w=>by rw [hW64];exact impl_wordsOf.calls block w hbs⟩
 have HW64:=ζa hW64
 have HL64:=ζa L64
 clear hW64 L64 hbs
 have HB:=ζa (Below.refl w.heap.size w)
 have HW8:=ζa hw8
 have HK64:=ζa hk64
 clear hw8 hk64
 go_enter Tryz.func120,Tryz.ntmps120
 go_upto_region 1 with (first
  | ((with_reducible refine δx (N:=3) rfl ?_);refine δz ?hg (N:=3) ?hd (cs:=((words.map (Value.int .u32)).toArray)) (t:=113) ?hr ?_;(case hd=>rfl);(case hg=>rfl);(case hr=>first|(go_simp;done)|(go_simp;rfl));intro g3 hg w_ hbox hb;have G3:=ζa ((by rw [hg];exact δs (show Below w.heap.size w _ from by repeat (first|exact HB.out|apply δk|apply δi|apply δj))):w.heap.size≤g3);replace HB:=ζa (δr (by repeat (first|exact HB.out|apply δk|apply δi|apply δj)) hb);have B3:=ζa hbox;clear hb hbox hg)
  | ((with_reducible refine δx (N:=4) rfl ?_);refine δz ?hg (N:=4) ?hd (cs:=((kk.map (Value.int .u32)).toArray)) (t:=115) ?hr ?_;(case hd=>rfl);(case hg=>rfl);(case hr=>first|(go_simp;done)|(go_simp;rfl));intro g4 hg w_ hbox hb;have G4:=ζa ((by rw [hg];exact δs (show Below w.heap.size w _ from by repeat (first|exact HB.out|apply δk|apply δi|apply δj))):w.heap.size≤g4);have n0_:=ζa (blk_below B3.out hb);have n1_:=ζa (δr (by repeat (first|exact HB.out|apply δk|apply δi|apply δj)) hb);clear B3 HB;have B3:=n0_;have HB:=n1_;clear n0_ n1_;have B4:=ζa hbox;clear hb hbox hg)
  | ((with_reducible refine δx (N:=6) rfl ?_);refine δz ?hg (N:=6) ?hd (cs:=(((List.replicate 8 (0:Int)).map (Value.int .u32)).toArray)) (t:=113) ?hr ?_;(case hd=>rfl);(case hg=>rfl);(case hr=>first|(go_simp;done)|(go_simp;rfl));intro g6 hg w_ hbox hb;have G6:=ζa ((by rw [hg];exact δs (show Below w.heap.size w _ from by repeat (first|exact HB.out|apply δk|apply δi|apply δj))):w.heap.size≤g6);have N63:=ζa (show g6≠g3 by rw [hg];exact Nat.ne_of_gt (blk_lt B3.out));have n0_:=ζa (blk_below B3.out hb);have n1_:=ζa (blk_below B4.out hb);have n2_:=ζa (δr (by repeat (first|exact HB.out|apply δk|apply δi|apply δj)) hb);clear B3 B4 HB;have B3:=n0_;have B4:=n1_;have HB:=n2_;clear n0_ n1_ n2_;have B6:=ζa hbox;clear hb hbox hg))
 try go_wp2
 have n0_:=ζa (δp B3.out)
 have n1_:=ζa (δp B4.out)
 have n2_:=ζa (δp B6.out)
 clear B3 B4 B6
 have B3:=n0_
 have B4:=n1_
 have B6:=n2_
 clear n0_ n1_ n2_
 replace HB:=ζa (δj HB.out)
 refine sta 7 (fun w'=>w'.heap[g3]? = some (.cells ((words.map (Value.int .u32)).toArray) 113 (0,0))) [] impl_blockHash.tab1 impl_blockHash.bits1 B3.out (fun hHeld HT_ HW_ => ?_)
 generalize w_.drew=wd_ at B3 B4 B6 HB hHeld ⊢
 refine pu 1 20 ?_
 refine take_ (i:=0) (N:=some 19) (v:=?_) (a':=?_) #[τ,τ,φ,φ,φ,φ,φ] rfl rfl (take_ofW HT_.out HW_.out (by kernel_rfl)) (fun _ _ _ h=>h) (Or.inl ⟨by rfl,?_⟩) hHeld ?_ ?_
 rotate_left
 ·
  intro w' s0
  refine impl_blockHash.exec_load (ty:=113) (x:=.tmp 3) ?_ ?_ s0 hu8 rfl ((show _=some 8 from by kernel_rfl).trans (congrArg some SW.out.symm))
  · rfl
  ·
   rfl
 rotate_left
 · simp only [ζl,δa,δb,δc,i64_w,i32_w];rfl
 refine join_ (σ:=Nat × Nat) 2 #[τ,τ,τ,τ,τ,φ,φ] (fun s_ => [(21,.agg ((W64.map (Value.int .u32)).toArray)),(7,.pointer (some ⟨s_.1,0,none⟩)),(8,.pointer (some ⟨s_.2,0,none⟩))]) (fun s_ w'=>(w'.heap[g3]? = some (.cells ((words.map (Value.int .u32)).toArray) 113 (0,0)))∧(w'.heap[g4]? = some (.cells ((kk.map (Value.int .u32)).toArray) 115 (0,0)))∧(w'.heap[g6]? = some (.cells (((List.replicate 8 (0:Int)).map (Value.int .u32)).toArray) 113 (0,0)))∧(w'.heap[s_.1]? = some (.cells (((List.replicate 8 (0:Int)).map (Value.int .u32)).toArray) 113 (0,0)))∧(w'.heap[s_.2]? = some (.cells (((List.replicate 64 (0:Int)).map (Value.int .u32)).toArray) 115 (0,0)))∧(w.heap.size≤s_.1)∧(w.heap.size≤s_.2)∧(s_.1≠g3)∧(s_.1≠g6)∧(s_.2≠g4)∧(Below w.heap.size w w')) ?_ ?_
 rotate_left
 ·
  intro hCont
  refine three_ (i:=2) (j:=3) (k:=4) (Ni:=some 21) (Nj:=some 7) (Nk:=some 8) #[τ,τ,τ,φ,φ,φ,φ] #[τ,τ,φ,τ,φ,φ,φ] #[τ,τ,φ,φ,τ,φ,φ] rfl rfl rfl rfl rfl rfl (three_of HT_.out (by kernel_rfl)) (by decide) (by decide) (by decide) (fun K hK => ?_) (fun K hK => ?_) (fun K hK => ?_)
  ·
   skip
   refine gs Tryz.func145 #[.string block] ?_
   with_reducible refine (HC.out _).mono ?_
   rintro e w_ ⟨rfl,hb⟩
   refine ⟨_,rfl,?_⟩
   have n0_:=ζa (blk_below B3.out hb)
   have n1_:=ζa (blk_below B4.out hb)
   have n2_:=ζa (blk_below B6.out hb)
   have n3_:=ζa (δr (by repeat (exact HB.out)) hb)
   clear B3 B4 B6 HB
   have B3:=n0_
   have B4:=n1_
   have B6:=n2_
   have HB:=n3_
   clear n0_ n1_ n2_ n3_
   clear hb
   refine hK.out _ _ B3.out (fun hHeld => ?_)
   clear hK K
   refine nm 21 ?_
   refine tw 3 4 7 8 (fun K hK => ?_) (fun K hK => ?_)
   ·
    skip
    refine box_step ?hg (N:=7) ?hd (cs:=(((List.replicate 8 (0:Int)).map (Value.int .u32)).toArray)) (t:=113) ?hr ?_
    (case hd=>rfl)
    (case hg=>rfl)
    (case hr=>(go_simp;done))
    intro g7 hg w_ hbox hb
    have G7:=ζa ((by rw [hg];exact δs (show Below w.heap.size w _ from by repeat (exact HB.out))):w.heap.size≤g7)
    have N73:=ζa (show g7≠g3 by rw [hg];exact Nat.ne_of_gt (blk_lt B3.out))
    have N76:=ζa (show g7≠g6 by rw [hg];exact Nat.ne_of_gt (blk_lt B6.out))
    have n0_:=ζa (blk_below B3.out hb)
    have n1_:=ζa (blk_below B4.out hb)
    have n2_:=ζa (blk_below B6.out hb)
    have n3_:=ζa (δr (by repeat (exact HB.out)) hb)
    clear B3 B4 B6 HB
    have B3:=n0_
    have B4:=n1_
    have B6:=n2_
    have HB:=n3_
    clear n0_ n1_ n2_ n3_
    have B7:=ζa hbox
    clear hb hbox hg
    refine hK.out _ _ B3.out (fun hHeld => ?_)
    clear hK K
    refine nm 7 ?_
    refine on 4 8 (fun K hK => ?_)
    refine box_step ?hg (N:=8) ?hd (cs:=(((List.replicate 64 (0:Int)).map (Value.int .u32)).toArray)) (t:=115) ?hr ?_
    (case hd=>rfl)
    (case hg=>rfl)
    (case hr=>(go_simp;done))
    intro g8 hg w_ hbox hb
    have G8:=ζa ((by rw [hg];exact δs (show Below w.heap.size w _ from by repeat (exact HB.out))):w.heap.size≤g8)
    have N84:=ζa (show g8≠g4 by rw [hg];exact Nat.ne_of_gt (blk_lt B4.out))
    have n0_:=ζa (blk_below B3.out hb)
    have n1_:=ζa (blk_below B4.out hb)
    have n2_:=ζa (blk_below B6.out hb)
    have n3_:=ζa (blk_below B7.out hb)
    have n4_:=ζa (δr (by repeat (exact HB.out)) hb)
    clear B3 B4 B6 B7 HB
    have B3:=n0_
    have B4:=n1_
    have B6:=n2_
    have B7:=n3_
    have HB:=n4_
    clear n0_ n1_ n2_ n3_ n4_
    have B8:=ζa hbox
    clear hb hbox hg
    refine hK.out _ _ B3.out (fun hHeld => ?_)
    clear hK K
    refine nm 8 ?_
    exact norm_ (by simp only [putAll,ζl,δa,δb,δc]) (hCont (g7,g8) _ ⟨B3.out,B4.out,B6.out,B7.out,B8.out,G7.out,G8.out,N73.out,N76.out,N84.out,HB.out⟩)
   ·
    skip
    refine box_step ?hg (N:=8) ?hd (cs:=(((List.replicate 64 (0:Int)).map (Value.int .u32)).toArray)) (t:=115) ?hr ?_
    (case hd=>rfl)
    (case hg=>rfl)
    (case hr=>(go_simp;done))
    intro g8 hg w_ hbox hb
    have G8:=ζa ((by rw [hg];exact δs (show Below w.heap.size w _ from by repeat (exact HB.out))):w.heap.size≤g8)
    have N84:=ζa (show g8≠g4 by rw [hg];exact Nat.ne_of_gt (blk_lt B4.out))
    have n0_:=ζa (blk_below B3.out hb)
    have n1_:=ζa (blk_below B4.out hb)
    have n2_:=ζa (blk_below B6.out hb)
    have n3_:=ζa (δr (by repeat (exact HB.out)) hb)
    clear B3 B4 B6 HB
    have B3:=n0_
    have B4:=n1_
    have B6:=n2_
    have HB:=n3_
    clear n0_ n1_ n2_ n3_
    have B8:=ζa hbox
    clear hb hbox hg
    refine hK.out _ _ B3.out (fun hHeld => ?_)
    clear hK K
    refine nm 8 ?_
    refine on 3 7 (fun K hK => ?_)
    refine box_step ?hg (N:=7) ?hd (cs:=(((List.replicate 8 (0:Int)).map (Value.int .u32)).toArray)) (t:=113) ?hr ?_
    (case hd=>rfl)
    (case hg=>rfl)
    (case hr=>(go_simp;done))
    intro g7 hg w_ hbox hb
    have G7:=ζa ((by rw [hg];exact δs (show Below w.heap.size w _ from by repeat (exact HB.out))):w.heap.size≤g7)
    have N73:=ζa (show g7≠g3 by rw [hg];exact Nat.ne_of_gt (blk_lt B3.out))
    have N76:=ζa (show g7≠g6 by rw [hg];exact Nat.ne_of_gt (blk_lt B6.out))
    have n0_:=ζa (blk_below B3.out hb)
    have n1_:=ζa (blk_below B4.out hb)
    have n2_:=ζa (blk_below B6.out hb)
    have n3_:=ζa (blk_below B8.out hb)
    have n4_:=ζa (δr (by repeat (exact HB.out)) hb)
    clear B3 B4 B6 B8 HB
    have B3:=n0_
    have B4:=n1_
    have B6:=n2_
    have B8:=n3_
    have HB:=n4_
    clear n0_ n1_ n2_ n3_ n4_
    have B7:=ζa hbox
    clear hb hbox hg
    refine hK.out _ _ B3.out (fun hHeld => ?_)
    clear hK K
    refine nm 7 ?_
    exact norm_ (by simp only [putAll,ζl,δa,δb,δc]) (hCont (g7,g8) _ ⟨B3.out,B4.out,B6.out,B7.out,B8.out,G7.out,G8.out,N73.out,N76.out,N84.out,HB.out⟩)
  ·
   skip
   refine box_step ?hg (N:=7) ?hd (cs:=(((List.replicate 8 (0:Int)).map (Value.int .u32)).toArray)) (t:=113) ?hr ?_
   (case hd=>rfl)
   (case hg=>rfl)
   (case hr=>(go_simp;done))
   intro g7 hg w_ hbox hb
   have G7:=ζa ((by rw [hg];exact δs (show Below w.heap.size w _ from by repeat (exact HB.out))):w.heap.size≤g7)
   have N73:=ζa (show g7≠g3 by rw [hg];exact Nat.ne_of_gt (blk_lt B3.out))
   have N76:=ζa (show g7≠g6 by rw [hg];exact Nat.ne_of_gt (blk_lt B6.out))
   have n0_:=ζa (blk_below B3.out hb)
   have n1_:=ζa (blk_below B4.out hb)
   have n2_:=ζa (blk_below B6.out hb)
   have n3_:=ζa (δr (by repeat (exact HB.out)) hb)
   clear B3 B4 B6 HB
   have B3:=n0_
   have B4:=n1_
   have B6:=n2_
   have HB:=n3_
   clear n0_ n1_ n2_ n3_
   have B7:=ζa hbox
   clear hb hbox hg
   refine hK.out _ _ B3.out (fun hHeld => ?_)
   clear hK K
   refine nm 7 ?_
   refine tw 2 4 21 8 (fun K hK => ?_) (fun K hK => ?_)
   ·
    skip
    refine gs Tryz.func145 #[.string block] ?_
    with_reducible refine (HC.out _).mono ?_
    rintro e w_ ⟨rfl,hb⟩
    refine ⟨_,rfl,?_⟩
    have n0_:=ζa (blk_below B3.out hb)
    have n1_:=ζa (blk_below B4.out hb)
    have n2_:=ζa (blk_below B6.out hb)
    have n3_:=ζa (blk_below B7.out hb)
    have n4_:=ζa (δr (by repeat (exact HB.out)) hb)
    clear B3 B4 B6 B7 HB
    have B3:=n0_
    have B4:=n1_
    have B6:=n2_
    have B7:=n3_
    have HB:=n4_
    clear n0_ n1_ n2_ n3_ n4_
    clear hb
    refine hK.out _ _ B3.out (fun hHeld => ?_)
    clear hK K
    refine nm 21 ?_
    refine on 4 8 (fun K hK => ?_)
    refine box_step ?hg (N:=8) ?hd (cs:=(((List.replicate 64 (0:Int)).map (Value.int .u32)).toArray)) (t:=115) ?hr ?_
    (case hd=>rfl)
    (case hg=>rfl)
    (case hr=>(go_simp;done))
    intro g8 hg w_ hbox hb
    have G8:=ζa ((by rw [hg];exact δs (show Below w.heap.size w _ from by repeat (exact HB.out))):w.heap.size≤g8)
    have N84:=ζa (show g8≠g4 by rw [hg];exact Nat.ne_of_gt (blk_lt B4.out))
    have n0_:=ζa (blk_below B3.out hb)
    have n1_:=ζa (blk_below B4.out hb)
    have n2_:=ζa (blk_below B6.out hb)
    have n3_:=ζa (blk_below B7.out hb)
    have n4_:=ζa (δr (by repeat (exact HB.out)) hb)
    clear B3 B4 B6 B7 HB
    have B3:=n0_
    have B4:=n1_
    have B6:=n2_
    have B7:=n3_
    have HB:=n4_
    clear n0_ n1_ n2_ n3_ n4_
    have B8:=ζa hbox
    clear hb hbox hg
    refine hK.out _ _ B3.out (fun hHeld => ?_)
    clear hK K
    refine nm 8 ?_
    exact norm_ (by simp only [putAll,ζl,δa,δb,δc]) (hCont (g7,g8) _ ⟨B3.out,B4.out,B6.out,B7.out,B8.out,G7.out,G8.out,N73.out,N76.out,N84.out,HB.out⟩)
   ·
    skip
    refine box_step ?hg (N:=8) ?hd (cs:=(((List.replicate 64 (0:Int)).map (Value.int .u32)).toArray)) (t:=115) ?hr ?_
    (case hd=>rfl)
    (case hg=>rfl)
    (case hr=>(go_simp;done))
    intro g8 hg w_ hbox hb
    have G8:=ζa ((by rw [hg];exact δs (show Below w.heap.size w _ from by repeat (exact HB.out))):w.heap.size≤g8)
    have N84:=ζa (show g8≠g4 by rw [hg];exact Nat.ne_of_gt (blk_lt B4.out))
    have n0_:=ζa (blk_below B3.out hb)
    have n1_:=ζa (blk_below B4.out hb)
    have n2_:=ζa (blk_below B6.out hb)
    have n3_:=ζa (blk_below B7.out hb)
    have n4_:=ζa (δr (by repeat (exact HB.out)) hb)
    clear B3 B4 B6 B7 HB
    have B3:=n0_
    have B4:=n1_
    have B6:=n2_
    have B7:=n3_
    have HB:=n4_
    clear n0_ n1_ n2_ n3_ n4_
    have B8:=ζa hbox
    clear hb hbox hg
    refine hK.out _ _ B3.out (fun hHeld => ?_)
    clear hK K
    refine nm 8 ?_
    refine on 2 21 (fun K hK => ?_)
    refine gs Tryz.func145 #[.string block] ?_
    with_reducible refine (HC.out _).mono ?_
    rintro e w_ ⟨rfl,hb⟩
    refine ⟨_,rfl,?_⟩
    have n0_:=ζa (blk_below B3.out hb)
    have n1_:=ζa (blk_below B4.out hb)
    have n2_:=ζa (blk_below B6.out hb)
    have n3_:=ζa (blk_below B7.out hb)
    have n4_:=ζa (blk_below B8.out hb)
    have n5_:=ζa (δr (by repeat (exact HB.out)) hb)
    clear B3 B4 B6 B7 B8 HB
    have B3:=n0_
    have B4:=n1_
    have B6:=n2_
    have B7:=n3_
    have B8:=n4_
    have HB:=n5_
    clear n0_ n1_ n2_ n3_ n4_ n5_
    clear hb
    refine hK.out _ _ B3.out (fun hHeld => ?_)
    clear hK K
    refine nm 21 ?_
    exact norm_ (by simp only [putAll,ζl,δa,δb,δc]) (hCont (g7,g8) _ ⟨B3.out,B4.out,B6.out,B7.out,B8.out,G7.out,G8.out,N73.out,N76.out,N84.out,HB.out⟩)
  ·
   skip
   refine box_step ?hg (N:=8) ?hd (cs:=(((List.replicate 64 (0:Int)).map (Value.int .u32)).toArray)) (t:=115) ?hr ?_
   (case hd=>rfl)
   (case hg=>rfl)
   (case hr=>(go_simp;done))
   intro g8 hg w_ hbox hb
   have G8:=ζa ((by rw [hg];exact δs (show Below w.heap.size w _ from by repeat (exact HB.out))):w.heap.size≤g8)
   have N84:=ζa (show g8≠g4 by rw [hg];exact Nat.ne_of_gt (blk_lt B4.out))
   have n0_:=ζa (blk_below B3.out hb)
   have n1_:=ζa (blk_below B4.out hb)
   have n2_:=ζa (blk_below B6.out hb)
   have n3_:=ζa (δr (by repeat (exact HB.out)) hb)
   clear B3 B4 B6 HB
   have B3:=n0_
   have B4:=n1_
   have B6:=n2_
   have HB:=n3_
   clear n0_ n1_ n2_ n3_
   have B8:=ζa hbox
   clear hb hbox hg
   refine hK.out _ _ B3.out (fun hHeld => ?_)
   clear hK K
   refine nm 8 ?_
   refine tw 2 3 21 7 (fun K hK => ?_) (fun K hK => ?_)
   ·
    skip
    refine gs Tryz.func145 #[.string block] ?_
    with_reducible refine (HC.out _).mono ?_
    rintro e w_ ⟨rfl,hb⟩
    refine ⟨_,rfl,?_⟩
    have n0_:=ζa (blk_below B3.out hb)
    have n1_:=ζa (blk_below B4.out hb)
    have n2_:=ζa (blk_below B6.out hb)
    have n3_:=ζa (blk_below B8.out hb)
    have n4_:=ζa (δr (by repeat (exact HB.out)) hb)
    clear B3 B4 B6 B8 HB
    have B3:=n0_
    have B4:=n1_
    have B6:=n2_
    have B8:=n3_
    have HB:=n4_
    clear n0_ n1_ n2_ n3_ n4_
    clear hb
    refine hK.out _ _ B3.out (fun hHeld => ?_)
    clear hK K
    refine nm 21 ?_
    refine on 3 7 (fun K hK => ?_)
    refine box_step ?hg (N:=7) ?hd (cs:=(((List.replicate 8 (0:Int)).map (Value.int .u32)).toArray)) (t:=113) ?hr ?_
    (case hd=>rfl)
    (case hg=>rfl)
    (case hr=>(go_simp;done))
    intro g7 hg w_ hbox hb
    have G7:=ζa ((by rw [hg];exact δs (show Below w.heap.size w _ from by repeat (exact HB.out))):w.heap.size≤g7)
    have N73:=ζa (show g7≠g3 by rw [hg];exact Nat.ne_of_gt (blk_lt B3.out))
    have N76:=ζa (show g7≠g6 by rw [hg];exact Nat.ne_of_gt (blk_lt B6.out))
    have n0_:=ζa (blk_below B3.out hb)
    have n1_:=ζa (blk_below B4.out hb)
    have n2_:=ζa (blk_below B6.out hb)
    have n3_:=ζa (blk_below B8.out hb)
    have n4_:=ζa (δr (by repeat (exact HB.out)) hb)
    clear B3 B4 B6 B8 HB
    have B3:=n0_
    have B4:=n1_
    have B6:=n2_
    have B8:=n3_
    have HB:=n4_
    clear n0_ n1_ n2_ n3_ n4_
    have B7:=ζa hbox
    clear hb hbox hg
    refine hK.out _ _ B3.out (fun hHeld => ?_)
    clear hK K
    refine nm 7 ?_
    exact norm_ (by simp only [putAll,ζl,δa,δb,δc]) (hCont (g7,g8) _ ⟨B3.out,B4.out,B6.out,B7.out,B8.out,G7.out,G8.out,N73.out,N76.out,N84.out,HB.out⟩)
   ·
    skip
    refine box_step ?hg (N:=7) ?hd (cs:=(((List.replicate 8 (0:Int)).map (Value.int .u32)).toArray)) (t:=113) ?hr ?_
    (case hd=>rfl)
    (case hg=>rfl)
    (case hr=>(go_simp;done))
    intro g7 hg w_ hbox hb
    have G7:=ζa ((by rw [hg];exact δs (show Below w.heap.size w _ from by repeat (exact HB.out))):w.heap.size≤g7)
    have N73:=ζa (show g7≠g3 by rw [hg];exact Nat.ne_of_gt (blk_lt B3.out))
    have N76:=ζa (show g7≠g6 by rw [hg];exact Nat.ne_of_gt (blk_lt B6.out))
    have n0_:=ζa (blk_below B3.out hb)
    have n1_:=ζa (blk_below B4.out hb)
    have n2_:=ζa (blk_below B6.out hb)
    have n3_:=ζa (blk_below B8.out hb)
    have n4_:=ζa (δr (by repeat (exact HB.out)) hb)
    clear B3 B4 B6 B8 HB
    have B3:=n0_
    have B4:=n1_
    have B6:=n2_
    have B8:=n3_
    have HB:=n4_
    clear n0_ n1_ n2_ n3_ n4_
    have B7:=ζa hbox
    clear hb hbox hg
    refine hK.out _ _ B3.out (fun hHeld => ?_)
    clear hK K
    refine nm 7 ?_
    refine on 2 21 (fun K hK => ?_)
    refine gs Tryz.func145 #[.string block] ?_
    with_reducible refine (HC.out _).mono ?_
    rintro e w_ ⟨rfl,hb⟩
    refine ⟨_,rfl,?_⟩
    have n0_:=ζa (blk_below B3.out hb)
    have n1_:=ζa (blk_below B4.out hb)
    have n2_:=ζa (blk_below B6.out hb)
    have n3_:=ζa (blk_below B7.out hb)
    have n4_:=ζa (blk_below B8.out hb)
    have n5_:=ζa (δr (by repeat (exact HB.out)) hb)
    clear B3 B4 B6 B7 B8 HB
    have B3:=n0_
    have B4:=n1_
    have B6:=n2_
    have B7:=n3_
    have B8:=n4_
    have HB:=n5_
    clear n0_ n1_ n2_ n3_ n4_ n5_
    clear hb
    refine hK.out _ _ B3.out (fun hHeld => ?_)
    clear hK K
    refine nm 21 ?_
    exact norm_ (by simp only [putAll,ζl,δa,δb,δc]) (hCont (g7,g8) _ ⟨B3.out,B4.out,B6.out,B7.out,B8.out,G7.out,G8.out,N73.out,N76.out,N84.out,HB.out⟩)
 rintro ⟨g7,g8⟩ w7 ⟨h3_,h4_,h6_,h7_,h8_,k7_,k8_,n3_,n6_,n4_,hB_⟩
 clear B3 B4 B6 HB hHeld
 have B3:=ζa h3_
 have B4:=ζa h4_
 have B6:=ζa h6_
 have B7:=ζa h7_
 have B8:=ζa h8_
 have G7:=ζa k7_
 have G8:=ζa k8_
 have N73:=ζa n3_
 have N76:=ζa n6_
 have N84:=ζa n4_
 have HB:=ζa hB_
 clear h3_ h4_ h6_ h7_ h8_ k7_ k8_ n3_ n6_ n4_ hB_
 simp only at B7 B8 G7 G8 N73 N76 N84
 refine norm_ (a':=?_) ?_ ?_
 rotate_left
 · simp only [putAll,ζl,δa,δb,δc];rfl
 refine one_ (i:=5) (N:=none) #[τ,τ,τ,τ,τ,τ,φ] rfl rfl (one_of HT_.out (by kernel_rfl)) (by decide) (fun K hK => ?_)
 refine skip_ (w1:=w7.setRow g7 ((words.map (Value.int .u32)).toArray)) (by rfl) rfl ?_ ?_
 ·
  refine impl_blockHash.exec_store (ty:=113) (x:=.tmp 7) (y:=.tmp 19) ?_ ?_ ?_ B7.out ((show _=some 8 from by kernel_rfl).trans (congrArg some SW.out.symm)) (by rw [SW.out];rfl) arr_one
  · rfl
  ·
   rfl
  · rfl
 have n0_:=ζa ((setRow_other (cs:=((words.map (Value.int .u32)).toArray)) N73.out).trans B3.out)
 have n1_:=ζa ((setRow_other (cs:=((words.map (Value.int .u32)).toArray)) (blk_ne B7.out B4.out (by decide))).trans B4.out)
 have n2_:=ζa ((setRow_other (cs:=((words.map (Value.int .u32)).toArray)) N76.out).trans B6.out)
 have n3_:=ζa (setRow_self (cs:=((words.map (Value.int .u32)).toArray)) B7.out)
 have n4_:=ζa ((setRow_other (cs:=((words.map (Value.int .u32)).toArray)) (blk_ne B7.out B8.out (by decide))).trans B8.out)
 have n5_:=ζa (setRow_below (cs:=((words.map (Value.int .u32)).toArray)) HB.out G7.out)
 clear B3 B4 B6 B7 B8 HB
 have B3:=n0_
 have B4:=n1_
 have B6:=n2_
 have B7:=n3_
 have B8:=n4_
 have HB:=n5_
 clear n0_ n1_ n2_ n3_ n4_ n5_
 refine hK.out _ _ B3.out (fun hHeld => ?_)
 clear hK K
 generalize w7.setRow g7 ((words.map (Value.int .u32)).toArray)=w8 at B3 B4 B6 B7 B8 HB hHeld ⊢
 refine one_ (i:=6) (N:=none) #[τ,τ,τ,τ,τ,τ,τ] rfl rfl (one_of HT_.out (by kernel_rfl)) (by decide) (fun K hK => ?_)
 refine skip_ (w1:=w8.setRow g8 ((W64.map (Value.int .u32)).toArray)) (by rfl) rfl ?_ ?_
 ·
  refine impl_blockHash.exec_store (ty:=115) (x:=.tmp 8) (y:=.tmp 21) ?_ ?_ ?_ B8.out ((show _=some 64 from by kernel_rfl).trans (congrArg some S64.out.symm)) (by rw [S64.out];rfl) arr_one
  · rfl
  ·
   rfl
  · rfl
 have n0_:=ζa ((setRow_other (cs:=((W64.map (Value.int .u32)).toArray)) (blk_ne B8.out B3.out (by decide))).trans B3.out)
 have n1_:=ζa ((setRow_other (cs:=((W64.map (Value.int .u32)).toArray)) N84.out).trans B4.out)
 have n2_:=ζa ((setRow_other (cs:=((W64.map (Value.int .u32)).toArray)) (blk_ne B8.out B6.out (by decide))).trans B6.out)
 have n3_:=ζa ((setRow_other (cs:=((W64.map (Value.int .u32)).toArray)) (blk_ne B8.out B7.out (by decide))).trans B7.out)
 have n4_:=ζa (setRow_self (cs:=((W64.map (Value.int .u32)).toArray)) B8.out)
 have n5_:=ζa (setRow_below (cs:=((W64.map (Value.int .u32)).toArray)) HB.out G8.out)
 clear B3 B4 B6 B7 B8 HB
 have B3:=n0_
 have B4:=n1_
 have B6:=n2_
 have B7:=n3_
 have B8:=n4_
 have HB:=n5_
 clear n0_ n1_ n2_ n3_ n4_ n5_
 refine hK.out _ _ B3.out (fun hHeld => ?_)
 clear hK K
 generalize w8.setRow g8 ((W64.map (Value.int .u32)).toArray)=w9 at B3 B4 B6 B7 B8 HB hHeld ⊢
 refine done_ (done_of HT_.out (by kernel_rfl)) ?_
 have HS:=HW8.out
 go_wp2
 go_loopg [22] 64 (fun kq v22 w' => ∃ i:Nat,v22 = .int .i64 (i:Int)∧Aside0 (i+kq=64)∧Aside0 (w'.heap[g7]? = some (.cells (((impl_blockHash.rounds kk W64 words i).map (Value.int .u32)).toArray) 113 (0,0)))∧Aside0 (w'.heap[g3]? = some (.cells ((words.map (Value.int .u32)).toArray) 113 (0,0)))∧Aside0 (w'.heap[g4]? = some (.cells ((kk.map (Value.int .u32)).toArray) 115 (0,0)))∧Aside0 (w'.heap[g6]? = some (.cells (((List.replicate 8 (0:Int)).map (Value.int .u32)).toArray) 113 (0,0)))∧Aside0 (w'.heap[g8]? = some (.cells ((W64.map (Value.int .u32)).toArray) 115 (0,0)))∧Aside0 (Below w.heap.size w w'))
 case atStart=>exact ⟨0,rfl,⟨rfl⟩,⟨by repeat (exact B7.out)⟩,⟨by repeat (exact B3.out)⟩,⟨by repeat (exact B4.out)⟩,⟨by repeat (exact B6.out)⟩,⟨by repeat (exact B8.out)⟩,⟨by repeat (exact HB.out)⟩⟩
 case round =>
  clear B3 B4 B6 B7 B8 HB
  obtain ⟨i,rfl,HI,B7,B3,B4,B6,B8,HB⟩:=hrel
  cases gk with
  | zero =>
   have hi:i=64:=HI.out
   subst hi
   obtain ⟨V,hV⟩ : ∃ l:List Int,l=impl_blockHash.rounds kk W64 words 64:=⟨_,rfl⟩
   rw [← hV] at B7
   have hV8:V.length=8:=by rw [hV];exact impl_blockHash.rounds_len kk W64 words HW8.out 64
   have HV:=ζa hV
   have HV8:=ζa hV8
   clear hV hV8 HI
   go_wp2
   go_loopg [100] 8 (fun kq v100 w' => ∃ i:Nat,v100 = .int .i64 (i:Int)∧Aside0 (i+kq=8)∧Aside0 (w'.heap[g7]? = some (.cells (((impl_blockHash.adds V words i).map (Value.int .u32)).toArray) 113 (0,0)))∧Aside0 (w'.heap[g3]? = some (.cells ((words.map (Value.int .u32)).toArray) 113 (0,0)))∧Aside0 (w'.heap[g6]? = some (.cells (((List.replicate 8 (0:Int)).map (Value.int .u32)).toArray) 113 (0,0)))∧Aside0 (Below w.heap.size w w'))
   case atStart=>exact ⟨0,rfl,⟨rfl⟩,⟨by repeat (exact B7.out)⟩,⟨by repeat (exact B3.out)⟩,⟨by repeat (exact B6.out)⟩,⟨by repeat (exact HB.out)⟩⟩
   case round =>
    clear B3 B4 B6 B7 B8 HB
    obtain ⟨i,rfl,HI,B7,B3,B6,HB⟩:=hrel
    cases gk with
    | zero =>
     have hi:i=8:=HI.out
     subst hi
     have hsz:some 8=some ((((impl_blockHash.adds V words 8).map (Value.int .u32)).toArray).size):=by rw [arr_size,impl_blockHash.adds_len,HV8.out]
     have hout:impl_blockHash.out words kk block=impl_blockHash.adds V words 8:=by rw [HV.out,HW64.out];rfl
     have HOUT:=ζa hout
     clear hout
     go_wp2_with (first
      | ((with_reducible refine δx (N:=112) rfl ?_);refine wpList_load_row rfl 113 (.tmp 7) rfl g7 (by rfl) _ _ (0,0) _ B7.out hu8 rfl ((show _=some 8 from by kernel_rfl).trans hsz) ?_)
      | ((with_reducible refine gate_store (t:=113) (p:=6) rfl ?_);refine row_event2 rfl 113 (.tmp 6) (.tmp 112) rfl g6 (((impl_blockHash.adds V words 8).map (Value.int .u32)).toArray) ?hx ?hy B6.out ?hi ?ho arr_one ?_;(case hx=>rfl);(case hy=>rfl);(case hi=>exact ((show _=some 8 from by kernel_rfl).trans hsz));(case ho=>(rw [arr_size,arr_size,impl_blockHash.adds_len,HV8.out];rfl));intro w1 hw1;have n0_:Aside0 (Below w.heap.size w w1):=⟨by rw [hw1];exact setRow_below HB.out G6.out⟩;have n1_:Aside0 (w1.heap[g6]? = some (.cells (((impl_blockHash.adds V words 8).map (Value.int .u32)).toArray) 113 (0,0))):=⟨by rw [hw1];exact setRow_self B6.out⟩;clear B3 B6 B7 HB hw1;have HB:=n0_;have B6:=n1_;clear n0_ n1_))
     refine bodyPost_ret (results_cell_row rfl _ _ g6 113 _ (0,0) _ rfl B6.out hu8 rfl ((show _=some 8 from by kernel_rfl).trans hsz)) rfl ?_
     exact ⟨by rw [HOUT.out],HB.out⟩
    | succ k1 =>
     have hi:=HI.out
     have hi8:(i:Int)<8:=by omega
     have c8:decide ((i:Int)<8)=τ:=decide_eq_true hi8
     have x8:((i:Int)<8)=True:=eq_true hi8
     have z0:(0≤(i:Int))=True:=eq_true (by omega)
     have inc:ζm ((i:Int)+1)=((i+1:Nat):Int):=by rw [IntWalk.wrap64_in _ ⟨by omega,by omega⟩];rfl
     have INC:=ζa inc
     have LX:=ζa (show (impl_blockHash.adds V words i).length=8 by rw [impl_blockHash.adds_len,HV8.out])
     have H8:=ζa hi8
     clear inc hi hi8
     go_upto_region 13 with (fail)
     try go_wp2
     have n0_:=ζa (δp B3.out)
     have n1_:=ζa (δp B6.out)
     have n2_:=ζa (δp B7.out)
     clear B3 B6 B7
     have B3:=n0_
     have B6:=n1_
     have B7:=n2_
     clear n0_ n1_ n2_
     replace HB:=ζa (δj HB.out)
     refine sta 9 (fun w'=>w'.cell? ⟨g7,i,none⟩=some (.int .u32 (rd (impl_blockHash.adds V words i) (i:Int)))∧w'.cell? ⟨g3,i,none⟩=some (.int .u32 (rd words (i:Int)))) [8] impl_blockHash.tab13 impl_blockHash.bits13 ⟨(δl B7.out i).trans (arr_get (by have:=LX.out;have:=H8.out;omega)),(δl B3.out i).trans (arr_get (by have:=HW8.out;have:=H8.out;omega))⟩ (fun hHeld HT_ HW_ => ?_)
     generalize wr.drew=wd_ at B3 B6 B7 HB hHeld ⊢
     refine pu 0 103 ?_
     refine pu 1 104 ?_
     refine ta 2 105 ?_
     refine pu 3 106 ?_
     refine pu 4 107 ?_
     refine ta 5 108 ?_
     refine pu 6 109 ?_
     refine pu 7 110 ?_
     refine last_ (i:=8) (N:=none) #[τ,τ,τ,τ,τ,τ,τ,τ,τ] rfl rfl (one_of HT_.out (by kernel_rfl)) (by decide) (fun K hK => ?_)
     have hs:=(δl B7.out i).trans (arr_get (by have:=LX.out;have:=H8.out;omega))
     have hf:=δm B7.out i
     refine skip_ (w1:=?_) (by rfl) rfl ?_ ?_
     rotate_left
     ·
      go_simp
      rfl
     refine hK.out _ _ ?_
     clear hK K
     refine done_ (done_of HT_.out (by kernel_rfl)) ?_
     go_wp2
     go_roundg k1
     case measure=>omega
     case rel =>
      refine ⟨i+1,by rw [INC.out],⟨by have:=HI.out;omega⟩,⟨δw B7.out i _ ?_⟩,⟨(Below.heap_setCell _ ⟨g7,i,none⟩ _ g3 (fun e=>N73.out e.symm)).trans B3.out⟩,⟨(Below.heap_setCell _ ⟨g7,i,none⟩ _ g6 (fun e=>N76.out e.symm)).trans B6.out⟩,⟨δq HB.out G7.out⟩⟩
      rw [arr_set]
      rfl
  | succ k1 =>
   have hi:=HI.out
   have hi64:(i:Int)<64:=by omega
   have c64:decide ((i:Int)<64)=τ:=decide_eq_true hi64
   have x64:((i:Int)<64)=True:=eq_true hi64
   have z0:(0≤(i:Int))=True:=eq_true (by omega)
   have inc:ζm ((i:Int)+1)=((i+1:Nat):Int):=by rw [IntWalk.wrap64_in _ ⟨by omega,by omega⟩];rfl
   have INC:=ζa inc
   clear inc hi
   obtain ⟨V,hV⟩ : ∃ l:List Int,l=impl_blockHash.rounds kk W64 words i:=⟨_,rfl⟩
   rw [← hV] at B7
   have hV8:V.length=8:=by rw [hV];exact impl_blockHash.rounds_len kk W64 words HW8.out i
   have v0:wr.cell? ⟨g7,0,none⟩=some (.int .u32 (rd V 0)):=(δl B7.out 0).trans (arr_get (by omega))
   have v1:wr.cell? ⟨g7,1,none⟩=some (.int .u32 (rd V 1)):=(δl B7.out 1).trans (arr_get (by omega))
   have v2:wr.cell? ⟨g7,2,none⟩=some (.int .u32 (rd V 2)):=(δl B7.out 2).trans (arr_get (by omega))
   have v3:wr.cell? ⟨g7,3,none⟩=some (.int .u32 (rd V 3)):=(δl B7.out 3).trans (arr_get (by omega))
   have v4:wr.cell? ⟨g7,4,none⟩=some (.int .u32 (rd V 4)):=(δl B7.out 4).trans (arr_get (by omega))
   have v5:wr.cell? ⟨g7,5,none⟩=some (.int .u32 (rd V 5)):=(δl B7.out 5).trans (arr_get (by omega))
   have v6:wr.cell? ⟨g7,6,none⟩=some (.int .u32 (rd V 6)):=(δl B7.out 6).trans (arr_get (by omega))
   have v7:wr.cell? ⟨g7,7,none⟩=some (.int .u32 (rd V 7)):=(δl B7.out 7).trans (arr_get (by omega))
   have vk:wr.cell? ⟨g4,i,none⟩=some (.int .u32 (rd kk (i:Int))):=(δl B4.out i).trans (arr_get (by have:=HK64.out;omega))
   have vw:wr.cell? ⟨g8,i,none⟩=some (.int .u32 (rd W64 (i:Int))):=(δl B8.out i).trans (arr_get (by have:=HL64.out;omega))
   have H64:=ζa hi64
   have HV:=ζa hV
   have HV8:=ζa hV8
   have HSZ:=ζa (show ((V.map (Value.int .u32)).toArray).size=8 by rw [arr_size,hV8])
   clear hi64 hV hV8
   go_upto_region 5 with (fail)
   go_quiet (fail)
   go_upto_region 6 with (fail)
   go_quiet (first
    | (go_at_call 146;(with_reducible refine (impl_turned.calls (rd V 4) 6 _ _ (turn_at (rd V 4) 6 (by decide))).mono ?_);rintro e w' ⟨rfl,⟨nd,rfl⟩⟩;(try first|exact ⟨rfl,_,World.drewN_drewN _ _ _⟩|exact ⟨rfl,_,Eq.trans (World.drewN_drewN _ _ _) (congrArg (World.drewN _) (Nat.add_assoc _ _ _))⟩))
    | (go_at_call 146;(with_reducible refine (impl_turned.calls (rd V 4) 11 _ _ (turn_at (rd V 4) 11 (by decide))).mono ?_);rintro e w' ⟨rfl,⟨nd,rfl⟩⟩;(try first|exact ⟨rfl,_,World.drewN_drewN _ _ _⟩|exact ⟨rfl,_,Eq.trans (World.drewN_drewN _ _ _) (congrArg (World.drewN _) (Nat.add_assoc _ _ _))⟩))
    | (go_at_call 146;(with_reducible refine (impl_turned.calls (rd V 4) 25 _ _ (turn_at (rd V 4) 25 (by decide))).mono ?_);rintro e w' ⟨rfl,⟨nd,rfl⟩⟩;(try first|exact ⟨rfl,_,World.drewN_drewN _ _ _⟩|exact ⟨rfl,_,Eq.trans (World.drewN_drewN _ _ _) (congrArg (World.drewN _) (Nat.add_assoc _ _ _))⟩)))
   go_wp2_with (first
    | ((with_reducible refine δx (N:=66) rfl ?_);refine goesL_ (some 66) rfl rfl Tryz.func146 (by kernel_rfl) rfl #[.int .u32 (rd V 0),.int .i64 2] rfl (by (try simp only [δd,δe,δf]);first|done|rfl) ?_;(with_reducible refine (impl_turned.calls (rd V 0) 2 _ _ (turn_at (rd V 0) 2 (by decide))).mono ?_);rintro e w_ ⟨rfl,⟨nd66,rfl⟩⟩;refine ⟨_,rfl,?_⟩)
    | ((with_reducible refine δx (N:=68) rfl ?_);refine goesL_ (some 68) rfl rfl Tryz.func146 (by kernel_rfl) rfl #[.int .u32 (rd V 0),.int .i64 13] rfl (by (try simp only [δd,δe,δf]);first|done|rfl) ?_;(with_reducible refine (impl_turned.calls (rd V 0) 13 _ _ (turn_at (rd V 0) 13 (by decide))).mono ?_);rintro e w_ ⟨rfl,⟨nd68,rfl⟩⟩;refine ⟨_,rfl,?_⟩)
    | ((with_reducible refine δx (N:=71) rfl ?_);refine goesL_ (some 71) rfl rfl Tryz.func146 (by kernel_rfl) rfl #[.int .u32 (rd V 0),.int .i64 22] rfl (by (try simp only [δd,δe,δf]);first|done|rfl) ?_;(with_reducible refine (impl_turned.calls (rd V 0) 22 _ _ (turn_at (rd V 0) 22 (by decide))).mono ?_);rintro e w_ ⟨rfl,⟨nd71,rfl⟩⟩;refine ⟨_,rfl,?_⟩)
    | ((with_reducible refine gate_store (t:=113) (p:=7) rfl ?_);refine row_event2 rfl 113 (.tmp 7) (.tmp 98) rfl g7 (((impl_blockHash.step kk W64 V i).map (Value.int .u32)).toArray) ?hx ?hy (δn B7.out _) ?hi ?ho arr_one ?_;(case hx=>rfl);(case hy=>rfl);(case hi=>kernel_rfl);(case ho=>(rw [HSZ.out];rfl));intro w1 hw1;have n0_:Aside0 (Below w.heap.size w w1):=⟨by rw [hw1];refine setRow_below ?_ G7.out;repeat (first|exact HB.out|apply δk|apply δi|apply δj)⟩;have n1_:Aside0 (w1.heap[g7]? = some (.cells (((impl_blockHash.step kk W64 V i).map (Value.int .u32)).toArray) 113 (0,0))):=⟨by rw [hw1];exact setRow_self (δn B7.out _)⟩;have n2_:Aside0 (w1.heap[g3]? = some (.cells ((words.map (Value.int .u32)).toArray) 113 (0,0))):=⟨by rw [hw1];exact (setRow_other N73.out).trans (δn B3.out _)⟩;have n3_:Aside0 (w1.heap[g4]? = some (.cells ((kk.map (Value.int .u32)).toArray) 115 (0,0))):=⟨by rw [hw1];exact (setRow_other (blk_ne B7.out B4.out (by decide))).trans (δn B4.out _)⟩;have n4_:Aside0 (w1.heap[g6]? = some (.cells (((List.replicate 8 (0:Int)).map (Value.int .u32)).toArray) 113 (0,0))):=⟨by rw [hw1];exact (setRow_other N76.out).trans (δn B6.out _)⟩;have n5_:Aside0 (w1.heap[g8]? = some (.cells ((W64.map (Value.int .u32)).toArray) 115 (0,0))):=⟨by rw [hw1];exact (setRow_other (blk_ne B7.out B8.out (by decide))).trans (δn B8.out _)⟩;clear B3 B4 B6 B7 B8 HB v0 v1 v2 v3 v4 v5 v6 v7 vk vw hw1;have HB:=n0_;have B7:=n1_;have B3:=n2_;have B4:=n3_;have B6:=n4_;have B8:=n5_;clear n0_ n1_ n2_ n3_ n4_ n5_))
   go_roundg k1
   case measure=>omega
   case rel =>
    have hR:impl_blockHash.rounds kk W64 words (i+1)=impl_blockHash.step kk W64 V i:=by rw [HV.out];rfl
    refine ⟨i+1,by rw [INC.out],⟨by have:=HI.out;omega⟩,⟨?_⟩,⟨B3.out⟩,⟨B4.out⟩,⟨B6.out⟩,⟨B8.out⟩,⟨HB.out⟩⟩
    rw [hR]
    exact B7.out

end Go.Proofs.YtggemblkhckbpaaGreatDoor.Q
