/- Parts of the proof: what single Go functions compute, each with its walk, and plain laws over these. -/
import Derived.Test.YtggemblkhckbpaaDoorProg
import Derived.Below
import Derived.Deep.Draws
import Derived.Deep.AppendLies
import Derived.Maps.AppendAt
import Derived.OwnWalk
import Derived.Laws.BytesArg
import Derived.Laws.MakeOwn
import Derived.Laws.OwnMore
import Derived.Deep.OwnRows
import Derived.Tactics
import Derived.Lib.ConvBytes
import Derived.Laws.Slices
import Derived.WalkKit
import Derived.KernelRfl
import Derived.RowKit3
import Derived.Deep.LoopGhost
import Derived.Deep.QuietTactic
import Derived.BigQuiet
import Derived.WideLaws
import Derived.Deep.DeepCutAuto
import Derived.Deep.CutBlock
import Derived.Deep.RegionHeld3
import Derived.Laws.Rows
import Derived.Lib.AppendStr
import Derived.ArgAppend
import Derived.Laws.IdiomCopy
import Derived.OrdersHeld
import Derived.Laws.BitsLemmas
import Derived.RowKit
import Derived.Shelf.Abstract
import Derived.Laws.Cover1
import Derived.Test.YtggemblkhckbpaaDoorVShelf
import Derived.Lib.AppendIntMem
import Derived.Shelf.Strings.SlTrimAscii
import Derived.Test.YtggemblkhckbpaaDoorVWords
import Derived.Test.YtggemblkhckbpaaDoorVLast
import Derived.Test.YtggemblkhckbpaaDoorVTab
import Derived.Test.YtggemblkhckbpaaDoorVFour
import Derived.Test.YtggemblkhckbpaaDoorVQPut
import Derived.Test.YtggemblkhckbpaaDoorVApart
import Derived.Test.YtggemblkhckbpaaDoorVArr
import Derived.Test.YtggemblkhckbpaaDoorVZeros
import Derived.Test.YtggemblkhckbpaaDoorVFoot
import Derived.Test.YtggemblkhckbpaaDoorVKept
import Derived.Test.YtggemblkhckbpaaDoorVShare
import Derived.Test.YtggemblkhckbpaaDoorVN
import Derived.Test.YtggemblkhckbpaaDoorVFootNe
import Derived.Test.YtggemblkhckbpaaDoorVAt
import Derived.Test.YtggemblkhckbpaaDoorVEqStruct
import Derived.Test.YtggemblkhckbpaaDoorVRepsOne
import Derived.Test.YtggemblkhckbpaaDoorVInv
import Derived.Test.YtggemblkhckbpaaDoorVInvWords
import Derived.Test.YtggemblkhckbpaaDoorVGuard
import Derived.Test.YtggemblkhckbpaaDoorVNEv
import Derived.Test.YtggemblkhckbpaaDoorVMore
namespace Go.Proofs.YtggemblkhckbpaaDoor.Q
open Go.RowKit Go.Proofs.YtggemblkhckbpaaDoorW.PrintWords Go.Proofs.YtggemblkhckbpaaDoorW.PrintLast Go.Proofs.YtggemblkhckbpaaDoorW.PrintMore
attribute [local go_sem] max2_int min2_int max_two min_two max_three min_three max_four min_four   -- for this text's walks alone
set_option linter.unusedVariables false
set_option linter.unusedSimpArgs false

def errW : Option Int → Value
  | none => .nilIface
  | some c => .iface 0 (.int .i64 c)
theorem errW_none : errW none = .nilIface := rfl
theorem errW_some (c : Int) : errW (some c) = .iface 0 (.int .i64 c) := rfl

theorem info5 : (Tryd.prog.info? 5).map (fun i => (i.zero, i.size, i.bytes)) = some (some (.int .u8 0), 1, 1) := by kernel_rfl
theorem info36 : (Tryd.prog.info? 36).map (fun i => (i.zero, i.size, i.bytes)) = some (some (.int .u32 0), 1, 4) := by kernel_rfl
-- the values' own types

end Go.Proofs.YtggemblkhckbpaaDoor.Q

namespace Go.Proofs.YtggemblkhckbpaaDoor.Q
open Go.RowKit Go.Proofs.YtggemblkhckbpaaDoorW.PrintWords Go.Proofs.YtggemblkhckbpaaDoorW.PrintLast Go.Proofs.YtggemblkhckbpaaDoorW.PrintMore
attribute [local go_sem] max2_int min2_int max_two min_two max_three min_three max_four min_four   -- for this text's walks alone
set_option linter.unusedVariables false
set_option linter.unusedSimpArgs false

/-! ### strings_Repeat: function 20 -/
def strings_Repeat.f (a0 : ByteArray) (a1 : Int) : Option ByteArray := if 0 ≤ a1 ∧ a1 ≤ 1000000 ∧ a0.size ≤ 1000 then some ⟨(Lib.repeatL a0.data.toList a1.toNat).toArray⟩ else none
theorem strings_Repeat.calls (a0 : ByteArray) (a1 : Int) (r : ByteArray) (w : World) (h : strings_Repeat.f a0 a1 = some r) :
    Calls Tryd.prog 20 #[.string a0, .int .i64 a1] w fun e w' => e = .returned (.string r) ∧ Below w.heap.size w w' := by
  unfold strings_Repeat.f at h
  split at h
  · rename_i hc
    cases h
    have e : a1 = ((a1.toNat : Nat) : Int) := by omega
    have hm : a0.size * a1.toNat ≤ 1000 * 1000000 := Nat.mul_le_mul hc.2.2 (by omega)
    have := Tryd.strings_Repeat a0 a1.toNat w (by omega) (by omega)
    rw [← e] at this
    exact this
  · cases h

end Go.Proofs.YtggemblkhckbpaaDoor.Q

namespace Go.Proofs.YtggemblkhckbpaaDoor.Q
open Go.RowKit Go.Proofs.YtggemblkhckbpaaDoorW.PrintWords Go.Proofs.YtggemblkhckbpaaDoorW.PrintLast Go.Proofs.YtggemblkhckbpaaDoorW.PrintMore
attribute [local go_sem] max2_int min2_int max_two min_two max_three min_three max_four min_four   -- for this text's walks alone
set_option linter.unusedVariables false
set_option linter.unusedSimpArgs false

/-! ### impl_number: function 21 -/
def impl_number.l0 : Nat → Int → List Int → Int → Option (ByteArray)
  | 0, _, _, _ => none
  | k + 1, x0, x5, x6 => if x6 ≥ 0 then (if 0 ≤ x6 then (if x6 < (x5.length : Int) then (impl_number.l0 k (x0 / 256) (x5.set (x6 : Int).toNat ((x0) % 256)) (wrap64 (x6 - 1))) else (none)) else (none)) else (some (strOfNums x5))
def impl_number.f (k : Nat) (a0 : Int) (a1 : Int) : Option (ByteArray) := if 0 ≤ a1 then (if (a1 : Int).toNat ≤ 281474976710656 then (impl_number.l0 k a0 (List.replicate (a1 : Int).toNat 0) (wrap64 (a1 - 1))) else (none)) else (none)
set_option maxHeartbeats 8000000 in
set_option maxRecDepth 100000 in
theorem impl_number.calls (k : Nat) (a0 : Int) (a1 : Int) (r : ByteArray) (w : World) (h : impl_number.f k a0 a1 = some r) :
    Calls Tryd.prog 21 #[.int .i64 a0, .int .i64 a1] w fun e w' => e = .returned (.string r) ∧ Below w.heap.size w w' := by
  have HB := Aside0.mk (Below.refl w.heap.size w)
  have H : (if 0 ≤ a1 then (if (a1 : Int).toNat ≤ 281474976710656 then (impl_number.l0 k a0 (List.replicate (a1 : Int).toNat 0) (wrap64 (a1 - 1))) else (none)) else (none)) = some r := h
  clear h
  by_cases c3 : 0 ≤ a1
  · rw [if_pos c3] at H
    have c3b0 := eq_true c3
    have c3b1 : decide (0 ≤ a1) = true := decide_eq_true c3
    clear c3
    by_cases c4 : (a1 : Int).toNat ≤ 281474976710656
    · rw [if_pos c4] at H
      have c4b0 := eq_true c4
      have c4b1 : decide ((a1 : Int).toNat ≤ 281474976710656) = true := decide_eq_true c4
      clear c4
      obtain ⟨y104, hy104⟩ : ∃ y_ : List Int, y_ = (List.replicate (a1 : Int).toNat 0) := ⟨_, rfl⟩
      replace H : (impl_number.l0 k a0 y104 (wrap64 (a1 - 1))) = some r := by first | (rw [hy104]; with_reducible exact H) | (have H2_ := (Option.bind_some _ _).symm.trans H; rw [hy104]; with_reducible exact H2_) | (have H2_ := (Option.bind_some _ _).symm.trans H; with_reducible exact H2_) | with_reducible exact H | (rw [hy104]; exact H) | exact H
      have Ny104 := Aside0.mk hy104
      clear hy104
      have H' := Aside0.mk H
      clear H
      go_enter Tryd.func21, Tryd.ntmps21
      go_wp2_with (first | ((with_reducible refine gate_dst (N := 8) rfl ?_); refine Kd.R_make (Kd.int .u8) _ 5 rfl (N := 8) rfl 22 _ _ rfl a1 rfl rfl Tryd.underlying22 (.int .u8 0) 1 info5 rfl (by decide) (by omega) 0 (ok := fun _ => True) (okp := fun _ => True) rfl (fun _ hk => hk) trivial (of_decide_eq_true (by first | (with_reducible assumption) | assumption)) (Nat.le_trans (Nat.mul_le_mul_right _ (of_decide_eq_true (by first | (with_reducible assumption) | assumption) : a1.toNat ≤ 281474976710656)) (by omega)) (Below.refl _ _) (Nat.le_refl _) ?_; intro v105 w5 ho6 hb hg_ hnew_; clear hg_ hnew_; (first | rw [← Ny104.out] at ho6 | (simp only [Int.reduceToNat] at ho6; rw [← Ny104.out] at ho6)); have n0_ := Aside0.mk (Kd.R_lower ho6 (below_size (by repeat (first | (with_reducible first | exact HB.out | apply below_alloc | apply pw_below_drewN | apply below_drew1) | exact HB.out)))); have n1_ := Aside0.mk (below_step (by repeat (first | (with_reducible first | exact HB.out | apply below_alloc | apply pw_below_drewN | apply below_drew1) | exact HB.out)) hb); clear HB; have HO106 := n0_; have HB := n1_; clear n0_ n1_; clear hb ho6))
      go_loopg [0, 6] k (fun kq v0 v6 w' => ∃ (x0_1 : Int) (x5_1 : List Int) (x6_1 : Int), v0 = .int .i64 x0_1 ∧ v6 = .int .i64 x6_1 ∧ Aside0 (impl_number.l0 kq x0_1 x5_1 x6_1 = some r) ∧ Aside0 (kq ≤ k) ∧ Aside0 (Kd.R (Kd.int .u8) 5 w' w.heap.size (fun _ => True) v105 x5_1) ∧ Aside0 (Below w.heap.size w w'))
      case atStart => exact ⟨(a0), (y104), (wrap64 (a1 - 1)), (by first | rfl | (simp; done) | (simp [*]; done)), (by first | rfl | (simp; done) | (simp [*]; done)), H', ⟨Nat.le_refl _⟩, ⟨by (with_reducible repeat (first | apply Kd.R_alloc | apply Kd.R_drewN | apply Kd.R_drew)); exact HO106.out⟩, ⟨by repeat (first | (with_reducible first | exact HB.out | apply below_alloc | apply pw_below_drewN | apply below_drew1) | exact HB.out)⟩⟩
      case round =>
        clear H'
        try clear c2
        try clear p2
        try clear c3
        try clear c3b0
        try clear c3b1
        try clear c4
        try clear c4b0
        try clear c4b1
        try clear p6
        obtain ⟨x0_1, x5_1, x6_1, rfl, rfl, HA, HK1, HO_5, HB⟩ := hrel
        cases gk with
        | zero => exact absurd HA.out (by simp [impl_number.l0])
        | succ k1 =>
          have H := HA.out
          clear HA
          simp only [impl_number.l0] at H
          by_cases c7 : x6_1 ≥ 0
          · rw [if_pos c7] at H
            have c7b0 : decide (0 ≤ x6_1) = true := decide_eq_true c7
            clear c7
            by_cases c8 : 0 ≤ x6_1
            · rw [if_pos c8] at H
              have c8b0 : decide (0 ≤ x6_1) = true := decide_eq_true c8
              clear c8
              by_cases c9 : x6_1 < (x5_1.length : Int)
              · rw [if_pos c9] at H
                have c9b0 : decide (x6_1 < (x5_1.length : Int)) = true := decide_eq_true c9
                clear c9
                obtain ⟨y107, hy107⟩ : ∃ y_ : List Int, y_ = (x5_1.set (x6_1 : Int).toNat ((x0_1) % 256)) := ⟨_, rfl⟩
                replace H : (impl_number.l0 k1 (x0_1 / 256) y107 (wrap64 (x6_1 - 1))) = some r := by first | (rw [hy107]; with_reducible exact H) | (have H2_ := (Option.bind_some _ _).symm.trans H; rw [hy107]; with_reducible exact H2_) | (have H2_ := (Option.bind_some _ _).symm.trans H; with_reducible exact H2_) | with_reducible exact H | (rw [hy107]; exact H) | exact H
                have Ny107 := Aside0.mk hy107
                clear hy107
                have H' := Aside0.mk H
                clear H
                have p10 : 0 ≤ (x6_1 : Int) := of_decide_eq_true (by first | (with_reducible assumption) | assumption)
                have q10 : (x6_1 : Int) < ((x5_1.length : Int) : Int) := of_decide_eq_true (by first | (with_reducible assumption) | assumption)
                obtain ⟨go10, co10, eo10, gb10, gl10, cl10, HG10⟩ := Kd.R_form HO_5.out (by omega)
                (first | cases eo10 | (injection eo10 with ea_ en_ ec_; (first | subst ea_ | (injection ea_ with ea_; subst ea_)); subst ec_; clear en_))
                have GB10 := Aside0.mk gb10
                have GG10 := Aside0.mk HG10
                clear gb10 gl10 HG10
                obtain ⟨hx10_0, hf10_0⟩ := Kd.R_celln 0 HO_5.out (x6_1 : Int) p10 q10
                replace p10 := eq_true p10
                replace q10 := eq_true q10
                have HP11 := Kd.R_putg HO_5.out (x6_1 : Int) ((x0_1) % 256)
                go_wp2_with (first | ((with_reducible refine gate_store (t := 5) (p := 19) rfl ?_); refine store_event (t := 5) (p := 19) (v := ?vo_w12) (w1 := (wr.setCell ⟨go10, (x6_1 : Int).toNat, none⟩ (.int .u8 ((x0_1) % 256)))) ?hg ?ho ?hn ?hr ?_; (case ho => rfl); (case hg => rfl); (case hn => rfl); (case hr => first | (go_simp; done) | (go_simp; rfl)); intro w12 hw; have hg : wr.grownBy w12 (some go10) := (by rw [hw]; exact HP11.2); have hp_ : Kd.R (Kd.int .u8) 5 w12 w.heap.size (fun _ => True) (.slice (some ⟨go10, 0, none⟩) x5_1.length co10) y107 := (by rw [hw, Ny107.out]; exact HP11.1); clear HP11; have n0_ := Aside0.mk (hp_); have n1_ := Aside0.mk ((by rw [hw]; exact below_set (HB.out) GB10.out : Below w.heap.size w w12)); clear HO_5; clear HB; have HO_5 := n0_; have HB := n1_; clear n0_ n1_; clear hg hw hp_))
                go_roundg k1
                case measure => have := HK1.out; omega
                case rel => exact ⟨(x0_1 / 256), (y107), (wrap64 (x6_1 - 1)), (by first | rfl | (simp; done) | (simp [*]; done)), (by first | rfl | (simp; done) | (simp [*]; done)), H', ⟨by have := HK1.out; omega⟩, ⟨by (with_reducible repeat (first | apply Kd.R_alloc | apply Kd.R_drewN | apply Kd.R_drew)); exact HO_5.out⟩, ⟨by repeat (first | (with_reducible first | exact HB.out | apply below_alloc | apply pw_below_drewN | apply below_drew1) | exact HB.out)⟩⟩
              · rw [if_neg c9] at H
                exact absurd H (by simp)
            · rw [if_neg c8] at H
              exact absurd H (by simp)
          · rw [if_neg c7] at H
            have c7b0 : decide (0 ≤ x6_1) = false := decide_eq_false c7
            clear c7
            obtain rfl := Option.some.inj H
            have hcv13 := own_string (P := Tryd.prog) Tryd.underlying22 Tryd.underlying5 Tryd.underlying9 (Kd.own_of_R HO_5.out)
            go_wp2
            go_ret
            exact ⟨by first | rfl | (simp [errW_none, errW_some] <;> rfl) | (simp [*, errW_none, errW_some] <;> rfl), by repeat (first | (with_reducible first | exact HB.out | apply below_alloc | apply pw_below_drewN | apply below_drew1) | exact HB.out)⟩
    · rw [if_neg c4] at H
      exact absurd H (by simp)
  · rw [if_neg c3] at H
    exact absurd H (by simp)

end Go.Proofs.YtggemblkhckbpaaDoor.Q

namespace Go.Proofs.YtggemblkhckbpaaDoor.Q
open Go.RowKit Go.Proofs.YtggemblkhckbpaaDoorW.PrintWords Go.Proofs.YtggemblkhckbpaaDoorW.PrintLast Go.Proofs.YtggemblkhckbpaaDoorW.PrintMore
attribute [local go_sem] max2_int min2_int max_two min_two max_three min_three max_four min_four   -- for this text's walks alone
set_option linter.unusedVariables false
set_option linter.unusedSimpArgs false

/-! ### impl_hashWords: function 22 -/
def impl_hashWords.f : Option (List Int) := some [1779033703, 3144134277, 1013904242, 2773480762, 1359893119, 2600822924, 528734635, 1541459225]
theorem impl_hashWords.one (L : List Int) : ((L.map (Value.int .u32)).toArray).all (·.oneCell') = true := by
  rw [Array.all_eq_true_iff_forall_mem]
  intro x hx
  simp only [List.mem_toArray, List.mem_map] at hx
  obtain ⟨y, _, rfl⟩ := hx
  rfl
theorem impl_hashWords.self {W : World} {g : Nat} {t : TypeId} {old cs : Array Value} (h : W.heap[g]? = some (.cells old t (0, 0))) : (W.setRow g cs).heap[g]? = some (.cells cs t (0, 0)) := by
  simp only [World.setRow]
  rw [Array.getElem?_modify, if_pos rfl, h]
  rfl
theorem impl_hashWords.low {w W : World} {g : Nat} {cs : Array Value} (h : Below w.heap.size w W) (hg : w.heap.size ≤ g) : Below w.heap.size w (W.setRow g cs) :=
  ⟨h.os, h.tape, h.output, by have := h.size; simpa [World.setRow] using this, fun k hk => (show (W.setRow g cs).heap[k]? = W.heap[k]? by simp only [World.setRow]; rw [Array.getElem?_modify, if_neg (by omega)]).trans (h.block k hk)⟩
set_option maxHeartbeats 4000000 in
set_option maxRecDepth 100000 in
theorem impl_hashWords.calls (r : List Int) (w : World) (h : impl_hashWords.f = some r) :
    Calls Tryd.prog 22 #[] w fun e w' => e = .returned (.agg (r.map (Value.int .u32)).toArray) ∧ Below w.heap.size w w' := by
  have hu := Tryd.underlying37
  have HB := Aside0.mk (Below.refl w.heap.size w)
  obtain ⟨L, hL⟩ : ∃ L : List Int, L = [1779033703, 3144134277, 1013904242, 2773480762, 1359893119, 2600822924, 528734635, 1541459225] := ⟨_, rfl⟩
  have hr : L = r := hL.trans (Option.some.inj h)
  subst hr
  clear h
  have HL := Aside0.mk hL
  have SZ := Aside0.mk (show ((L.map (Value.int .u32)).toArray).size = 8 by rw [hL]; rfl)
  clear hL
  go_enter Tryd.func22, Tryd.ntmps22
  go_wp2_with (first
    | ((with_reducible refine gate_dst (N := 0) rfl ?_); refine box_event ?hg (N := 0) ?hd (cs := (((List.replicate 8 (0 : Int)).map (Value.int .u32)).toArray)) (t := 37) ?hr ?_; (case hd => rfl); (case hg => rfl); (case hr => first | (go_simp; done) | (go_simp; rfl)); intro gbp hg wp hbox hb; have GW := Aside0.mk ((by rw [hg]; exact below_size HB.out) : w.heap.size ≤ gbp); have n0_ := Aside0.mk (below_step (by repeat (first | exact HB.out | apply below_alloc | apply pw_below_drewN | apply below_drew1)) hb); clear HB; have HB := n0_; clear n0_; have BKp := Aside0.mk hbox; clear hb hbox hg)
    | ((with_reducible refine gate_store (t := 37) (p := 0) rfl ?_); refine wpList_plain rfl fun _ hK => wp_store_row 37 (.tmp 0) (.tmp 1) rfl gbp ((L.map (Value.int .u32)).toArray) (by rfl) (by rw [HL.out]; rfl) _ _ BKp.out ((show _ = some 8 from by kernel_rfl).trans (congrArg some SZ.out.symm)) (by rw [SZ.out]; rfl) (impl_hashWords.one L) (hK _ _ ?_)))
  refine bodyPost_ret (results_cell_row rfl _ _ gbp 37 _ (0, 0) _ rfl (impl_hashWords.self BKp.out) hu rfl ((show _ = some 8 from by kernel_rfl).trans (congrArg some SZ.out.symm))) rfl ?_
  exact ⟨rfl, impl_hashWords.low HB.out GW.out⟩

end Go.Proofs.YtggemblkhckbpaaDoor.Q

namespace Go.Proofs.YtggemblkhckbpaaDoor.Q
open Go.RowKit Go.Proofs.YtggemblkhckbpaaDoorW.PrintWords Go.Proofs.YtggemblkhckbpaaDoorW.PrintLast Go.Proofs.YtggemblkhckbpaaDoorW.PrintMore
attribute [local go_sem] max2_int min2_int max_two min_two max_three min_three max_four min_four   -- for this text's walks alone
set_option linter.unusedVariables false
set_option linter.unusedSimpArgs false

/-! ### impl_roundWords: function 23 -/
def impl_roundWords.f : Option (List Int) := some [1116352408, 1899447441, 3049323471, 3921009573, 961987163, 1508970993, 2453635748, 2870763221, 3624381080, 310598401, 607225278, 1426881987, 1925078388, 2162078206, 2614888103, 3248222580, 3835390401, 4022224774, 264347078, 604807628, 770255983, 1249150122, 1555081692, 1996064986, 2554220882, 2821834349, 2952996808, 3210313671, 3336571891, 3584528711, 113926993, 338241895, 666307205, 773529912, 1294757372, 1396182291, 1695183700, 1986661051, 2177026350, 2456956037, 2730485921, 2820302411, 3259730800, 3345764771, 3516065817, 3600352804, 4094571909, 275423344, 430227734, 506948616, 659060556, 883997877, 958139571, 1322822218, 1537002063, 1747873779, 1955562222, 2024104815, 2227730452, 2361852424, 2428436474, 2756734187, 3204031479, 3329325298]
theorem impl_roundWords.one (L : List Int) : ((L.map (Value.int .u32)).toArray).all (·.oneCell') = true := by
  rw [Array.all_eq_true_iff_forall_mem]
  intro x hx
  simp only [List.mem_toArray, List.mem_map] at hx
  obtain ⟨y, _, rfl⟩ := hx
  rfl
theorem impl_roundWords.self {W : World} {g : Nat} {t : TypeId} {old cs : Array Value} (h : W.heap[g]? = some (.cells old t (0, 0))) : (W.setRow g cs).heap[g]? = some (.cells cs t (0, 0)) := by
  simp only [World.setRow]
  rw [Array.getElem?_modify, if_pos rfl, h]
  rfl
theorem impl_roundWords.low {w W : World} {g : Nat} {cs : Array Value} (h : Below w.heap.size w W) (hg : w.heap.size ≤ g) : Below w.heap.size w (W.setRow g cs) :=
  ⟨h.os, h.tape, h.output, by have := h.size; simpa [World.setRow] using this, fun k hk => (show (W.setRow g cs).heap[k]? = W.heap[k]? by simp only [World.setRow]; rw [Array.getElem?_modify, if_neg (by omega)]).trans (h.block k hk)⟩
set_option maxHeartbeats 4000000 in
set_option maxRecDepth 100000 in
theorem impl_roundWords.calls (r : List Int) (w : World) (h : impl_roundWords.f = some r) :
    Calls Tryd.prog 23 #[] w fun e w' => e = .returned (.agg (r.map (Value.int .u32)).toArray) ∧ Below w.heap.size w w' := by
  have hu := Tryd.underlying39
  have HB := Aside0.mk (Below.refl w.heap.size w)
  obtain ⟨L, hL⟩ : ∃ L : List Int, L = [1116352408, 1899447441, 3049323471, 3921009573, 961987163, 1508970993, 2453635748, 2870763221, 3624381080, 310598401, 607225278, 1426881987, 1925078388, 2162078206, 2614888103, 3248222580, 3835390401, 4022224774, 264347078, 604807628, 770255983, 1249150122, 1555081692, 1996064986, 2554220882, 2821834349, 2952996808, 3210313671, 3336571891, 3584528711, 113926993, 338241895, 666307205, 773529912, 1294757372, 1396182291, 1695183700, 1986661051, 2177026350, 2456956037, 2730485921, 2820302411, 3259730800, 3345764771, 3516065817, 3600352804, 4094571909, 275423344, 430227734, 506948616, 659060556, 883997877, 958139571, 1322822218, 1537002063, 1747873779, 1955562222, 2024104815, 2227730452, 2361852424, 2428436474, 2756734187, 3204031479, 3329325298] := ⟨_, rfl⟩
  have hr : L = r := hL.trans (Option.some.inj h)
  subst hr
  clear h
  have HL := Aside0.mk hL
  have SZ := Aside0.mk (show ((L.map (Value.int .u32)).toArray).size = 64 by rw [hL]; rfl)
  clear hL
  go_enter Tryd.func23, Tryd.ntmps23
  go_wp2_with (first
    | ((with_reducible refine gate_dst (N := 0) rfl ?_); refine box_event ?hg (N := 0) ?hd (cs := (((List.replicate 64 (0 : Int)).map (Value.int .u32)).toArray)) (t := 39) ?hr ?_; (case hd => rfl); (case hg => rfl); (case hr => first | (go_simp; done) | (go_simp; rfl)); intro gbp hg wp hbox hb; have GW := Aside0.mk ((by rw [hg]; exact below_size HB.out) : w.heap.size ≤ gbp); have n0_ := Aside0.mk (below_step (by repeat (first | exact HB.out | apply below_alloc | apply pw_below_drewN | apply below_drew1)) hb); clear HB; have HB := n0_; clear n0_; have BKp := Aside0.mk hbox; clear hb hbox hg)
    | ((with_reducible refine gate_store (t := 39) (p := 0) rfl ?_); refine wpList_plain rfl fun _ hK => wp_store_row 39 (.tmp 0) (.tmp 1) rfl gbp ((L.map (Value.int .u32)).toArray) (by rfl) (by rw [HL.out]; rfl) _ _ BKp.out ((show _ = some 64 from by kernel_rfl).trans (congrArg some SZ.out.symm)) (by rw [SZ.out]; rfl) (impl_roundWords.one L) (hK _ _ ?_)))
  refine bodyPost_ret (results_cell_row rfl _ _ gbp 39 _ (0, 0) _ rfl (impl_roundWords.self BKp.out) hu rfl ((show _ = some 64 from by kernel_rfl).trans (congrArg some SZ.out.symm))) rfl ?_
  exact ⟨rfl, impl_roundWords.low HB.out GW.out⟩

end Go.Proofs.YtggemblkhckbpaaDoor.Q

namespace Go.Proofs.YtggemblkhckbpaaDoor.Q
open Go.RowKit Go.Proofs.YtggemblkhckbpaaDoorW.PrintWords Go.Proofs.YtggemblkhckbpaaDoorW.PrintLast Go.Proofs.YtggemblkhckbpaaDoorW.PrintMore
attribute [local go_sem] max2_int min2_int max_two min_two max_three min_three max_four min_four   -- for this text's walks alone
set_option linter.unusedVariables false
set_option linter.unusedSimpArgs false

/-! ### bits_RotateLeft32: function 55 -/
def bits_RotateLeft32.f (a0 : Int) (a1 : Int) : Option (Int) := if 0 ≤ (Go.bits .and .u64 (IntKind.u64.wrap (a1)) 31) then (if 0 ≤ (IntKind.u64.wrap (32 - (Go.bits .and .u64 (IntKind.u64.wrap (a1)) 31))) then (some (Go.bits .or .u32 (shl .u32 a0 (Go.bits .and .u64 (IntKind.u64.wrap (a1)) 31)) (shr .u32 a0 (IntKind.u64.wrap (32 - (Go.bits .and .u64 (IntKind.u64.wrap (a1)) 31)))))) else (none)) else (none)
set_option maxHeartbeats 8000000 in
set_option maxRecDepth 100000 in
theorem bits_RotateLeft32.calls (a0 : Int) (a1 : Int) (r : Int) (w : World) (h : bits_RotateLeft32.f a0 a1 = some r) :
    Calls Tryd.prog 55 #[.int .u32 a0, .int .i64 a1] w fun e w' => e = .returned (.int .u32 r) ∧ Drawn0 w w' := by
  have H : (if 0 ≤ (Go.bits .and .u64 (IntKind.u64.wrap (a1)) 31) then (if 0 ≤ (IntKind.u64.wrap (32 - (Go.bits .and .u64 (IntKind.u64.wrap (a1)) 31))) then (some (Go.bits .or .u32 (shl .u32 a0 (Go.bits .and .u64 (IntKind.u64.wrap (a1)) 31)) (shr .u32 a0 (IntKind.u64.wrap (32 - (Go.bits .and .u64 (IntKind.u64.wrap (a1)) 31)))))) else (none)) else (none)) = some r := h
  clear h
  obtain ⟨ji3, hji3⟩ : ∃ j_ : Int, (Go.bits .and .u64 (IntKind.u64.wrap (a1)) 31) = j_ := ⟨_, rfl⟩
  replace H : (if 0 ≤ (ji3) then (if 0 ≤ (IntKind.u64.wrap (32 - (ji3))) then (some (Go.bits .or .u32 (shl .u32 a0 (ji3)) (shr .u32 a0 (IntKind.u64.wrap (32 - (ji3)))))) else (none)) else (none)) = some r := by first | (rw [hji3] at H; exact H) | (simp only [hji3] at H ⊢; exact H)
  by_cases c4 : 0 ≤ (ji3)
  · rw [if_pos c4] at H
    have c4b0 := eq_true c4
    have c4b1 : decide (0 ≤ (ji3)) = true := decide_eq_true c4
    clear c4
    obtain ⟨ji5, hji5⟩ : ∃ j_ : Int, (shl .u32 a0 (ji3)) = j_ := ⟨_, rfl⟩
    replace H : (if 0 ≤ (IntKind.u64.wrap (32 - (ji3))) then (some (Go.bits .or .u32 (ji5) (shr .u32 a0 (IntKind.u64.wrap (32 - (ji3)))))) else (none)) = some r := by first | (rw [hji5] at H; exact H) | (simp only [hji5] at H ⊢; exact H)
    have hji5_ : (IntKind.u32.wrap (a0 * 2 ^ min (ji3).toNat 32)) = ji5 := hji5
    have hji5z : (ji3) ≤ 32 → (IntKind.u32.wrap (a0 * 2 ^ (ji3).toNat)) = ji5 := shl_small hji5
    obtain ⟨ji6, hji6⟩ : ∃ j_ : Int, (IntKind.u64.wrap (32 - (ji3))) = j_ := ⟨_, rfl⟩
    replace H : (if 0 ≤ (ji6) then (some (Go.bits .or .u32 (ji5) (shr .u32 a0 (ji6)))) else (none)) = some r := by first | (rw [hji6] at H; exact H) | (simp only [hji6] at H ⊢; exact H)
    by_cases c7 : 0 ≤ (ji6)
    · rw [if_pos c7] at H
      have c7b0 := eq_true c7
      have c7b1 : decide (0 ≤ (ji6)) = true := decide_eq_true c7
      clear c7
      obtain ⟨ji8, hji8⟩ : ∃ j_ : Int, (shr .u32 a0 (ji6)) = j_ := ⟨_, rfl⟩
      replace H : (some (Go.bits .or .u32 (ji5) (ji8))) = some r := by first | (rw [hji8] at H; exact H) | (simp only [hji8] at H ⊢; exact H)
      have hji8_ : (a0 / 2 ^ min (ji6).toNat 32) = ji8 := hji8
      have hji8z : (ji6) ≤ 32 → (a0 / 2 ^ (ji6).toNat) = ji8 := shr_small hji8
      obtain rfl := Option.some.inj H
      go_enter Tryd.func55, Tryd.ntmps55
      go_wp2
      go_ret
      exact ⟨by first | rfl | (simp; done) | (simp only [← hji3, ← hji5, ← hji6, ← hji8] <;> (first | rfl | simp)) | (simp [*]; done), by repeat (first | exact Drawn0.refl _ | apply Drawn0.step)⟩
    · rw [if_neg c7] at H
      exact absurd H (by simp)
  · rw [if_neg c4] at H
    exact absurd H (by simp)

end Go.Proofs.YtggemblkhckbpaaDoor.Q

namespace Go.Proofs.YtggemblkhckbpaaDoor.Q
open Go.RowKit Go.Proofs.YtggemblkhckbpaaDoorW.PrintWords Go.Proofs.YtggemblkhckbpaaDoorW.PrintLast Go.Proofs.YtggemblkhckbpaaDoorW.PrintMore
attribute [local go_sem] max2_int min2_int max_two min_two max_three min_three max_four min_four   -- for this text's walks alone
set_option linter.unusedVariables false
set_option linter.unusedSimpArgs false

/-! ### impl_turned: function 39 -/
def impl_turned.f (a0 : Int) (a1 : Int) : Option (Int) := (bits_RotateLeft32.f a0 (wrap64 (-a1))).bind fun t108 => (some t108)
set_option maxHeartbeats 8000000 in
set_option maxRecDepth 100000 in
theorem impl_turned.calls (a0 : Int) (a1 : Int) (r : Int) (w : World) (h : impl_turned.f a0 a1 = some r) :
    Calls Tryd.prog 39 #[.int .u32 a0, .int .i64 a1] w fun e w' => e = .returned (.int .u32 r) ∧ Drawn0 w w' := by
  have H : ((bits_RotateLeft32.f a0 (wrap64 (-a1))).bind fun t108 => (some t108)) = some r := h
  clear h
  replace H := Option.bind_eq_some_iff.mp H
  obtain ⟨t108, A30, H⟩ := H
  replace H : (some t108) = some r := H
  have A3 := Aside0.mk A30
  clear A30
  obtain rfl := Option.some.inj H
  go_enter Tryd.func39, Tryd.ntmps39
  go_wp2_with (first | ((with_reducible refine gate_callee (f := 55) rfl ?_); refine goesL_ (some 8) rfl rfl Tryd.func55 (by kernel_rfl) rfl #[.int .u32 a0, .int .i64 (wrap64 (-a1))] rfl (by (try simp only [List.map_toArray, List.map_cons, List.map_nil]); first | done | rfl | (simp only [List.length_drop, List.length_take]; rfl)) ?_; (with_reducible refine (bits_RotateLeft32.calls a0 (wrap64 (-a1)) t108 _ A3.out).mono ?_); rintro e w' ⟨rfl, ⟨nd, rfl⟩⟩; refine ⟨_, rfl, ?_⟩))
  go_ret
  exact ⟨by first | rfl | (simp; done) | (simp [*]; done), by repeat (first | exact Drawn0.refl _ | apply Drawn0.step)⟩

end Go.Proofs.YtggemblkhckbpaaDoor.Q

namespace Go.Proofs.YtggemblkhckbpaaDoor.Q
open Go.RowKit Go.Proofs.YtggemblkhckbpaaDoorW.PrintWords Go.Proofs.YtggemblkhckbpaaDoorW.PrintLast Go.Proofs.YtggemblkhckbpaaDoorW.PrintMore
attribute [local go_sem] max2_int min2_int max_two min_two max_three min_three max_four min_four   -- for this text's walks alone
set_option linter.unusedVariables false
set_option linter.unusedSimpArgs false

/-! ### impl_wordsOf: function 38 -/
theorem arr_set {L : List Int} {i : Nat} {x : Int} : ((L.map (Value.int .u32)).toArray).setIfInBounds i (.int .u32 x) = ((L.set i x).map (Value.int .u32)).toArray := by
  rw [List.setIfInBounds_toArray, List.map_set]
theorem arr_get {L : List Int} {i : Nat} (h : i < L.length) : ((L.map (Value.int .u32)).toArray)[i]? = some (.int .u32 (rd L (i : Int))) := by
  rw [List.getElem?_toArray, List.getElem?_map, List.getElem?_eq_getElem h]
  show some _ = some (Value.int .u32 (L.getD ((i : Int)).toNat 0))
  rw [Int.toNat_natCast, List.getD_eq_getElem?_getD, List.getElem?_eq_getElem h]
  rfl
theorem arr_keep {W : World} {g : Nat} {t : TypeId} {L : List Int} {i j : Nat} {u : Value} (h : W.heap[g]? = some (.cells ((L.map (Value.int .u32)).toArray) t (0, 0))) (hne : i ≠ j) (hj : j < L.length) : (W.setCell ⟨g, i, none⟩ u).cell? ⟨g, j, none⟩ = some (.int .u32 (rd L (j : Int))) := by
  refine (blk_cell (blk_put h i u rfl) j).trans ?_
  rw [Array.getElem?_setIfInBounds_ne hne]
  exact arr_get hj
theorem setRow_self {W : World} {g : Nat} {t : TypeId} {old cs : Array Value} (h : W.heap[g]? = some (.cells old t (0, 0))) : (W.setRow g cs).heap[g]? = some (.cells cs t (0, 0)) := by
  simp only [World.setRow]
  rw [Array.getElem?_modify, if_pos rfl, h]
  rfl
theorem setRow_other {W : World} {g g' : Nat} {cs : Array Value} (h : g ≠ g') : (W.setRow g cs).heap[g']? = W.heap[g']? := by
  simp only [World.setRow]
  rw [Array.getElem?_modify, if_neg h]
theorem setRow_below {w W : World} {g : Nat} {cs : Array Value} (h : Below w.heap.size w W) (hg : w.heap.size ≤ g) : Below w.heap.size w (W.setRow g cs) :=
  ⟨h.os, h.tape, h.output, by have := h.size; simpa [World.setRow] using this, fun k hk => (setRow_other (by omega)).trans (h.block k hk)⟩
theorem arr_size {L : List Int} : ((L.map (Value.int .u32)).toArray).size = L.length := by simp
theorem arr_one {L : List Int} : ((L.map (Value.int .u32)).toArray).all (·.oneCell') = true := by
  rw [Array.all_eq_true_iff_forall_mem]
  intro x hx
  simp only [List.mem_toArray, List.mem_map] at hx
  obtain ⟨y, _, rfl⟩ := hx
  rfl
def turnV (x n : Int) : Int := Go.bits .or .u32 (shl .u32 x (32 - n)) (shr .u32 x n)
theorem turn_at (x n : Int) (hn : n = 2 ∨ n = 6 ∨ n = 7 ∨ n = 11 ∨ n = 13 ∨ n = 17 ∨ n = 18 ∨ n = 19 ∨ n = 22 ∨ n = 25) : impl_turned.f x n = some (turnV x n) := by
  unfold impl_turned.f bits_RotateLeft32.f turnV
  have key : ∀ n m : Int, Go.bits .and .u64 (IntKind.u64.wrap (wrap64 (-n))) 31 = m → 0 ≤ m → IntKind.u64.wrap (32 - m) = n → 0 ≤ n → m = 32 - n → (if 0 ≤ (Go.bits .and .u64 (IntKind.u64.wrap (wrap64 (-n))) 31) then (if 0 ≤ (IntKind.u64.wrap (32 - (Go.bits .and .u64 (IntKind.u64.wrap (wrap64 (-n))) 31))) then (some (Go.bits .or .u32 (shl .u32 x (Go.bits .and .u64 (IntKind.u64.wrap (wrap64 (-n))) 31)) (shr .u32 x (IntKind.u64.wrap (32 - (Go.bits .and .u64 (IntKind.u64.wrap (wrap64 (-n))) 31)))))) else (none)) else (none) : Option Int) = some (Go.bits .or .u32 (shl .u32 x (32 - n)) (shr .u32 x n)) := by
    intro n m h1 h2 h3 h4 h5
    rw [h1, h3, if_pos h2, if_pos h4, h5]
  rcases hn with rfl | rfl | rfl | rfl | rfl | rfl | rfl | rfl | rfl | rfl
  · rw [key 2 30 (by kernel_rfl) (by decide) (by kernel_rfl) (by decide) (by decide)]; rfl
  · rw [key 6 26 (by kernel_rfl) (by decide) (by kernel_rfl) (by decide) (by decide)]; rfl
  · rw [key 7 25 (by kernel_rfl) (by decide) (by kernel_rfl) (by decide) (by decide)]; rfl
  · rw [key 11 21 (by kernel_rfl) (by decide) (by kernel_rfl) (by decide) (by decide)]; rfl
  · rw [key 13 19 (by kernel_rfl) (by decide) (by kernel_rfl) (by decide) (by decide)]; rfl
  · rw [key 17 15 (by kernel_rfl) (by decide) (by kernel_rfl) (by decide) (by decide)]; rfl
  · rw [key 18 14 (by kernel_rfl) (by decide) (by kernel_rfl) (by decide) (by decide)]; rfl
  · rw [key 19 13 (by kernel_rfl) (by decide) (by kernel_rfl) (by decide) (by decide)]; rfl
  · rw [key 22 10 (by kernel_rfl) (by decide) (by kernel_rfl) (by decide) (by decide)]; rfl
  · rw [key 25 7 (by kernel_rfl) (by decide) (by kernel_rfl) (by decide) (by decide)]; rfl
/-- A whole row into a box. -/
theorem row_event {Pg : Program} {ops : Array Oper} {Q : Exit → Act → World → Prop} {rest : List Oper} {op : Oper} {a : Act} {W : World} (hgd : op.guard = none) (ty : TypeId) (x y : Operand) (ho : op.op = .store ty x y)
    (g : Nat) (cells : Array Value) (hx : a.eval x = .pointer (some ⟨g, 0, none⟩)) (hy : a.eval y = .agg cells) {t : TypeId} {old : Array Value} (hg : W.heap[g]? = some (.cells old t (0, 0)))
    (hi : (Pg.info? ty).map (·.size) = some cells.size) (hold : old.size = cells.size) (h1 : cells.all (·.oneCell') = true)
    (h : wpList Pg ops Q rest (a.put op.dst undef) (W.setRow g cells)) : wpList Pg ops Q (op :: rest) a W :=
  wpList_plain hgd fun _ hK => wp_store_row ty x y ho g cells hx hy t old hg hi hold h1 (hK _ _ h)
def impl_wordsOf.wd (b : ByteArray) (j : Int) : Int := Go.bits .or .u32 (Go.bits .or .u32 (Go.bits .or .u32 (bt b j % 4294967296 * 16777216 % 4294967296) (bt b (j + 1) % 4294967296 * 65536 % 4294967296)) (bt b (j + 2) % 4294967296 * 256 % 4294967296)) (bt b (j + 3) % 4294967296)
def impl_wordsOf.sg (x : Int) (a b c : Int) : Int := Go.bits .xor .u32 (Go.bits .xor .u32 (turnV x a) (turnV x b)) (x / c)
def impl_wordsOf.at (b : ByteArray) (L : List Int) (i : Nat) : Int := if i < 16 then impl_wordsOf.wd b (4 * (i : Int)) else (((rd L ((i : Int) - 16) + impl_wordsOf.sg (rd L ((i : Int) - 15)) 7 18 8) % 4294967296 + rd L ((i : Int) - 7)) % 4294967296 + impl_wordsOf.sg (rd L ((i : Int) - 2)) 17 19 1024) % 4294967296
def impl_wordsOf.upto (b : ByteArray) : Nat → List Int
  | 0 => List.replicate 64 0
  | i + 1 => (impl_wordsOf.upto b i).set i (impl_wordsOf.at b (impl_wordsOf.upto b i) i)
theorem impl_wordsOf.upto_len (b : ByteArray) : ∀ i, (impl_wordsOf.upto b i).length = 64
  | 0 => rfl
  | i + 1 => by unfold impl_wordsOf.upto; rw [List.length_set]; exact impl_wordsOf.upto_len b i
def impl_wordsOf.T6 : Bool × List (List Nat × List Nat) := (true, [([], []), ([], []), ([], []), ([2], [2]), ([1, 3], [1, 3]), ([4], [4]), ([5], [5]), ([], []), ([], []), ([8], [8]), ([9], [9]), ([7, 10], [7, 10]), ([11], [11]), ([12], [12]), ([6, 13], [6, 13]), ([], []), ([], []), ([16], [16]), ([17], [17]), ([15, 18], [15, 18]), ([19], [19]), ([20], [20]), ([14, 21], [14, 21]), ([], []), ([], []), ([24], [24]), ([25], [25]), ([23, 26], [23, 26]), ([27], [27]), ([22, 28], [22, 28]), ([0, 0, 1, 2, 3, 4, 5, 6, 7, 8, 9, 10, 11, 12, 13, 14, 15, 16, 17, 18, 19, 20, 21, 22, 23, 24, 25, 26, 27, 28, 29], [0]), ([30, 29, 0, 1, 2, 3, 4, 5, 6, 7, 8, 9, 10, 11, 12, 13, 14, 15, 16, 17, 18, 19, 20, 21, 22, 23, 24, 25, 26, 27, 28, 29], [29, 30])])
def impl_wordsOf.B6 : List Nat := [0, 0, 0, 4, 14, 30, 62, 0, 0, 256, 768, 1920, 3968, 8064, 16382, 0, 0, 65536, 196608, 491520, 1015808, 2064384, 4194302, 0, 0, 16777216, 50331648, 125829120, 260046848, 536870910, 1073741823, 2147483647]
theorem impl_wordsOf.tab6 : rtab .any (opsOf Tryd.f38 6) = impl_wordsOf.T6 := by kernel_rfl
theorem impl_wordsOf.bits6 : waitsOk impl_wordsOf.T6.2 impl_wordsOf.B6 = true := by kernel_rfl
def impl_wordsOf.T10 : Bool × List (List Nat × List Nat) := (true, [([], []), ([], []), ([1], [1]), ([2], [2]), ([3], [3]), ([], []), ([4, 5], [4, 5]), ([], []), ([7], [7]), ([8], [8]), ([9], [9]), ([6, 10], [6, 10]), ([], []), ([11, 12], [11, 12]), ([0, 0, 1, 2, 3, 4, 5, 6, 7, 8, 9, 10, 11, 12, 13], [0]), ([14, 13, 0, 1, 2, 3, 4, 5, 6, 7, 8, 9, 10, 11, 12, 13], [13, 14])])
def impl_wordsOf.B10 : List Nat := [0, 0, 2, 6, 14, 0, 62, 0, 128, 384, 896, 2046, 0, 8190, 16383, 32767]
theorem impl_wordsOf.tab10 : rtab .any (opsOf Tryd.f38 10) = impl_wordsOf.T10 := by kernel_rfl
theorem impl_wordsOf.bits10 : waitsOk impl_wordsOf.T10.2 impl_wordsOf.B10 = true := by kernel_rfl
set_option maxHeartbeats 8000000 in
set_option maxRecDepth 100000 in
theorem impl_wordsOf.calls (b : ByteArray) (w : World) (hb : b.size = 64) :
    Calls Tryd.prog 38 #[.string b] w fun e w' => e = .returned (.agg ((impl_wordsOf.upto b 64).map (Value.int .u32)).toArray) ∧ Below w.heap.size w w' := by
  have hu := Tryd.underlying39
  have HB := Aside0.mk (Below.refl w.heap.size w)
  go_enter Tryd.func38, Tryd.ntmps38
  go_wp2_with (first
    | ((with_reducible refine gate_dst (N := 2) rfl ?_); refine box_event ?hg (N := 2) ?hd (cs := (((List.replicate 64 (0 : Int)).map (Value.int .u32)).toArray)) (t := 39) ?hr ?_; (case hd => rfl); (case hg => rfl); (case hr => first | (go_simp; done) | (go_simp; rfl)); intro gbp hg wp hbox hb; have GWp := Aside0.mk ((by rw [hg]; exact below_size HB.out) : w.heap.size ≤ gbp); have n0_ := Aside0.mk (below_step (by repeat (first | exact HB.out | apply below_alloc | apply pw_below_drewN | apply below_drew1)) hb); clear HB; have HB := n0_; clear n0_; have BKp := Aside0.mk hbox; clear hb hbox hg)
    | ((with_reducible refine gate_dst (N := 3) rfl ?_); refine box_event ?hg (N := 3) ?hd (cs := (((List.replicate 64 (0 : Int)).map (Value.int .u32)).toArray)) (t := 39) ?hr ?_; (case hd => rfl); (case hg => rfl); (case hr => first | (go_simp; done) | (go_simp; rfl)); intro gbw hg ww hbox hb; have NE := Aside0.mk (show gbw ≠ gbp by intro e; have := blk_lt BKp.out; omega); have HB0 := HB; have n0_ := Aside0.mk (below_step (by repeat (first | exact HB.out | apply below_alloc | apply pw_below_drewN | apply below_drew1)) hb); clear HB; have HB := n0_; clear n0_; have n0_ := Aside0.mk (blk_below BKp.out hb); clear BKp; have BKp := n0_; clear n0_; have BKw := Aside0.mk hbox; have GWw := Aside0.mk ((by rw [hg]; exact below_size HB0.out) : w.heap.size ≤ gbw); clear HB0; clear hb hbox hg)
    | ((with_reducible refine gate_store (t := 39) (p := 3) rfl ?_); refine row_event rfl 39 (.tmp 3) (.tmp 9) rfl gbw (((List.replicate 64 (0 : Int)).map (Value.int .u32)).toArray) (by rfl) (by rfl) BKw.out (by kernel_rfl) (by rfl) (by kernel_rfl) ?_; have n0_ := Aside0.mk (setRow_below (cs := (((List.replicate 64 (0 : Int)).map (Value.int .u32)).toArray)) HB.out GWw.out); have n1_ := Aside0.mk (setRow_self (cs := (((List.replicate 64 (0 : Int)).map (Value.int .u32)).toArray)) BKw.out); have n2_ := Aside0.mk ((setRow_other (W := ww) (cs := (((List.replicate 64 (0 : Int)).map (Value.int .u32)).toArray)) (show gbw ≠ gbp from NE.out)).trans BKp.out); clear HB BKw BKp; have HB := n0_; have BKw := n1_; have BKp := n2_; clear n0_ n1_ n2_; generalize ww.setRow gbw (((List.replicate 64 (0 : Int)).map (Value.int .u32)).toArray) = w2 at HB BKw BKp ⊢))
  go_loopg [10] 64 (fun kq v10 w' => ∃ i : Nat, v10 = .int .i64 (i : Int) ∧ Aside0 (i + kq = 64) ∧ Aside0 (w'.heap[gbw]? = some (.cells (((impl_wordsOf.upto b i).map (Value.int .u32)).toArray) 39 (0, 0))) ∧ Aside0 (w'.heap[gbp]? = some (.cells (((List.replicate 64 (0 : Int)).map (Value.int .u32)).toArray) 39 (0, 0))) ∧ Aside0 (Below w.heap.size w w'))
  case atStart => exact ⟨0, rfl, ⟨rfl⟩, BKw, BKp, HB⟩
  case round =>
    clear BKw BKp HB
    obtain ⟨i, rfl, HI, BKw, BKp, HB⟩ := hrel
    cases gk with
    | zero =>
      have hi : i = 64 := HI.out
      subst hi
      have hsz : some 64 = some ((((impl_wordsOf.upto b 64).map (Value.int .u32)).toArray).size) := by rw [arr_size, impl_wordsOf.upto_len]
      go_wp2_with (first
        | ((with_reducible refine gate_dst (N := 86) rfl ?_); refine wpList_load_row rfl 39 (.tmp 3) rfl gbw (by rfl) _ _ (0, 0) _ BKw.out hu rfl ((show _ = some 64 from by kernel_rfl).trans hsz) ?_)
        | ((with_reducible refine gate_store (t := 39) (p := 2) rfl ?_); refine row_event rfl 39 (.tmp 2) (.tmp 86) rfl gbp _ (by rfl) (by rfl) BKp.out ((show _ = some 64 from by kernel_rfl).trans hsz) (by rw [arr_size, arr_size, impl_wordsOf.upto_len]; rfl) arr_one ?_))
      refine bodyPost_ret (results_cell_row rfl _ _ gbp 39 _ (0, 0) _ rfl (setRow_self BKp.out) hu rfl ((show _ = some 64 from by kernel_rfl).trans hsz)) rfl ?_
      exact ⟨rfl, setRow_below HB.out GWp.out⟩
    | succ k1 =>
      have hi := HI.out
      have hi64 : (i : Int) < 64 := by omega
      have c64 : decide ((i : Int) < 64) = true := decide_eq_true hi64
      have hz0 : decide (0 ≤ (i : Int)) = true := decide_eq_true (by omega)
      have x64 : ((i : Int) < 64) = True := eq_true hi64
      have inc : wrap64 ((i : Int) + 1) = ((i + 1 : Nat) : Int) := by rw [IntWalk.wrap64_in _ ⟨by omega, by omega⟩]; rfl
      have INC := Aside0.mk inc
      clear inc
      clear hi
      by_cases h16 : (i : Int) < 16
      · have c16 : decide ((i : Int) < 16) = true := decide_eq_true h16
        obtain ⟨m0, hm0⟩ : ∃ j_ : Int, wrap64 (4 * (i : Int)) = j_ := ⟨_, rfl⟩
        obtain ⟨m1, hm1⟩ : ∃ j_ : Int, wrap64 (m0 + 1) = j_ := ⟨_, rfl⟩
        obtain ⟨m2, hm2⟩ : ∃ j_ : Int, wrap64 (m0 + 2) = j_ := ⟨_, rfl⟩
        obtain ⟨m3, hm3⟩ : ∃ j_ : Int, wrap64 (m0 + 3) = j_ := ⟨_, rfl⟩
        have e0 : m0 = 4 * (i : Int) := by rw [← hm0]; exact IntWalk.wrap64_in _ ⟨by omega, by omega⟩
        have e1 : m1 = 4 * (i : Int) + 1 := by rw [← hm1, e0]; exact IntWalk.wrap64_in _ ⟨by omega, by omega⟩
        have e2 : m2 = 4 * (i : Int) + 2 := by rw [← hm2, e0]; exact IntWalk.wrap64_in _ ⟨by omega, by omega⟩
        have e3 : m3 = 4 * (i : Int) + 3 := by rw [← hm3, e0]; exact IntWalk.wrap64_in _ ⟨by omega, by omega⟩
        have p0 : (0 ≤ m0) = True := eq_true (by omega)
        have p1 : (0 ≤ m1) = True := eq_true (by omega)
        have p2 : (0 ≤ m2) = True := eq_true (by omega)
        have p3 : (0 ≤ m3) = True := eq_true (by omega)
        have q0 : (m0 < 64) = True := eq_true (by omega)
        have q1 : (m1 < 64) = True := eq_true (by omega)
        have q2 : (m2 < 64) = True := eq_true (by omega)
        have q3 : (m3 < 64) = True := eq_true (by omega)
        have b0 := bt_at b m0
        have b1 := bt_at b m1
        have b2 := bt_at b m2
        have b3 := bt_at b m3
        have EE := Aside0.mk (And.intro e0 (And.intro e1 (And.intro e2 e3)))
        have HH := Aside0.mk h16
        have H64 := Aside0.mk hi64
        clear h16 hi64 e0 e1 e2 e3
        go_upto_region 6 with (fail)
        try go_wp2
        have n0_ := Aside0.mk (blk_drew BKw.out)
        have n1_ := Aside0.mk (blk_drew BKp.out)
        have n2_ := Aside0.mk (below_drew1 HB.out)
        clear BKw BKp HB
        have BKw := n0_
        have BKp := n1_
        have HB := n2_
        clear n0_ n1_ n2_
        refine start_ (n := 32) (S := fun w' => True) (ds := []) #[false, false, false, false, false, false, false, false, false, false, false, false, false, false, false, false, false, false, false, false, false, false, false, false, false, false, false, false, false, false, false, false] (by kernel_rfl) rfl rfl ⟨⟩ (fun hHeld => ?_); refine with_tabW impl_wordsOf.tab6 impl_wordsOf.bits6 (fun HT_ HW_ => ?_)
        generalize wr.drew = wd_ at BKw BKp HB ⊢
        refine pure_ (i := 0) (N := some 15) (v := ?_) (a' := ?_) #[true, false, false, false, false, false, false, false, false, false, false, false, false, false, false, false, false, false, false, false, false, false, false, false, false, false, false, false, false, false, false, false] rfl rfl (any_of HT_.out (by kernel_rfl)) (fun _ _ _ h => h) (Or.inl ⟨by rfl, ?_⟩) ?_ ?_
        rotate_left
        · intro w'
          go_simp
          with_reducible rfl
        rotate_left
        · simp only [Act.put, List.setIfInBounds_toArray, List.set_cons_zero, List.set_cons_succ, i64_w, i32_w]
          rfl
        refine pure_ (i := 1) (N := some 16) (v := ?_) (a' := ?_) #[true, true, false, false, false, false, false, false, false, false, false, false, false, false, false, false, false, false, false, false, false, false, false, false, false, false, false, false, false, false, false, false] rfl rfl (any_of HT_.out (by kernel_rfl)) (fun _ _ _ h => h) (Or.inl ⟨by rfl, ?_⟩) ?_ ?_
        rotate_left
        · intro w'
          go_simp
          with_reducible rfl
        rotate_left
        · simp only [Act.put, List.setIfInBounds_toArray, List.set_cons_zero, List.set_cons_succ, i64_w, i32_w]
          rfl
        refine pure_ (i := 2) (N := some 17) (v := ?_) (a' := ?_) #[true, true, true, false, false, false, false, false, false, false, false, false, false, false, false, false, false, false, false, false, false, false, false, false, false, false, false, false, false, false, false, false] rfl rfl (any_of HT_.out (by kernel_rfl)) (fun _ _ _ h => h) (Or.inl ⟨by rfl, ?_⟩) ?_ ?_
        rotate_left
        · intro w'
          go_simp
          with_reducible rfl
        rotate_left
        · simp only [Act.put, List.setIfInBounds_toArray, List.set_cons_zero, List.set_cons_succ, i64_w, i32_w]
          rfl
        refine pure_ (i := 3) (N := some 18) (v := ?_) (a' := ?_) #[true, true, true, true, false, false, false, false, false, false, false, false, false, false, false, false, false, false, false, false, false, false, false, false, false, false, false, false, false, false, false, false] rfl rfl (any_of HT_.out (by kernel_rfl)) (fun _ _ _ h => h) (Or.inl ⟨by rfl, ?_⟩) ?_ ?_
        rotate_left
        · intro w'
          go_simp
          with_reducible rfl
        rotate_left
        · simp only [Act.put, List.setIfInBounds_toArray, List.set_cons_zero, List.set_cons_succ, i64_w, i32_w]
          rfl
        refine pure_ (i := 4) (N := some 19) (v := ?_) (a' := ?_) #[true, true, true, true, true, false, false, false, false, false, false, false, false, false, false, false, false, false, false, false, false, false, false, false, false, false, false, false, false, false, false, false] rfl rfl (any_of HT_.out (by kernel_rfl)) (fun _ _ _ h => h) (Or.inl ⟨by rfl, ?_⟩) ?_ ?_
        rotate_left
        · intro w'
          go_simp
          with_reducible rfl
        rotate_left
        · simp only [Act.put, List.setIfInBounds_toArray, List.set_cons_zero, List.set_cons_succ, i64_w, i32_w]
          rfl
        refine pure_ (i := 5) (N := some 20) (v := ?_) (a' := ?_) #[true, true, true, true, true, true, false, false, false, false, false, false, false, false, false, false, false, false, false, false, false, false, false, false, false, false, false, false, false, false, false, false] rfl rfl (any_of HT_.out (by kernel_rfl)) (fun _ _ _ h => h) (Or.inl ⟨by rfl, ?_⟩) ?_ ?_
        rotate_left
        · intro w'
          go_simp
          with_reducible rfl
        rotate_left
        · simp only [Act.put, List.setIfInBounds_toArray, List.set_cons_zero, List.set_cons_succ, i64_w, i32_w]
          rfl
        refine pure_ (i := 6) (N := some 21) (v := ?_) (a' := ?_) #[true, true, true, true, true, true, true, false, false, false, false, false, false, false, false, false, false, false, false, false, false, false, false, false, false, false, false, false, false, false, false, false] rfl rfl (any_of HT_.out (by kernel_rfl)) (fun _ _ _ h => h) (Or.inl ⟨by rfl, ?_⟩) ?_ ?_
        rotate_left
        · intro w'
          go_simp
          with_reducible rfl
        rotate_left
        · simp only [Act.put, List.setIfInBounds_toArray, List.set_cons_zero, List.set_cons_succ, i64_w, i32_w]
          rfl
        refine pure_ (i := 7) (N := some 22) (v := ?_) (a' := ?_) #[true, true, true, true, true, true, true, true, false, false, false, false, false, false, false, false, false, false, false, false, false, false, false, false, false, false, false, false, false, false, false, false] rfl rfl (any_of HT_.out (by kernel_rfl)) (fun _ _ _ h => h) (Or.inl ⟨by rfl, ?_⟩) ?_ ?_
        rotate_left
        · intro w'
          go_simp
          with_reducible rfl
        rotate_left
        · simp only [Act.put, List.setIfInBounds_toArray, List.set_cons_zero, List.set_cons_succ, i64_w, i32_w]
          rfl
        refine pure_ (i := 8) (N := some 23) (v := ?_) (a' := ?_) #[true, true, true, true, true, true, true, true, true, false, false, false, false, false, false, false, false, false, false, false, false, false, false, false, false, false, false, false, false, false, false, false] rfl rfl (any_of HT_.out (by kernel_rfl)) (fun _ _ _ h => h) (Or.inl ⟨by rfl, ?_⟩) ?_ ?_
        rotate_left
        · intro w'
          go_simp
          with_reducible rfl
        rotate_left
        · simp only [Act.put, List.setIfInBounds_toArray, List.set_cons_zero, List.set_cons_succ, i64_w, i32_w]
          rfl
        refine pure_ (i := 9) (N := some 24) (v := ?_) (a' := ?_) #[true, true, true, true, true, true, true, true, true, true, false, false, false, false, false, false, false, false, false, false, false, false, false, false, false, false, false, false, false, false, false, false] rfl rfl (any_of HT_.out (by kernel_rfl)) (fun _ _ _ h => h) (Or.inl ⟨by rfl, ?_⟩) ?_ ?_
        rotate_left
        · intro w'
          go_simp
          with_reducible rfl
        rotate_left
        · simp only [Act.put, List.setIfInBounds_toArray, List.set_cons_zero, List.set_cons_succ, i64_w, i32_w]
          rfl
        refine pure_ (i := 10) (N := some 25) (v := ?_) (a' := ?_) #[true, true, true, true, true, true, true, true, true, true, true, false, false, false, false, false, false, false, false, false, false, false, false, false, false, false, false, false, false, false, false, false] rfl rfl (any_of HT_.out (by kernel_rfl)) (fun _ _ _ h => h) (Or.inl ⟨by rfl, ?_⟩) ?_ ?_
        rotate_left
        · intro w'
          go_simp
          with_reducible rfl
        rotate_left
        · simp only [Act.put, List.setIfInBounds_toArray, List.set_cons_zero, List.set_cons_succ, i64_w, i32_w]
          rfl
        refine pure_ (i := 11) (N := some 26) (v := ?_) (a' := ?_) #[true, true, true, true, true, true, true, true, true, true, true, true, false, false, false, false, false, false, false, false, false, false, false, false, false, false, false, false, false, false, false, false] rfl rfl (any_of HT_.out (by kernel_rfl)) (fun _ _ _ h => h) (Or.inl ⟨by rfl, ?_⟩) ?_ ?_
        rotate_left
        · intro w'
          go_simp
          with_reducible rfl
        rotate_left
        · simp only [Act.put, List.setIfInBounds_toArray, List.set_cons_zero, List.set_cons_succ, i64_w, i32_w]
          rfl
        refine pure_ (i := 12) (N := some 27) (v := ?_) (a' := ?_) #[true, true, true, true, true, true, true, true, true, true, true, true, true, false, false, false, false, false, false, false, false, false, false, false, false, false, false, false, false, false, false, false] rfl rfl (any_of HT_.out (by kernel_rfl)) (fun _ _ _ h => h) (Or.inl ⟨by rfl, ?_⟩) ?_ ?_
        rotate_left
        · intro w'
          go_simp
          with_reducible rfl
        rotate_left
        · simp only [Act.put, List.setIfInBounds_toArray, List.set_cons_zero, List.set_cons_succ, i64_w, i32_w]
          rfl
        refine pure_ (i := 13) (N := some 28) (v := ?_) (a' := ?_) #[true, true, true, true, true, true, true, true, true, true, true, true, true, true, false, false, false, false, false, false, false, false, false, false, false, false, false, false, false, false, false, false] rfl rfl (any_of HT_.out (by kernel_rfl)) (fun _ _ _ h => h) (Or.inl ⟨by rfl, ?_⟩) ?_ ?_
        rotate_left
        · intro w'
          go_simp
          with_reducible rfl
        rotate_left
        · simp only [Act.put, List.setIfInBounds_toArray, List.set_cons_zero, List.set_cons_succ, i64_w, i32_w]
          rfl
        refine pure_ (i := 14) (N := some 29) (v := ?_) (a' := ?_) #[true, true, true, true, true, true, true, true, true, true, true, true, true, true, true, false, false, false, false, false, false, false, false, false, false, false, false, false, false, false, false, false] rfl rfl (any_of HT_.out (by kernel_rfl)) (fun _ _ _ h => h) (Or.inl ⟨by rfl, ?_⟩) ?_ ?_
        rotate_left
        · intro w'
          go_simp
          with_reducible rfl
        rotate_left
        · simp only [Act.put, List.setIfInBounds_toArray, List.set_cons_zero, List.set_cons_succ, i64_w, i32_w]
          rfl
        refine pure_ (i := 15) (N := some 30) (v := ?_) (a' := ?_) #[true, true, true, true, true, true, true, true, true, true, true, true, true, true, true, true, false, false, false, false, false, false, false, false, false, false, false, false, false, false, false, false] rfl rfl (any_of HT_.out (by kernel_rfl)) (fun _ _ _ h => h) (Or.inl ⟨by rfl, ?_⟩) ?_ ?_
        rotate_left
        · intro w'
          go_simp
          with_reducible rfl
        rotate_left
        · simp only [Act.put, List.setIfInBounds_toArray, List.set_cons_zero, List.set_cons_succ, i64_w, i32_w]
          rfl
        refine pure_ (i := 16) (N := some 31) (v := ?_) (a' := ?_) #[true, true, true, true, true, true, true, true, true, true, true, true, true, true, true, true, true, false, false, false, false, false, false, false, false, false, false, false, false, false, false, false] rfl rfl (any_of HT_.out (by kernel_rfl)) (fun _ _ _ h => h) (Or.inl ⟨by rfl, ?_⟩) ?_ ?_
        rotate_left
        · intro w'
          go_simp
          with_reducible rfl
        rotate_left
        · simp only [Act.put, List.setIfInBounds_toArray, List.set_cons_zero, List.set_cons_succ, i64_w, i32_w]
          rfl
        refine pure_ (i := 17) (N := some 32) (v := ?_) (a' := ?_) #[true, true, true, true, true, true, true, true, true, true, true, true, true, true, true, true, true, true, false, false, false, false, false, false, false, false, false, false, false, false, false, false] rfl rfl (any_of HT_.out (by kernel_rfl)) (fun _ _ _ h => h) (Or.inl ⟨by rfl, ?_⟩) ?_ ?_
        rotate_left
        · intro w'
          go_simp
          with_reducible rfl
        rotate_left
        · simp only [Act.put, List.setIfInBounds_toArray, List.set_cons_zero, List.set_cons_succ, i64_w, i32_w]
          rfl
        refine pure_ (i := 18) (N := some 33) (v := ?_) (a' := ?_) #[true, true, true, true, true, true, true, true, true, true, true, true, true, true, true, true, true, true, true, false, false, false, false, false, false, false, false, false, false, false, false, false] rfl rfl (any_of HT_.out (by kernel_rfl)) (fun _ _ _ h => h) (Or.inl ⟨by rfl, ?_⟩) ?_ ?_
        rotate_left
        · intro w'
          go_simp
          with_reducible rfl
        rotate_left
        · simp only [Act.put, List.setIfInBounds_toArray, List.set_cons_zero, List.set_cons_succ, i64_w, i32_w]
          rfl
        refine pure_ (i := 19) (N := some 34) (v := ?_) (a' := ?_) #[true, true, true, true, true, true, true, true, true, true, true, true, true, true, true, true, true, true, true, true, false, false, false, false, false, false, false, false, false, false, false, false] rfl rfl (any_of HT_.out (by kernel_rfl)) (fun _ _ _ h => h) (Or.inl ⟨by rfl, ?_⟩) ?_ ?_
        rotate_left
        · intro w'
          go_simp
          with_reducible rfl
        rotate_left
        · simp only [Act.put, List.setIfInBounds_toArray, List.set_cons_zero, List.set_cons_succ, i64_w, i32_w]
          rfl
        refine pure_ (i := 20) (N := some 35) (v := ?_) (a' := ?_) #[true, true, true, true, true, true, true, true, true, true, true, true, true, true, true, true, true, true, true, true, true, false, false, false, false, false, false, false, false, false, false, false] rfl rfl (any_of HT_.out (by kernel_rfl)) (fun _ _ _ h => h) (Or.inl ⟨by rfl, ?_⟩) ?_ ?_
        rotate_left
        · intro w'
          go_simp
          with_reducible rfl
        rotate_left
        · simp only [Act.put, List.setIfInBounds_toArray, List.set_cons_zero, List.set_cons_succ, i64_w, i32_w]
          rfl
        refine pure_ (i := 21) (N := some 36) (v := ?_) (a' := ?_) #[true, true, true, true, true, true, true, true, true, true, true, true, true, true, true, true, true, true, true, true, true, true, false, false, false, false, false, false, false, false, false, false] rfl rfl (any_of HT_.out (by kernel_rfl)) (fun _ _ _ h => h) (Or.inl ⟨by rfl, ?_⟩) ?_ ?_
        rotate_left
        · intro w'
          go_simp
          with_reducible rfl
        rotate_left
        · simp only [Act.put, List.setIfInBounds_toArray, List.set_cons_zero, List.set_cons_succ, i64_w, i32_w]
          rfl
        refine pure_ (i := 22) (N := some 37) (v := ?_) (a' := ?_) #[true, true, true, true, true, true, true, true, true, true, true, true, true, true, true, true, true, true, true, true, true, true, true, false, false, false, false, false, false, false, false, false] rfl rfl (any_of HT_.out (by kernel_rfl)) (fun _ _ _ h => h) (Or.inl ⟨by rfl, ?_⟩) ?_ ?_
        rotate_left
        · intro w'
          go_simp
          with_reducible rfl
        rotate_left
        · simp only [Act.put, List.setIfInBounds_toArray, List.set_cons_zero, List.set_cons_succ, i64_w, i32_w]
          rfl
        refine pure_ (i := 23) (N := some 38) (v := ?_) (a' := ?_) #[true, true, true, true, true, true, true, true, true, true, true, true, true, true, true, true, true, true, true, true, true, true, true, true, false, false, false, false, false, false, false, false] rfl rfl (any_of HT_.out (by kernel_rfl)) (fun _ _ _ h => h) (Or.inl ⟨by rfl, ?_⟩) ?_ ?_
        rotate_left
        · intro w'
          go_simp
          with_reducible rfl
        rotate_left
        · simp only [Act.put, List.setIfInBounds_toArray, List.set_cons_zero, List.set_cons_succ, i64_w, i32_w]
          rfl
        refine pure_ (i := 24) (N := some 39) (v := ?_) (a' := ?_) #[true, true, true, true, true, true, true, true, true, true, true, true, true, true, true, true, true, true, true, true, true, true, true, true, true, false, false, false, false, false, false, false] rfl rfl (any_of HT_.out (by kernel_rfl)) (fun _ _ _ h => h) (Or.inl ⟨by rfl, ?_⟩) ?_ ?_
        rotate_left
        · intro w'
          go_simp
          with_reducible rfl
        rotate_left
        · simp only [Act.put, List.setIfInBounds_toArray, List.set_cons_zero, List.set_cons_succ, i64_w, i32_w]
          rfl
        refine pure_ (i := 25) (N := some 40) (v := ?_) (a' := ?_) #[true, true, true, true, true, true, true, true, true, true, true, true, true, true, true, true, true, true, true, true, true, true, true, true, true, true, false, false, false, false, false, false] rfl rfl (any_of HT_.out (by kernel_rfl)) (fun _ _ _ h => h) (Or.inl ⟨by rfl, ?_⟩) ?_ ?_
        rotate_left
        · intro w'
          go_simp
          with_reducible rfl
        rotate_left
        · simp only [Act.put, List.setIfInBounds_toArray, List.set_cons_zero, List.set_cons_succ, i64_w, i32_w]
          rfl
        refine pure_ (i := 26) (N := some 41) (v := ?_) (a' := ?_) #[true, true, true, true, true, true, true, true, true, true, true, true, true, true, true, true, true, true, true, true, true, true, true, true, true, true, true, false, false, false, false, false] rfl rfl (any_of HT_.out (by kernel_rfl)) (fun _ _ _ h => h) (Or.inl ⟨by rfl, ?_⟩) ?_ ?_
        rotate_left
        · intro w'
          go_simp
          with_reducible rfl
        rotate_left
        · simp only [Act.put, List.setIfInBounds_toArray, List.set_cons_zero, List.set_cons_succ, i64_w, i32_w]
          rfl
        refine pure_ (i := 27) (N := some 42) (v := ?_) (a' := ?_) #[true, true, true, true, true, true, true, true, true, true, true, true, true, true, true, true, true, true, true, true, true, true, true, true, true, true, true, true, false, false, false, false] rfl rfl (any_of HT_.out (by kernel_rfl)) (fun _ _ _ h => h) (Or.inl ⟨by rfl, ?_⟩) ?_ ?_
        rotate_left
        · intro w'
          go_simp
          with_reducible rfl
        rotate_left
        · simp only [Act.put, List.setIfInBounds_toArray, List.set_cons_zero, List.set_cons_succ, i64_w, i32_w]
          rfl
        refine pure_ (i := 28) (N := some 43) (v := ?_) (a' := ?_) #[true, true, true, true, true, true, true, true, true, true, true, true, true, true, true, true, true, true, true, true, true, true, true, true, true, true, true, true, true, false, false, false] rfl rfl (any_of HT_.out (by kernel_rfl)) (fun _ _ _ h => h) (Or.inl ⟨by rfl, ?_⟩) ?_ ?_
        rotate_left
        · intro w'
          go_simp
          with_reducible rfl
        rotate_left
        · simp only [Act.put, List.setIfInBounds_toArray, List.set_cons_zero, List.set_cons_succ, i64_w, i32_w]
          rfl
        refine pure_ (i := 29) (N := some 44) (v := ?_) (a' := ?_) #[true, true, true, true, true, true, true, true, true, true, true, true, true, true, true, true, true, true, true, true, true, true, true, true, true, true, true, true, true, true, false, false] rfl rfl (any_of HT_.out (by kernel_rfl)) (fun _ _ _ h => h) (Or.inl ⟨by rfl, ?_⟩) ?_ ?_
        rotate_left
        · intro w'
          go_simp
          with_reducible rfl
        rotate_left
        · simp only [Act.put, List.setIfInBounds_toArray, List.set_cons_zero, List.set_cons_succ, i64_w, i32_w]
          rfl
        refine pure_ (i := 30) (N := some 45) (v := ?_) (a' := ?_) #[true, true, true, true, true, true, true, true, true, true, true, true, true, true, true, true, true, true, true, true, true, true, true, true, true, true, true, true, true, true, true, false] rfl rfl (any_of HT_.out (by kernel_rfl)) (fun _ _ _ h => h) (Or.inl ⟨by rfl, ?_⟩) ?_ ?_
        rotate_left
        · intro w'
          go_simp
          with_reducible rfl
        rotate_left
        · simp only [Act.put, List.setIfInBounds_toArray, List.set_cons_zero, List.set_cons_succ, i64_w, i32_w]
          rfl
        refine one_ (i := 31) (N := none) #[true, true, true, true, true, true, true, true, true, true, true, true, true, true, true, true, true, true, true, true, true, true, true, true, true, true, true, true, true, true, true, true] rfl rfl (one_of HT_.out (by kernel_rfl)) (by decide) (fun K hK => ?_)
        have hs := (blk_cell BKw.out i).trans (arr_get (by rw [impl_wordsOf.upto_len]; have := HI.out; omega))
        have hf := blk_frozen BKw.out i
        refine skip_ (w1 := ?_) (by rfl) rfl ?_ ?_
        rotate_left
        · go_simp
          rfl
        refine hK.out _ _ ⟨⟩ (fun hHeld => ?_)
        clear hK K
        refine done_ (done_of HT_.out (by kernel_rfl)) ?_
        go_wp2
        go_roundg k1
        case measure => omega
        case rel =>
          refine ⟨i + 1, by rw [INC.out], ⟨by have := HI.out; omega⟩, ⟨blk_put BKw.out i _ ?_⟩, ⟨(Below.heap_setCell _ ⟨gbw, i, none⟩ _ gbp (fun e => NE.out e.symm)).trans BKp.out⟩, ⟨below_set HB.out GWw.out⟩⟩
          rw [arr_set]
          obtain ⟨e0, e1, e2, e3⟩ := EE.out
          show _ = (((impl_wordsOf.upto b i).set i (impl_wordsOf.at b (impl_wordsOf.upto b i) i)).map (Value.int .u32)).toArray
          unfold impl_wordsOf.at impl_wordsOf.wd
          rw [if_pos (by have := HH.out; omega), e0, e1, e2, e3]
      · have c16 : decide ((i : Int) < 16) = false := decide_eq_false h16
        have L64 := impl_wordsOf.upto_len b i
        obtain ⟨n16, hn16, N16⟩ : ∃ n : Nat, wrap64 ((i : Int) - 16) = (n : Int) ∧ Aside0 (n + 16 = i) := ⟨i - 16, by rw [IntWalk.wrap64_in _ ⟨by omega, by omega⟩]; omega, ⟨by omega⟩⟩
        obtain ⟨n15, hn15, N15⟩ : ∃ n : Nat, wrap64 ((i : Int) - 15) = (n : Int) ∧ Aside0 (n + 15 = i) := ⟨i - 15, by rw [IntWalk.wrap64_in _ ⟨by omega, by omega⟩]; omega, ⟨by omega⟩⟩
        obtain ⟨n7, hn7, N7⟩ : ∃ n : Nat, wrap64 ((i : Int) - 7) = (n : Int) ∧ Aside0 (n + 7 = i) := ⟨i - 7, by rw [IntWalk.wrap64_in _ ⟨by omega, by omega⟩]; omega, ⟨by omega⟩⟩
        obtain ⟨n2, hn2, N2⟩ : ∃ n : Nat, wrap64 ((i : Int) - 2) = (n : Int) ∧ Aside0 (n + 2 = i) := ⟨i - 2, by rw [IntWalk.wrap64_in _ ⟨by omega, by omega⟩]; omega, ⟨by omega⟩⟩
        have x16 : ((n16 : Int) < 64) = True := eq_true (by have := N16.out; omega)
        have x15 : ((n15 : Int) < 64) = True := eq_true (by have := N15.out; omega)
        have x7 : ((n7 : Int) < 64) = True := eq_true (by have := N7.out; omega)
        have x2 : ((n2 : Int) < 64) = True := eq_true (by have := N2.out; omega)
        have z16 : (0 ≤ (n16 : Int)) = True := eq_true (by omega)
        have z15 : (0 ≤ (n15 : Int)) = True := eq_true (by omega)
        have z7 : (0 ≤ (n7 : Int)) = True := eq_true (by omega)
        have z2 : (0 ≤ (n2 : Int)) = True := eq_true (by omega)
        have v15 := (blk_cell BKw.out n15).trans (arr_get (by rw [L64]; have := N15.out; omega))
        have v2 := (blk_cell BKw.out n2).trans (arr_get (by rw [L64]; have := N2.out; omega))
        have H64 := Aside0.mk hi64
        have LL := Aside0.mk L64
        have HH := Aside0.mk h16
        clear h16 hi64 L64
        go_upto_region 7 with (fail)
        go_quiet (fail)
        go_wp2_with (first
          | ((with_reducible refine gate_dst (N := 55) rfl ?_); refine goesL_ (some 55) rfl rfl Tryd.func39 (by kernel_rfl) rfl #[.int .u32 (rd (impl_wordsOf.upto b i) (n15 : Int)), .int .i64 7] rfl (by (try simp only [List.map_toArray, List.map_cons, List.map_nil]); first | done | rfl) ?_; (with_reducible refine (impl_turned.calls (rd (impl_wordsOf.upto b i) (n15 : Int)) 7 _ _ (turn_at (rd (impl_wordsOf.upto b i) (n15 : Int)) 7 (by decide))).mono ?_); rintro e w_ ⟨rfl, ⟨nd55, rfl⟩⟩; refine ⟨_, rfl, ?_⟩)
          | ((with_reducible refine gate_dst (N := 57) rfl ?_); refine goesL_ (some 57) rfl rfl Tryd.func39 (by kernel_rfl) rfl #[.int .u32 (rd (impl_wordsOf.upto b i) (n15 : Int)), .int .i64 18] rfl (by (try simp only [List.map_toArray, List.map_cons, List.map_nil]); first | done | rfl) ?_; (with_reducible refine (impl_turned.calls (rd (impl_wordsOf.upto b i) (n15 : Int)) 18 _ _ (turn_at (rd (impl_wordsOf.upto b i) (n15 : Int)) 18 (by decide))).mono ?_); rintro e w_ ⟨rfl, ⟨nd57, rfl⟩⟩; refine ⟨_, rfl, ?_⟩)
          | ((with_reducible refine gate_dst (N := 63) rfl ?_); refine goesL_ (some 63) rfl rfl Tryd.func39 (by kernel_rfl) rfl #[.int .u32 (rd (impl_wordsOf.upto b i) (n2 : Int)), .int .i64 17] rfl (by (try simp only [List.map_toArray, List.map_cons, List.map_nil]); first | done | rfl) ?_; (with_reducible refine (impl_turned.calls (rd (impl_wordsOf.upto b i) (n2 : Int)) 17 _ _ (turn_at (rd (impl_wordsOf.upto b i) (n2 : Int)) 17 (by decide))).mono ?_); rintro e w_ ⟨rfl, ⟨nd63, rfl⟩⟩; refine ⟨_, rfl, ?_⟩)
          | ((with_reducible refine gate_dst (N := 65) rfl ?_); refine goesL_ (some 65) rfl rfl Tryd.func39 (by kernel_rfl) rfl #[.int .u32 (rd (impl_wordsOf.upto b i) (n2 : Int)), .int .i64 19] rfl (by (try simp only [List.map_toArray, List.map_cons, List.map_nil]); first | done | rfl) ?_; (with_reducible refine (impl_turned.calls (rd (impl_wordsOf.upto b i) (n2 : Int)) 19 _ _ (turn_at (rd (impl_wordsOf.upto b i) (n2 : Int)) 19 (by decide))).mono ?_); rintro e w_ ⟨rfl, ⟨nd65, rfl⟩⟩; refine ⟨_, rfl, ?_⟩))
        have n0_ := Aside0.mk (blk_drewN BKw.out (nq + nd55 + nd57 + nd63 + nd65))
        have n1_ := Aside0.mk (blk_drewN BKp.out (nq + nd55 + nd57 + nd63 + nd65))
        have n2_ : Aside0 (Below w.heap.size w (wr.drewN (nq + nd55 + nd57 + nd63 + nd65))) := ⟨by apply pw_below_drewN; exact HB.out⟩
        clear BKw BKp HB v15 v2
        generalize wr.drewN (nq + nd55 + nd57 + nd63 + nd65) = wn at n0_ n1_ n2_ ⊢
        have BKw := n0_
        have BKp := n1_
        have HB := n2_
        clear n0_ n1_ n2_
        try go_wp2
        have n0_ := Aside0.mk (blk_drew BKw.out)
        have n1_ := Aside0.mk (blk_drew BKp.out)
        have n2_ := Aside0.mk (below_drew1 HB.out)
        clear BKw BKp HB
        have BKw := n0_
        have BKp := n1_
        have HB := n2_
        clear n0_ n1_ n2_
        refine start_ (n := 16) (S := fun w' => w'.cell? ⟨gbw, n16, none⟩ = some (.int .u32 (rd (impl_wordsOf.upto b i) (n16 : Int))) ∧ w'.cell? ⟨gbw, n7, none⟩ = some (.int .u32 (rd (impl_wordsOf.upto b i) (n7 : Int)))) (ds := []) #[false, false, false, false, false, false, false, false, false, false, false, false, false, false, false, false] (by kernel_rfl) rfl rfl ⟨(blk_cell BKw.out n16).trans (arr_get (by rw [impl_wordsOf.upto_len]; have := N16.out; have := H64.out; omega)), (blk_cell BKw.out n7).trans (arr_get (by rw [impl_wordsOf.upto_len]; have := N7.out; have := H64.out; omega))⟩ (fun hHeld => ?_); refine with_tabW impl_wordsOf.tab10 impl_wordsOf.bits10 (fun HT_ HW_ => ?_)
        generalize wn.drew = wd_ at BKw BKp HB hHeld ⊢
        refine pure_ (i := 0) (N := some 70) (v := ?_) (a' := ?_) #[true, false, false, false, false, false, false, false, false, false, false, false, false, false, false, false] rfl rfl (any_of HT_.out (by kernel_rfl)) (fun _ _ _ h => h) (Or.inl ⟨by rfl, ?_⟩) ?_ ?_
        rotate_left
        · intro w'
          go_simp
          with_reducible rfl
        rotate_left
        · simp only [Act.put, List.setIfInBounds_toArray, List.set_cons_zero, List.set_cons_succ, i64_w, i32_w]
          rfl
        refine pure_ (i := 1) (N := some 71) (v := ?_) (a' := ?_) #[true, true, false, false, false, false, false, false, false, false, false, false, false, false, false, false] rfl rfl (any_of HT_.out (by kernel_rfl)) (fun _ _ _ h => h) (Or.inl ⟨by rfl, ?_⟩) ?_ ?_
        rotate_left
        · intro w'
          go_simp
          with_reducible rfl
        rotate_left
        · simp only [Act.put, List.setIfInBounds_toArray, List.set_cons_zero, List.set_cons_succ, i64_w, i32_w]
          rfl
        refine pure_ (i := 2) (N := some 72) (v := ?_) (a' := ?_) #[true, true, true, false, false, false, false, false, false, false, false, false, false, false, false, false] rfl rfl (any_of HT_.out (by kernel_rfl)) (fun _ _ _ h => h) (Or.inl ⟨by rfl, ?_⟩) ?_ ?_
        rotate_left
        · intro w'
          go_simp
          with_reducible rfl
        rotate_left
        · simp only [Act.put, List.setIfInBounds_toArray, List.set_cons_zero, List.set_cons_succ, i64_w, i32_w]
          rfl
        refine pure_ (i := 3) (N := some 73) (v := ?_) (a' := ?_) #[true, true, true, true, false, false, false, false, false, false, false, false, false, false, false, false] rfl rfl (any_of HT_.out (by kernel_rfl)) (fun _ _ _ h => h) (Or.inl ⟨by rfl, ?_⟩) ?_ ?_
        rotate_left
        · intro w'
          go_simp
          with_reducible rfl
        rotate_left
        · simp only [Act.put, List.setIfInBounds_toArray, List.set_cons_zero, List.set_cons_succ, i64_w, i32_w]
          rfl
        refine take_ (i := 4) (N := some 74) (v := ?_) (a' := ?_) #[true, true, true, true, true, false, false, false, false, false, false, false, false, false, false, false] rfl rfl (take_ofW HT_.out HW_.out (by kernel_rfl)) (fun _ _ _ h => h) (Or.inl ⟨by rfl, ?_⟩) hHeld ?_ ?_
        rotate_left
        · rintro w' ⟨s0, s1⟩
          go_simp
          with_reducible rfl
        rotate_left
        · simp only [Act.put, List.setIfInBounds_toArray, List.set_cons_zero, List.set_cons_succ, i64_w, i32_w]
          rfl
        refine pure_ (i := 5) (N := some 75) (v := ?_) (a' := ?_) #[true, true, true, true, true, true, false, false, false, false, false, false, false, false, false, false] rfl rfl (any_of HT_.out (by kernel_rfl)) (fun _ _ _ h => h) (Or.inl ⟨by rfl, ?_⟩) ?_ ?_
        rotate_left
        · intro w'
          go_simp
          with_reducible rfl
        rotate_left
        · simp only [Act.put, List.setIfInBounds_toArray, List.set_cons_zero, List.set_cons_succ, i64_w, i32_w]
          rfl
        refine pure_ (i := 6) (N := some 76) (v := ?_) (a' := ?_) #[true, true, true, true, true, true, true, false, false, false, false, false, false, false, false, false] rfl rfl (any_of HT_.out (by kernel_rfl)) (fun _ _ _ h => h) (Or.inl ⟨by rfl, ?_⟩) ?_ ?_
        rotate_left
        · intro w'
          go_simp
          with_reducible rfl
        rotate_left
        · simp only [Act.put, List.setIfInBounds_toArray, List.set_cons_zero, List.set_cons_succ, i64_w, i32_w]
          rfl
        refine pure_ (i := 7) (N := some 77) (v := ?_) (a' := ?_) #[true, true, true, true, true, true, true, true, false, false, false, false, false, false, false, false] rfl rfl (any_of HT_.out (by kernel_rfl)) (fun _ _ _ h => h) (Or.inl ⟨by rfl, ?_⟩) ?_ ?_
        rotate_left
        · intro w'
          go_simp
          with_reducible rfl
        rotate_left
        · simp only [Act.put, List.setIfInBounds_toArray, List.set_cons_zero, List.set_cons_succ, i64_w, i32_w]
          rfl
        refine pure_ (i := 8) (N := some 78) (v := ?_) (a' := ?_) #[true, true, true, true, true, true, true, true, true, false, false, false, false, false, false, false] rfl rfl (any_of HT_.out (by kernel_rfl)) (fun _ _ _ h => h) (Or.inl ⟨by rfl, ?_⟩) ?_ ?_
        rotate_left
        · intro w'
          go_simp
          with_reducible rfl
        rotate_left
        · simp only [Act.put, List.setIfInBounds_toArray, List.set_cons_zero, List.set_cons_succ, i64_w, i32_w]
          rfl
        refine pure_ (i := 9) (N := some 79) (v := ?_) (a' := ?_) #[true, true, true, true, true, true, true, true, true, true, false, false, false, false, false, false] rfl rfl (any_of HT_.out (by kernel_rfl)) (fun _ _ _ h => h) (Or.inl ⟨by rfl, ?_⟩) ?_ ?_
        rotate_left
        · intro w'
          go_simp
          with_reducible rfl
        rotate_left
        · simp only [Act.put, List.setIfInBounds_toArray, List.set_cons_zero, List.set_cons_succ, i64_w, i32_w]
          rfl
        refine take_ (i := 10) (N := some 80) (v := ?_) (a' := ?_) #[true, true, true, true, true, true, true, true, true, true, true, false, false, false, false, false] rfl rfl (take_ofW HT_.out HW_.out (by kernel_rfl)) (fun _ _ _ h => h) (Or.inl ⟨by rfl, ?_⟩) hHeld ?_ ?_
        rotate_left
        · rintro w' ⟨s0, s1⟩
          go_simp
          with_reducible rfl
        rotate_left
        · simp only [Act.put, List.setIfInBounds_toArray, List.set_cons_zero, List.set_cons_succ, i64_w, i32_w]
          rfl
        refine pure_ (i := 11) (N := some 81) (v := ?_) (a' := ?_) #[true, true, true, true, true, true, true, true, true, true, true, true, false, false, false, false] rfl rfl (any_of HT_.out (by kernel_rfl)) (fun _ _ _ h => h) (Or.inl ⟨by rfl, ?_⟩) ?_ ?_
        rotate_left
        · intro w'
          go_simp
          with_reducible rfl
        rotate_left
        · simp only [Act.put, List.setIfInBounds_toArray, List.set_cons_zero, List.set_cons_succ, i64_w, i32_w]
          rfl
        refine pure_ (i := 12) (N := some 82) (v := ?_) (a' := ?_) #[true, true, true, true, true, true, true, true, true, true, true, true, true, false, false, false] rfl rfl (any_of HT_.out (by kernel_rfl)) (fun _ _ _ h => h) (Or.inl ⟨by rfl, ?_⟩) ?_ ?_
        rotate_left
        · intro w'
          go_simp
          with_reducible rfl
        rotate_left
        · simp only [Act.put, List.setIfInBounds_toArray, List.set_cons_zero, List.set_cons_succ, i64_w, i32_w]
          rfl
        refine pure_ (i := 13) (N := some 83) (v := ?_) (a' := ?_) #[true, true, true, true, true, true, true, true, true, true, true, true, true, true, false, false] rfl rfl (any_of HT_.out (by kernel_rfl)) (fun _ _ _ h => h) (Or.inl ⟨by rfl, ?_⟩) ?_ ?_
        rotate_left
        · intro w'
          go_simp
          with_reducible rfl
        rotate_left
        · simp only [Act.put, List.setIfInBounds_toArray, List.set_cons_zero, List.set_cons_succ, i64_w, i32_w]
          rfl
        refine pure_ (i := 14) (N := some 84) (v := ?_) (a' := ?_) #[true, true, true, true, true, true, true, true, true, true, true, true, true, true, true, false] rfl rfl (any_of HT_.out (by kernel_rfl)) (fun _ _ _ h => h) (Or.inl ⟨by rfl, ?_⟩) ?_ ?_
        rotate_left
        · intro w'
          go_simp
          with_reducible rfl
        rotate_left
        · simp only [Act.put, List.setIfInBounds_toArray, List.set_cons_zero, List.set_cons_succ, i64_w, i32_w]
          rfl
        refine one_ (i := 15) (N := none) #[true, true, true, true, true, true, true, true, true, true, true, true, true, true, true, true] rfl rfl (one_of HT_.out (by kernel_rfl)) (by decide) (fun K hK => ?_)
        have hs := (blk_cell BKw.out i).trans (arr_get (by rw [impl_wordsOf.upto_len]; have := H64.out; omega))
        have hf := blk_frozen BKw.out i
        refine skip_ (w1 := ?_) (by rfl) rfl ?_ ?_
        rotate_left
        · go_simp
          rfl
        refine hK.out _ _ ⟨arr_keep BKw.out (by have := N16.out; omega) (by rw [impl_wordsOf.upto_len]; have := N16.out; have := H64.out; omega), arr_keep BKw.out (by have := N7.out; omega) (by rw [impl_wordsOf.upto_len]; have := N7.out; have := H64.out; omega)⟩ (fun hHeld => ?_)
        clear hK K
        refine done_ (done_of HT_.out (by kernel_rfl)) ?_
        go_wp2
        go_roundg k1
        case measure => omega
        case rel =>
          refine ⟨i + 1, by rw [INC.out], ⟨by have := HI.out; omega⟩, ⟨blk_put BKw.out i _ ?_⟩, ⟨(Below.heap_setCell _ ⟨gbw, i, none⟩ _ gbp (fun e => NE.out e.symm)).trans BKp.out⟩, ⟨below_set HB.out GWw.out⟩⟩
          rw [arr_set]
          show _ = (((impl_wordsOf.upto b i).set i (impl_wordsOf.at b (impl_wordsOf.upto b i) i)).map (Value.int .u32)).toArray
          unfold impl_wordsOf.at impl_wordsOf.sg
          rw [if_neg (by have := HH.out; omega), show (i : Int) - 16 = (n16 : Int) by have := N16.out; omega, show (i : Int) - 15 = (n15 : Int) by have := N15.out; omega, show (i : Int) - 7 = (n7 : Int) by have := N7.out; omega, show (i : Int) - 2 = (n2 : Int) by have := N2.out; omega]

end Go.Proofs.YtggemblkhckbpaaDoor.Q

namespace Go.Proofs.YtggemblkhckbpaaDoor.Q
open Go.RowKit Go.Proofs.YtggemblkhckbpaaDoorW.PrintWords Go.Proofs.YtggemblkhckbpaaDoorW.PrintLast Go.Proofs.YtggemblkhckbpaaDoorW.PrintMore
attribute [local go_sem] max2_int min2_int max_two min_two max_three min_three max_four min_four   -- for this text's walks alone
set_option linter.unusedVariables false
set_option linter.unusedSimpArgs false

/-! ### impl_blockHash: function 24 -/
def impl_blockHash.p5 (K W v : List Int) (i : Nat) : Int := rd v 7 + Go.bits .xor .u32 (Go.bits .xor .u32 (turnV (rd v 4) 6) (turnV (rd v 4) 11)) (turnV (rd v 4) 25) + Go.bits .or .u32 (Go.bits .and .u32 (rd v 4) (rd v 5)) (Go.bits .and .u32 (Go.bits .xor .u32 IntKind.u32.max (rd v 4)) (rd v 6)) + rd K (i : Int) + rd W (i : Int)
def impl_blockHash.q5 (v : List Int) : Int := Go.bits .xor .u32 (Go.bits .xor .u32 (turnV (rd v 0) 2) (turnV (rd v 0) 13)) (turnV (rd v 0) 22) + Go.bits .or .u32 (Go.bits .or .u32 (Go.bits .and .u32 (rd v 0) (rd v 1)) (Go.bits .and .u32 (rd v 0) (rd v 2))) (Go.bits .and .u32 (rd v 1) (rd v 2))
def impl_blockHash.step (K W v : List Int) (i : Nat) : List Int := [(impl_blockHash.p5 K W v i + impl_blockHash.q5 v) % 4294967296, rd v 0, rd v 1, rd v 2, (rd v 3 + impl_blockHash.p5 K W v i) % 4294967296, rd v 4, rd v 5, rd v 6]
def impl_blockHash.rounds (K W v0 : List Int) : Nat → List Int
  | 0 => v0
  | i + 1 => impl_blockHash.step K W (impl_blockHash.rounds K W v0 i) i
theorem impl_blockHash.rounds_len (K W v0 : List Int) (h : v0.length = 8) : ∀ i, (impl_blockHash.rounds K W v0 i).length = 8
  | 0 => h
  | i + 1 => rfl
def impl_blockHash.adds (v0 words : List Int) : Nat → List Int
  | 0 => v0
  | i + 1 => (impl_blockHash.adds v0 words i).set i ((rd (impl_blockHash.adds v0 words i) (i : Int) + rd words (i : Int)) % 4294967296)
theorem impl_blockHash.adds_len (v0 words : List Int) : ∀ i, (impl_blockHash.adds v0 words i).length = v0.length
  | 0 => rfl
  | i + 1 => by unfold impl_blockHash.adds; rw [List.length_set]; exact impl_blockHash.adds_len v0 words i
def impl_blockHash.out (words kk : List Int) (block : ByteArray) : List Int := impl_blockHash.adds (impl_blockHash.rounds kk (impl_wordsOf.upto block 64) words 64) words 8
theorem row_event2 {Pg : Program} {ops : Array Oper} {Q : Exit → Act → World → Prop} {rest : List Oper} {op : Oper} {a : Act} {W : World} (hgd : op.guard = none) (ty : TypeId) (x y : Operand) (ho : op.op = .store ty x y)
    (g : Nat) (cells : Array Value) (hx : a.eval x = .pointer (some ⟨g, 0, none⟩)) (hy : a.eval y = .agg cells) {t : TypeId} {old : Array Value} (hg : W.heap[g]? = some (.cells old t (0, 0)))
    (hi : (Pg.info? ty).map (·.size) = some cells.size) (hold : old.size = cells.size) (h1 : cells.all (·.oneCell') = true)
    (h : ∀ w1, w1 = W.setRow g cells → wpList Pg ops Q rest (a.put op.dst undef) w1) : wpList Pg ops Q (op :: rest) a W := row_event hgd ty x y ho g cells hx hy hg hi hold h1 (h _ rfl)
theorem impl_blockHash.exec_load {Pg : Program} {a : Act} {op : Oper} {ty : TypeId} {x : Operand} (ho : op.op = .load ty x) {g : Nat} (hx : a.eval x = .pointer (some ⟨g, 0, none⟩)) {W : World} {t : TypeId} {cs : Array Value} {fr : Nat × Nat} {d : TypeDesc} (hg : W.heap[g]? = some (.cells cs t fr))
    (hu : Pg.underlying ty = some d) (hd : (match d with | .struct _ | .array _ _ => true | _ => false) = true) (hi : (Pg.info? ty).map (·.size) = some cs.size) : (execOp a.eval op).run Pg W = .ok (.value (.agg cs)) W := by
  unfold execOp
  simp only [ho, hx, Instr.loadAt, Instr.sureAddr, Sem.run_bind, Sem.run_pure, Result.andThen_ok, run_loadVar_row W g t ty cs fr d hg hu hd hi]
theorem impl_blockHash.exec_store {Pg : Program} {a : Act} {op : Oper} {ty : TypeId} {x y : Operand} (ho : op.op = .store ty x y) {g : Nat} (hx : a.eval x = .pointer (some ⟨g, 0, none⟩)) {cells : Array Value} (hy : a.eval y = .agg cells) {W : World} {t : TypeId} {old : Array Value} (hg : W.heap[g]? = some (.cells old t (0, 0)))
    (hi : (Pg.info? ty).map (·.size) = some cells.size) (hold : old.size = cells.size) (h1 : cells.all (·.oneCell') = true) : (execOp a.eval op).run Pg W = .ok .skip (W.setRow g cells) := by
  unfold execOp
  simp only [ho, hx, hy, Instr.storeAt, Instr.sureAddr, Sem.run_bind, Sem.run_pure, Result.andThen_ok, run_storeVar_row W g t ty old cells hg hi hold h1]
def impl_blockHash.T1 : Bool × List (List Nat × List Nat) := (true, [([], []), ([], []), ([1], [1]), ([], []), ([], []), ([3, 0, 2, 0, 3, 4], [0, 3]), ([4, 2, 5, 0, 1, 2, 3, 4, 5], [2, 4])])
def impl_blockHash.B1 : List Nat := [0, 0, 2, 0, 0, 31, 63]
theorem impl_blockHash.tab1 : rtab .any (opsOf Tryd.f24 1) = impl_blockHash.T1 := by kernel_rfl
theorem impl_blockHash.bits1 : waitsOk impl_blockHash.T1.2 impl_blockHash.B1 = true := by kernel_rfl
def impl_blockHash.T13 : Bool × List (List Nat × List Nat) := (true, [([], []), ([0], [0]), ([1], [1]), ([], []), ([3], [3]), ([4], [4]), ([2, 5], [2, 5]), ([0, 0, 1, 2, 3, 4, 5, 6], [0]), ([7, 6, 0, 1, 2, 3, 4, 5, 6], [6, 7])])
def impl_blockHash.B13 : List Nat := [0, 1, 3, 0, 8, 24, 63, 127, 255]
theorem impl_blockHash.tab13 : rtab .any (opsOf Tryd.f24 13) = impl_blockHash.T13 := by kernel_rfl
theorem impl_blockHash.bits13 : waitsOk impl_blockHash.T13.2 impl_blockHash.B13 = true := by kernel_rfl
set_option maxHeartbeats 8000000 in
set_option maxRecDepth 100000 in
theorem impl_blockHash.calls (words kk : List Int) (block : ByteArray) (w : World) (hw8 : words.length = 8) (hk64 : kk.length = 64) (hbs : block.size = 64) :
    Calls Tryd.prog 24 #[.agg ((words.map (Value.int .u32)).toArray), .agg ((kk.map (Value.int .u32)).toArray), .string block] w fun e w' => e = .returned (.agg ((impl_blockHash.out words kk block).map (Value.int .u32)).toArray) ∧ Below w.heap.size w w' := by
  have hu8 := Tryd.underlying37
  have hu64 := Tryd.underlying39
  have SW := Aside0.mk (show ((words.map (Value.int .u32)).toArray).size = 8 by rw [arr_size, hw8])
  have SK := Aside0.mk (show ((kk.map (Value.int .u32)).toArray).size = 64 by rw [arr_size, hk64])
  obtain ⟨W64, hW64⟩ : ∃ l : List Int, l = impl_wordsOf.upto block 64 := ⟨_, rfl⟩
  have L64 : W64.length = 64 := by rw [hW64]; exact impl_wordsOf.upto_len block 64
  have S64 := Aside0.mk (show ((W64.map (Value.int .u32)).toArray).size = 64 by rw [arr_size, L64])
  have HC : Aside0 (∀ w : World, Calls Tryd.prog 38 #[.string block] w fun e w' => e = .returned (.agg (W64.map (Value.int .u32)).toArray) ∧ Below w.heap.size w w') := ⟨fun w => by rw [hW64]; exact impl_wordsOf.calls block w hbs⟩
  have HW64 := Aside0.mk hW64
  have HL64 := Aside0.mk L64
  clear hW64 L64 hbs
  have HB := Aside0.mk (Below.refl w.heap.size w)
  have HW8 := Aside0.mk hw8
  have HK64 := Aside0.mk hk64
  clear hw8 hk64
  go_enter Tryd.func24, Tryd.ntmps24
  go_upto_region 1 with (first
    | ((with_reducible refine gate_dst (N := 3) rfl ?_); refine box_event ?hg (N := 3) ?hd (cs := ((words.map (Value.int .u32)).toArray)) (t := 37) ?hr ?_; (case hd => rfl); (case hg => rfl); (case hr => first | (go_simp; done) | (go_simp; rfl)); intro g3 hg w_ hbox hb; have G3 := Aside0.mk ((by rw [hg]; exact below_size (show Below w.heap.size w _ from by repeat (first | exact HB.out | apply below_alloc | apply pw_below_drewN | apply below_drew1))) : w.heap.size ≤ g3); have n0_ := Aside0.mk (below_step (by repeat (first | exact HB.out | apply below_alloc | apply pw_below_drewN | apply below_drew1)) hb); clear HB; have HB := n0_; clear n0_; have B3 := Aside0.mk hbox; clear hb hbox hg)
    | ((with_reducible refine gate_dst (N := 4) rfl ?_); refine box_event ?hg (N := 4) ?hd (cs := ((kk.map (Value.int .u32)).toArray)) (t := 39) ?hr ?_; (case hd => rfl); (case hg => rfl); (case hr => first | (go_simp; done) | (go_simp; rfl)); intro g4 hg w_ hbox hb; have G4 := Aside0.mk ((by rw [hg]; exact below_size (show Below w.heap.size w _ from by repeat (first | exact HB.out | apply below_alloc | apply pw_below_drewN | apply below_drew1))) : w.heap.size ≤ g4); have n0_ := Aside0.mk (blk_below B3.out hb); have n1_ := Aside0.mk (below_step (by repeat (first | exact HB.out | apply below_alloc | apply pw_below_drewN | apply below_drew1)) hb); clear B3 HB; have B3 := n0_; have HB := n1_; clear n0_ n1_; have B4 := Aside0.mk hbox; clear hb hbox hg)
    | ((with_reducible refine gate_dst (N := 6) rfl ?_); refine box_event ?hg (N := 6) ?hd (cs := (((List.replicate 8 (0 : Int)).map (Value.int .u32)).toArray)) (t := 37) ?hr ?_; (case hd => rfl); (case hg => rfl); (case hr => first | (go_simp; done) | (go_simp; rfl)); intro g6 hg w_ hbox hb; have G6 := Aside0.mk ((by rw [hg]; exact below_size (show Below w.heap.size w _ from by repeat (first | exact HB.out | apply below_alloc | apply pw_below_drewN | apply below_drew1))) : w.heap.size ≤ g6); have N63 := Aside0.mk (show g6 ≠ g3 by rw [hg]; exact Nat.ne_of_gt (blk_lt B3.out)); have n0_ := Aside0.mk (blk_below B3.out hb); have n1_ := Aside0.mk (blk_below B4.out hb); have n2_ := Aside0.mk (below_step (by repeat (first | exact HB.out | apply below_alloc | apply pw_below_drewN | apply below_drew1)) hb); clear B3 B4 HB; have B3 := n0_; have B4 := n1_; have HB := n2_; clear n0_ n1_ n2_; have B6 := Aside0.mk hbox; clear hb hbox hg))
  try go_wp2
  have n0_ := Aside0.mk (blk_drew B3.out)
  have n1_ := Aside0.mk (blk_drew B4.out)
  have n2_ := Aside0.mk (blk_drew B6.out)
  clear B3 B4 B6
  have B3 := n0_
  have B4 := n1_
  have B6 := n2_
  clear n0_ n1_ n2_
  have n0_ := Aside0.mk (below_drew1 HB.out)
  clear HB
  have HB := n0_
  clear n0_
  refine start_ (n := 7) (S := fun w' => w'.heap[g3]? = some (.cells ((words.map (Value.int .u32)).toArray) 37 (0, 0))) (ds := []) #[false, false, false, false, false, false, false] (by kernel_rfl) rfl rfl B3.out (fun hHeld => ?_); refine with_tabW impl_blockHash.tab1 impl_blockHash.bits1 (fun HT_ HW_ => ?_)
  generalize w_.drew = wd_ at B3 B4 B6 HB hHeld ⊢
  refine pure_ (i := 1) (N := some 20) (v := ?_) (a' := ?_) #[false, true, false, false, false, false, false] rfl rfl (any_of HT_.out (by kernel_rfl)) (fun _ _ _ h => h) (Or.inl ⟨by rfl, ?_⟩) ?_ ?_
  rotate_left
  · intro w'
    go_simp
    with_reducible rfl
  rotate_left
  · simp only [Act.put, List.setIfInBounds_toArray, List.set_cons_zero, List.set_cons_succ, i64_w, i32_w]
    rfl
  refine take_ (i := 0) (N := some 19) (v := ?_) (a' := ?_) #[true, true, false, false, false, false, false] rfl rfl (take_ofW HT_.out HW_.out (by kernel_rfl)) (fun _ _ _ h => h) (Or.inl ⟨by rfl, ?_⟩) hHeld ?_ ?_
  rotate_left
  · intro w' s0
    refine impl_blockHash.exec_load (ty := 37) (x := .tmp 3) ?_ ?_ s0 hu8 rfl ((show _ = some 8 from by kernel_rfl).trans (congrArg some SW.out.symm))
    · rfl
    · rfl
  rotate_left
  · simp only [Act.put, List.setIfInBounds_toArray, List.set_cons_zero, List.set_cons_succ, i64_w, i32_w]
    rfl
  refine join_ (σ := Nat × Nat) 2 #[true, true, true, true, true, false, false] (fun s_ => [(21, .agg ((W64.map (Value.int .u32)).toArray)), (7, .pointer (some ⟨s_.1, 0, none⟩)), (8, .pointer (some ⟨s_.2, 0, none⟩))]) (fun s_ w' => (w'.heap[g3]? = some (.cells ((words.map (Value.int .u32)).toArray) 37 (0, 0))) ∧ (w'.heap[g4]? = some (.cells ((kk.map (Value.int .u32)).toArray) 39 (0, 0))) ∧ (w'.heap[g6]? = some (.cells (((List.replicate 8 (0 : Int)).map (Value.int .u32)).toArray) 37 (0, 0))) ∧ (w'.heap[s_.1]? = some (.cells (((List.replicate 8 (0 : Int)).map (Value.int .u32)).toArray) 37 (0, 0))) ∧ (w'.heap[s_.2]? = some (.cells (((List.replicate 64 (0 : Int)).map (Value.int .u32)).toArray) 39 (0, 0))) ∧ (w.heap.size ≤ s_.1) ∧ (w.heap.size ≤ s_.2) ∧ (s_.1 ≠ g3) ∧ (s_.1 ≠ g6) ∧ (s_.2 ≠ g4) ∧ (Below w.heap.size w w')) ?_ ?_
  rotate_left
  · intro hCont
    refine three_ (i := 2) (j := 3) (k := 4) (Ni := some 21) (Nj := some 7) (Nk := some 8) #[true, true, true, false, false, false, false] #[true, true, false, true, false, false, false] #[true, true, false, false, true, false, false] rfl rfl rfl rfl rfl rfl (three_of HT_.out (by kernel_rfl)) (by decide) (by decide) (by decide) (fun K hK => ?_) (fun K hK => ?_) (fun K hK => ?_)
    · skip
      refine goes_ Tryd.func38 (by kernel_rfl) rfl #[.string block] (by rfl) rfl rfl (by (try simp only [List.map_toArray, List.map_cons, List.map_nil]); rfl) ?_
      with_reducible refine (HC.out _).mono ?_
      rintro e w_ ⟨rfl, hb⟩
      refine ⟨_, rfl, ?_⟩
      have n0_ := Aside0.mk (blk_below B3.out hb)
      have n1_ := Aside0.mk (blk_below B4.out hb)
      have n2_ := Aside0.mk (blk_below B6.out hb)
      have n3_ := Aside0.mk (below_step (by repeat (first | exact HB.out | apply below_alloc | apply pw_below_drewN | apply below_drew1)) hb)
      clear B3 B4 B6 HB
      have B3 := n0_
      have B4 := n1_
      have B6 := n2_
      have HB := n3_
      clear n0_ n1_ n2_ n3_
      clear hb
      refine hK.out _ _ B3.out (fun hHeld => ?_)
      clear hK K
      refine norm_ (a' := ?_) ?_ ?_
      rotate_left
      · show Act.put _ (some 21) _ = _
        simp only [Act.put, List.setIfInBounds_toArray, List.set_cons_zero, List.set_cons_succ, i64_w, i32_w]
        rfl
      refine two_ (i := 3) (j := 4) (Ni := some 7) (Nj := some 8) #[true, true, true, true, false, false, false] #[true, true, true, false, true, false, false] rfl rfl rfl rfl (two_of HT_.out (by kernel_rfl)) (by decide) (by decide) (fun K hK => ?_) (fun K hK => ?_)
      · skip
        refine box_step ?hg (N := 7) ?hd (cs := (((List.replicate 8 (0 : Int)).map (Value.int .u32)).toArray)) (t := 37) ?hr ?_
        (case hd => rfl)
        (case hg => rfl)
        (case hr => first | (go_simp; done) | (go_simp; rfl))
        intro g7 hg w_ hbox hb
        have G7 := Aside0.mk ((by rw [hg]; exact below_size (show Below w.heap.size w _ from by repeat (first | exact HB.out | apply below_alloc | apply pw_below_drewN | apply below_drew1))) : w.heap.size ≤ g7)
        have N73 := Aside0.mk (show g7 ≠ g3 by rw [hg]; exact Nat.ne_of_gt (blk_lt B3.out))
        have N76 := Aside0.mk (show g7 ≠ g6 by rw [hg]; exact Nat.ne_of_gt (blk_lt B6.out))
        have n0_ := Aside0.mk (blk_below B3.out hb)
        have n1_ := Aside0.mk (blk_below B4.out hb)
        have n2_ := Aside0.mk (blk_below B6.out hb)
        have n3_ := Aside0.mk (below_step (by repeat (first | exact HB.out | apply below_alloc | apply pw_below_drewN | apply below_drew1)) hb)
        clear B3 B4 B6 HB
        have B3 := n0_
        have B4 := n1_
        have B6 := n2_
        have HB := n3_
        clear n0_ n1_ n2_ n3_
        have B7 := Aside0.mk hbox
        clear hb hbox hg
        refine hK.out _ _ B3.out (fun hHeld => ?_)
        clear hK K
        refine norm_ (a' := ?_) ?_ ?_
        rotate_left
        · show Act.put _ (some 7) _ = _
          simp only [Act.put, List.setIfInBounds_toArray, List.set_cons_zero, List.set_cons_succ, i64_w, i32_w]
          rfl
        refine one_ (i := 4) (N := some 8) #[true, true, true, true, true, false, false] rfl rfl (one_of HT_.out (by kernel_rfl)) (by decide) (fun K hK => ?_)
        refine box_step ?hg (N := 8) ?hd (cs := (((List.replicate 64 (0 : Int)).map (Value.int .u32)).toArray)) (t := 39) ?hr ?_
        (case hd => rfl)
        (case hg => rfl)
        (case hr => first | (go_simp; done) | (go_simp; rfl))
        intro g8 hg w_ hbox hb
        have G8 := Aside0.mk ((by rw [hg]; exact below_size (show Below w.heap.size w _ from by repeat (first | exact HB.out | apply below_alloc | apply pw_below_drewN | apply below_drew1))) : w.heap.size ≤ g8)
        have N84 := Aside0.mk (show g8 ≠ g4 by rw [hg]; exact Nat.ne_of_gt (blk_lt B4.out))
        have n0_ := Aside0.mk (blk_below B3.out hb)
        have n1_ := Aside0.mk (blk_below B4.out hb)
        have n2_ := Aside0.mk (blk_below B6.out hb)
        have n3_ := Aside0.mk (blk_below B7.out hb)
        have n4_ := Aside0.mk (below_step (by repeat (first | exact HB.out | apply below_alloc | apply pw_below_drewN | apply below_drew1)) hb)
        clear B3 B4 B6 B7 HB
        have B3 := n0_
        have B4 := n1_
        have B6 := n2_
        have B7 := n3_
        have HB := n4_
        clear n0_ n1_ n2_ n3_ n4_
        have B8 := Aside0.mk hbox
        clear hb hbox hg
        refine hK.out _ _ B3.out (fun hHeld => ?_)
        clear hK K
        refine norm_ (a' := ?_) ?_ ?_
        rotate_left
        · show Act.put _ (some 8) _ = _
          simp only [Act.put, List.setIfInBounds_toArray, List.set_cons_zero, List.set_cons_succ, i64_w, i32_w]
          rfl
        exact norm_ (by simp only [putAll, Act.put, List.setIfInBounds_toArray, List.set_cons_zero, List.set_cons_succ]) (hCont (g7, g8) _ ⟨B3.out, B4.out, B6.out, B7.out, B8.out, G7.out, G8.out, N73.out, N76.out, N84.out, HB.out⟩)
      · skip
        refine box_step ?hg (N := 8) ?hd (cs := (((List.replicate 64 (0 : Int)).map (Value.int .u32)).toArray)) (t := 39) ?hr ?_
        (case hd => rfl)
        (case hg => rfl)
        (case hr => first | (go_simp; done) | (go_simp; rfl))
        intro g8 hg w_ hbox hb
        have G8 := Aside0.mk ((by rw [hg]; exact below_size (show Below w.heap.size w _ from by repeat (first | exact HB.out | apply below_alloc | apply pw_below_drewN | apply below_drew1))) : w.heap.size ≤ g8)
        have N84 := Aside0.mk (show g8 ≠ g4 by rw [hg]; exact Nat.ne_of_gt (blk_lt B4.out))
        have n0_ := Aside0.mk (blk_below B3.out hb)
        have n1_ := Aside0.mk (blk_below B4.out hb)
        have n2_ := Aside0.mk (blk_below B6.out hb)
        have n3_ := Aside0.mk (below_step (by repeat (first | exact HB.out | apply below_alloc | apply pw_below_drewN | apply below_drew1)) hb)
        clear B3 B4 B6 HB
        have B3 := n0_
        have B4 := n1_
        have B6 := n2_
        have HB := n3_
        clear n0_ n1_ n2_ n3_
        have B8 := Aside0.mk hbox
        clear hb hbox hg
        refine hK.out _ _ B3.out (fun hHeld => ?_)
        clear hK K
        refine norm_ (a' := ?_) ?_ ?_
        rotate_left
        · show Act.put _ (some 8) _ = _
          simp only [Act.put, List.setIfInBounds_toArray, List.set_cons_zero, List.set_cons_succ, i64_w, i32_w]
          rfl
        refine one_ (i := 3) (N := some 7) #[true, true, true, true, true, false, false] rfl rfl (one_of HT_.out (by kernel_rfl)) (by decide) (fun K hK => ?_)
        refine box_step ?hg (N := 7) ?hd (cs := (((List.replicate 8 (0 : Int)).map (Value.int .u32)).toArray)) (t := 37) ?hr ?_
        (case hd => rfl)
        (case hg => rfl)
        (case hr => first | (go_simp; done) | (go_simp; rfl))
        intro g7 hg w_ hbox hb
        have G7 := Aside0.mk ((by rw [hg]; exact below_size (show Below w.heap.size w _ from by repeat (first | exact HB.out | apply below_alloc | apply pw_below_drewN | apply below_drew1))) : w.heap.size ≤ g7)
        have N73 := Aside0.mk (show g7 ≠ g3 by rw [hg]; exact Nat.ne_of_gt (blk_lt B3.out))
        have N76 := Aside0.mk (show g7 ≠ g6 by rw [hg]; exact Nat.ne_of_gt (blk_lt B6.out))
        have n0_ := Aside0.mk (blk_below B3.out hb)
        have n1_ := Aside0.mk (blk_below B4.out hb)
        have n2_ := Aside0.mk (blk_below B6.out hb)
        have n3_ := Aside0.mk (blk_below B8.out hb)
        have n4_ := Aside0.mk (below_step (by repeat (first | exact HB.out | apply below_alloc | apply pw_below_drewN | apply below_drew1)) hb)
        clear B3 B4 B6 B8 HB
        have B3 := n0_
        have B4 := n1_
        have B6 := n2_
        have B8 := n3_
        have HB := n4_
        clear n0_ n1_ n2_ n3_ n4_
        have B7 := Aside0.mk hbox
        clear hb hbox hg
        refine hK.out _ _ B3.out (fun hHeld => ?_)
        clear hK K
        refine norm_ (a' := ?_) ?_ ?_
        rotate_left
        · show Act.put _ (some 7) _ = _
          simp only [Act.put, List.setIfInBounds_toArray, List.set_cons_zero, List.set_cons_succ, i64_w, i32_w]
          rfl
        exact norm_ (by simp only [putAll, Act.put, List.setIfInBounds_toArray, List.set_cons_zero, List.set_cons_succ]) (hCont (g7, g8) _ ⟨B3.out, B4.out, B6.out, B7.out, B8.out, G7.out, G8.out, N73.out, N76.out, N84.out, HB.out⟩)
    · skip
      refine box_step ?hg (N := 7) ?hd (cs := (((List.replicate 8 (0 : Int)).map (Value.int .u32)).toArray)) (t := 37) ?hr ?_
      (case hd => rfl)
      (case hg => rfl)
      (case hr => first | (go_simp; done) | (go_simp; rfl))
      intro g7 hg w_ hbox hb
      have G7 := Aside0.mk ((by rw [hg]; exact below_size (show Below w.heap.size w _ from by repeat (first | exact HB.out | apply below_alloc | apply pw_below_drewN | apply below_drew1))) : w.heap.size ≤ g7)
      have N73 := Aside0.mk (show g7 ≠ g3 by rw [hg]; exact Nat.ne_of_gt (blk_lt B3.out))
      have N76 := Aside0.mk (show g7 ≠ g6 by rw [hg]; exact Nat.ne_of_gt (blk_lt B6.out))
      have n0_ := Aside0.mk (blk_below B3.out hb)
      have n1_ := Aside0.mk (blk_below B4.out hb)
      have n2_ := Aside0.mk (blk_below B6.out hb)
      have n3_ := Aside0.mk (below_step (by repeat (first | exact HB.out | apply below_alloc | apply pw_below_drewN | apply below_drew1)) hb)
      clear B3 B4 B6 HB
      have B3 := n0_
      have B4 := n1_
      have B6 := n2_
      have HB := n3_
      clear n0_ n1_ n2_ n3_
      have B7 := Aside0.mk hbox
      clear hb hbox hg
      refine hK.out _ _ B3.out (fun hHeld => ?_)
      clear hK K
      refine norm_ (a' := ?_) ?_ ?_
      rotate_left
      · show Act.put _ (some 7) _ = _
        simp only [Act.put, List.setIfInBounds_toArray, List.set_cons_zero, List.set_cons_succ, i64_w, i32_w]
        rfl
      refine two_ (i := 2) (j := 4) (Ni := some 21) (Nj := some 8) #[true, true, true, true, false, false, false] #[true, true, false, true, true, false, false] rfl rfl rfl rfl (two_of HT_.out (by kernel_rfl)) (by decide) (by decide) (fun K hK => ?_) (fun K hK => ?_)
      · skip
        refine goes_ Tryd.func38 (by kernel_rfl) rfl #[.string block] (by rfl) rfl rfl (by (try simp only [List.map_toArray, List.map_cons, List.map_nil]); rfl) ?_
        with_reducible refine (HC.out _).mono ?_
        rintro e w_ ⟨rfl, hb⟩
        refine ⟨_, rfl, ?_⟩
        have n0_ := Aside0.mk (blk_below B3.out hb)
        have n1_ := Aside0.mk (blk_below B4.out hb)
        have n2_ := Aside0.mk (blk_below B6.out hb)
        have n3_ := Aside0.mk (blk_below B7.out hb)
        have n4_ := Aside0.mk (below_step (by repeat (first | exact HB.out | apply below_alloc | apply pw_below_drewN | apply below_drew1)) hb)
        clear B3 B4 B6 B7 HB
        have B3 := n0_
        have B4 := n1_
        have B6 := n2_
        have B7 := n3_
        have HB := n4_
        clear n0_ n1_ n2_ n3_ n4_
        clear hb
        refine hK.out _ _ B3.out (fun hHeld => ?_)
        clear hK K
        refine norm_ (a' := ?_) ?_ ?_
        rotate_left
        · show Act.put _ (some 21) _ = _
          simp only [Act.put, List.setIfInBounds_toArray, List.set_cons_zero, List.set_cons_succ, i64_w, i32_w]
          rfl
        refine one_ (i := 4) (N := some 8) #[true, true, true, true, true, false, false] rfl rfl (one_of HT_.out (by kernel_rfl)) (by decide) (fun K hK => ?_)
        refine box_step ?hg (N := 8) ?hd (cs := (((List.replicate 64 (0 : Int)).map (Value.int .u32)).toArray)) (t := 39) ?hr ?_
        (case hd => rfl)
        (case hg => rfl)
        (case hr => first | (go_simp; done) | (go_simp; rfl))
        intro g8 hg w_ hbox hb
        have G8 := Aside0.mk ((by rw [hg]; exact below_size (show Below w.heap.size w _ from by repeat (first | exact HB.out | apply below_alloc | apply pw_below_drewN | apply below_drew1))) : w.heap.size ≤ g8)
        have N84 := Aside0.mk (show g8 ≠ g4 by rw [hg]; exact Nat.ne_of_gt (blk_lt B4.out))
        have n0_ := Aside0.mk (blk_below B3.out hb)
        have n1_ := Aside0.mk (blk_below B4.out hb)
        have n2_ := Aside0.mk (blk_below B6.out hb)
        have n3_ := Aside0.mk (blk_below B7.out hb)
        have n4_ := Aside0.mk (below_step (by repeat (first | exact HB.out | apply below_alloc | apply pw_below_drewN | apply below_drew1)) hb)
        clear B3 B4 B6 B7 HB
        have B3 := n0_
        have B4 := n1_
        have B6 := n2_
        have B7 := n3_
        have HB := n4_
        clear n0_ n1_ n2_ n3_ n4_
        have B8 := Aside0.mk hbox
        clear hb hbox hg
        refine hK.out _ _ B3.out (fun hHeld => ?_)
        clear hK K
        refine norm_ (a' := ?_) ?_ ?_
        rotate_left
        · show Act.put _ (some 8) _ = _
          simp only [Act.put, List.setIfInBounds_toArray, List.set_cons_zero, List.set_cons_succ, i64_w, i32_w]
          rfl
        exact norm_ (by simp only [putAll, Act.put, List.setIfInBounds_toArray, List.set_cons_zero, List.set_cons_succ]) (hCont (g7, g8) _ ⟨B3.out, B4.out, B6.out, B7.out, B8.out, G7.out, G8.out, N73.out, N76.out, N84.out, HB.out⟩)
      · skip
        refine box_step ?hg (N := 8) ?hd (cs := (((List.replicate 64 (0 : Int)).map (Value.int .u32)).toArray)) (t := 39) ?hr ?_
        (case hd => rfl)
        (case hg => rfl)
        (case hr => first | (go_simp; done) | (go_simp; rfl))
        intro g8 hg w_ hbox hb
        have G8 := Aside0.mk ((by rw [hg]; exact below_size (show Below w.heap.size w _ from by repeat (first | exact HB.out | apply below_alloc | apply pw_below_drewN | apply below_drew1))) : w.heap.size ≤ g8)
        have N84 := Aside0.mk (show g8 ≠ g4 by rw [hg]; exact Nat.ne_of_gt (blk_lt B4.out))
        have n0_ := Aside0.mk (blk_below B3.out hb)
        have n1_ := Aside0.mk (blk_below B4.out hb)
        have n2_ := Aside0.mk (blk_below B6.out hb)
        have n3_ := Aside0.mk (blk_below B7.out hb)
        have n4_ := Aside0.mk (below_step (by repeat (first | exact HB.out | apply below_alloc | apply pw_below_drewN | apply below_drew1)) hb)
        clear B3 B4 B6 B7 HB
        have B3 := n0_
        have B4 := n1_
        have B6 := n2_
        have B7 := n3_
        have HB := n4_
        clear n0_ n1_ n2_ n3_ n4_
        have B8 := Aside0.mk hbox
        clear hb hbox hg
        refine hK.out _ _ B3.out (fun hHeld => ?_)
        clear hK K
        refine norm_ (a' := ?_) ?_ ?_
        rotate_left
        · show Act.put _ (some 8) _ = _
          simp only [Act.put, List.setIfInBounds_toArray, List.set_cons_zero, List.set_cons_succ, i64_w, i32_w]
          rfl
        refine one_ (i := 2) (N := some 21) #[true, true, true, true, true, false, false] rfl rfl (one_of HT_.out (by kernel_rfl)) (by decide) (fun K hK => ?_)
        refine goes_ Tryd.func38 (by kernel_rfl) rfl #[.string block] (by rfl) rfl rfl (by (try simp only [List.map_toArray, List.map_cons, List.map_nil]); rfl) ?_
        with_reducible refine (HC.out _).mono ?_
        rintro e w_ ⟨rfl, hb⟩
        refine ⟨_, rfl, ?_⟩
        have n0_ := Aside0.mk (blk_below B3.out hb)
        have n1_ := Aside0.mk (blk_below B4.out hb)
        have n2_ := Aside0.mk (blk_below B6.out hb)
        have n3_ := Aside0.mk (blk_below B7.out hb)
        have n4_ := Aside0.mk (blk_below B8.out hb)
        have n5_ := Aside0.mk (below_step (by repeat (first | exact HB.out | apply below_alloc | apply pw_below_drewN | apply below_drew1)) hb)
        clear B3 B4 B6 B7 B8 HB
        have B3 := n0_
        have B4 := n1_
        have B6 := n2_
        have B7 := n3_
        have B8 := n4_
        have HB := n5_
        clear n0_ n1_ n2_ n3_ n4_ n5_
        clear hb
        refine hK.out _ _ B3.out (fun hHeld => ?_)
        clear hK K
        refine norm_ (a' := ?_) ?_ ?_
        rotate_left
        · show Act.put _ (some 21) _ = _
          simp only [Act.put, List.setIfInBounds_toArray, List.set_cons_zero, List.set_cons_succ, i64_w, i32_w]
          rfl
        exact norm_ (by simp only [putAll, Act.put, List.setIfInBounds_toArray, List.set_cons_zero, List.set_cons_succ]) (hCont (g7, g8) _ ⟨B3.out, B4.out, B6.out, B7.out, B8.out, G7.out, G8.out, N73.out, N76.out, N84.out, HB.out⟩)
    · skip
      refine box_step ?hg (N := 8) ?hd (cs := (((List.replicate 64 (0 : Int)).map (Value.int .u32)).toArray)) (t := 39) ?hr ?_
      (case hd => rfl)
      (case hg => rfl)
      (case hr => first | (go_simp; done) | (go_simp; rfl))
      intro g8 hg w_ hbox hb
      have G8 := Aside0.mk ((by rw [hg]; exact below_size (show Below w.heap.size w _ from by repeat (first | exact HB.out | apply below_alloc | apply pw_below_drewN | apply below_drew1))) : w.heap.size ≤ g8)
      have N84 := Aside0.mk (show g8 ≠ g4 by rw [hg]; exact Nat.ne_of_gt (blk_lt B4.out))
      have n0_ := Aside0.mk (blk_below B3.out hb)
      have n1_ := Aside0.mk (blk_below B4.out hb)
      have n2_ := Aside0.mk (blk_below B6.out hb)
      have n3_ := Aside0.mk (below_step (by repeat (first | exact HB.out | apply below_alloc | apply pw_below_drewN | apply below_drew1)) hb)
      clear B3 B4 B6 HB
      have B3 := n0_
      have B4 := n1_
      have B6 := n2_
      have HB := n3_
      clear n0_ n1_ n2_ n3_
      have B8 := Aside0.mk hbox
      clear hb hbox hg
      refine hK.out _ _ B3.out (fun hHeld => ?_)
      clear hK K
      refine norm_ (a' := ?_) ?_ ?_
      rotate_left
      · show Act.put _ (some 8) _ = _
        simp only [Act.put, List.setIfInBounds_toArray, List.set_cons_zero, List.set_cons_succ, i64_w, i32_w]
        rfl
      refine two_ (i := 2) (j := 3) (Ni := some 21) (Nj := some 7) #[true, true, true, false, true, false, false] #[true, true, false, true, true, false, false] rfl rfl rfl rfl (two_of HT_.out (by kernel_rfl)) (by decide) (by decide) (fun K hK => ?_) (fun K hK => ?_)
      · skip
        refine goes_ Tryd.func38 (by kernel_rfl) rfl #[.string block] (by rfl) rfl rfl (by (try simp only [List.map_toArray, List.map_cons, List.map_nil]); rfl) ?_
        with_reducible refine (HC.out _).mono ?_
        rintro e w_ ⟨rfl, hb⟩
        refine ⟨_, rfl, ?_⟩
        have n0_ := Aside0.mk (blk_below B3.out hb)
        have n1_ := Aside0.mk (blk_below B4.out hb)
        have n2_ := Aside0.mk (blk_below B6.out hb)
        have n3_ := Aside0.mk (blk_below B8.out hb)
        have n4_ := Aside0.mk (below_step (by repeat (first | exact HB.out | apply below_alloc | apply pw_below_drewN | apply below_drew1)) hb)
        clear B3 B4 B6 B8 HB
        have B3 := n0_
        have B4 := n1_
        have B6 := n2_
        have B8 := n3_
        have HB := n4_
        clear n0_ n1_ n2_ n3_ n4_
        clear hb
        refine hK.out _ _ B3.out (fun hHeld => ?_)
        clear hK K
        refine norm_ (a' := ?_) ?_ ?_
        rotate_left
        · show Act.put _ (some 21) _ = _
          simp only [Act.put, List.setIfInBounds_toArray, List.set_cons_zero, List.set_cons_succ, i64_w, i32_w]
          rfl
        refine one_ (i := 3) (N := some 7) #[true, true, true, true, true, false, false] rfl rfl (one_of HT_.out (by kernel_rfl)) (by decide) (fun K hK => ?_)
        refine box_step ?hg (N := 7) ?hd (cs := (((List.replicate 8 (0 : Int)).map (Value.int .u32)).toArray)) (t := 37) ?hr ?_
        (case hd => rfl)
        (case hg => rfl)
        (case hr => first | (go_simp; done) | (go_simp; rfl))
        intro g7 hg w_ hbox hb
        have G7 := Aside0.mk ((by rw [hg]; exact below_size (show Below w.heap.size w _ from by repeat (first | exact HB.out | apply below_alloc | apply pw_below_drewN | apply below_drew1))) : w.heap.size ≤ g7)
        have N73 := Aside0.mk (show g7 ≠ g3 by rw [hg]; exact Nat.ne_of_gt (blk_lt B3.out))
        have N76 := Aside0.mk (show g7 ≠ g6 by rw [hg]; exact Nat.ne_of_gt (blk_lt B6.out))
        have n0_ := Aside0.mk (blk_below B3.out hb)
        have n1_ := Aside0.mk (blk_below B4.out hb)
        have n2_ := Aside0.mk (blk_below B6.out hb)
        have n3_ := Aside0.mk (blk_below B8.out hb)
        have n4_ := Aside0.mk (below_step (by repeat (first | exact HB.out | apply below_alloc | apply pw_below_drewN | apply below_drew1)) hb)
        clear B3 B4 B6 B8 HB
        have B3 := n0_
        have B4 := n1_
        have B6 := n2_
        have B8 := n3_
        have HB := n4_
        clear n0_ n1_ n2_ n3_ n4_
        have B7 := Aside0.mk hbox
        clear hb hbox hg
        refine hK.out _ _ B3.out (fun hHeld => ?_)
        clear hK K
        refine norm_ (a' := ?_) ?_ ?_
        rotate_left
        · show Act.put _ (some 7) _ = _
          simp only [Act.put, List.setIfInBounds_toArray, List.set_cons_zero, List.set_cons_succ, i64_w, i32_w]
          rfl
        exact norm_ (by simp only [putAll, Act.put, List.setIfInBounds_toArray, List.set_cons_zero, List.set_cons_succ]) (hCont (g7, g8) _ ⟨B3.out, B4.out, B6.out, B7.out, B8.out, G7.out, G8.out, N73.out, N76.out, N84.out, HB.out⟩)
      · skip
        refine box_step ?hg (N := 7) ?hd (cs := (((List.replicate 8 (0 : Int)).map (Value.int .u32)).toArray)) (t := 37) ?hr ?_
        (case hd => rfl)
        (case hg => rfl)
        (case hr => first | (go_simp; done) | (go_simp; rfl))
        intro g7 hg w_ hbox hb
        have G7 := Aside0.mk ((by rw [hg]; exact below_size (show Below w.heap.size w _ from by repeat (first | exact HB.out | apply below_alloc | apply pw_below_drewN | apply below_drew1))) : w.heap.size ≤ g7)
        have N73 := Aside0.mk (show g7 ≠ g3 by rw [hg]; exact Nat.ne_of_gt (blk_lt B3.out))
        have N76 := Aside0.mk (show g7 ≠ g6 by rw [hg]; exact Nat.ne_of_gt (blk_lt B6.out))
        have n0_ := Aside0.mk (blk_below B3.out hb)
        have n1_ := Aside0.mk (blk_below B4.out hb)
        have n2_ := Aside0.mk (blk_below B6.out hb)
        have n3_ := Aside0.mk (blk_below B8.out hb)
        have n4_ := Aside0.mk (below_step (by repeat (first | exact HB.out | apply below_alloc | apply pw_below_drewN | apply below_drew1)) hb)
        clear B3 B4 B6 B8 HB
        have B3 := n0_
        have B4 := n1_
        have B6 := n2_
        have B8 := n3_
        have HB := n4_
        clear n0_ n1_ n2_ n3_ n4_
        have B7 := Aside0.mk hbox
        clear hb hbox hg
        refine hK.out _ _ B3.out (fun hHeld => ?_)
        clear hK K
        refine norm_ (a' := ?_) ?_ ?_
        rotate_left
        · show Act.put _ (some 7) _ = _
          simp only [Act.put, List.setIfInBounds_toArray, List.set_cons_zero, List.set_cons_succ, i64_w, i32_w]
          rfl
        refine one_ (i := 2) (N := some 21) #[true, true, true, true, true, false, false] rfl rfl (one_of HT_.out (by kernel_rfl)) (by decide) (fun K hK => ?_)
        refine goes_ Tryd.func38 (by kernel_rfl) rfl #[.string block] (by rfl) rfl rfl (by (try simp only [List.map_toArray, List.map_cons, List.map_nil]); rfl) ?_
        with_reducible refine (HC.out _).mono ?_
        rintro e w_ ⟨rfl, hb⟩
        refine ⟨_, rfl, ?_⟩
        have n0_ := Aside0.mk (blk_below B3.out hb)
        have n1_ := Aside0.mk (blk_below B4.out hb)
        have n2_ := Aside0.mk (blk_below B6.out hb)
        have n3_ := Aside0.mk (blk_below B7.out hb)
        have n4_ := Aside0.mk (blk_below B8.out hb)
        have n5_ := Aside0.mk (below_step (by repeat (first | exact HB.out | apply below_alloc | apply pw_below_drewN | apply below_drew1)) hb)
        clear B3 B4 B6 B7 B8 HB
        have B3 := n0_
        have B4 := n1_
        have B6 := n2_
        have B7 := n3_
        have B8 := n4_
        have HB := n5_
        clear n0_ n1_ n2_ n3_ n4_ n5_
        clear hb
        refine hK.out _ _ B3.out (fun hHeld => ?_)
        clear hK K
        refine norm_ (a' := ?_) ?_ ?_
        rotate_left
        · show Act.put _ (some 21) _ = _
          simp only [Act.put, List.setIfInBounds_toArray, List.set_cons_zero, List.set_cons_succ, i64_w, i32_w]
          rfl
        exact norm_ (by simp only [putAll, Act.put, List.setIfInBounds_toArray, List.set_cons_zero, List.set_cons_succ]) (hCont (g7, g8) _ ⟨B3.out, B4.out, B6.out, B7.out, B8.out, G7.out, G8.out, N73.out, N76.out, N84.out, HB.out⟩)
  rintro ⟨g7, g8⟩ w7 ⟨h3_, h4_, h6_, h7_, h8_, k7_, k8_, n3_, n6_, n4_, hB_⟩
  clear B3 B4 B6 HB hHeld
  have B3 := Aside0.mk h3_
  have B4 := Aside0.mk h4_
  have B6 := Aside0.mk h6_
  have B7 := Aside0.mk h7_
  have B8 := Aside0.mk h8_
  have G7 := Aside0.mk k7_
  have G8 := Aside0.mk k8_
  have N73 := Aside0.mk n3_
  have N76 := Aside0.mk n6_
  have N84 := Aside0.mk n4_
  have HB := Aside0.mk hB_
  clear h3_ h4_ h6_ h7_ h8_ k7_ k8_ n3_ n6_ n4_ hB_
  simp only at B7 B8 G7 G8 N73 N76 N84
  refine norm_ (a' := ?_) ?_ ?_
  rotate_left
  · simp only [putAll, Act.put, List.setIfInBounds_toArray, List.set_cons_zero, List.set_cons_succ]
    rfl
  refine one_ (i := 5) (N := none) #[true, true, true, true, true, true, false] rfl rfl (one_of HT_.out (by kernel_rfl)) (by decide) (fun K hK => ?_)
  refine skip_ (w1 := w7.setRow g7 ((words.map (Value.int .u32)).toArray)) (by rfl) rfl ?_ ?_
  · refine impl_blockHash.exec_store (ty := 37) (x := .tmp 7) (y := .tmp 19) ?_ ?_ ?_ B7.out ((show _ = some 8 from by kernel_rfl).trans (congrArg some SW.out.symm)) (by rw [SW.out]; rfl) arr_one
    · rfl
    · rfl
    · rfl
  have n0_ := Aside0.mk ((setRow_other (cs := ((words.map (Value.int .u32)).toArray)) N73.out).trans B3.out)
  have n1_ := Aside0.mk ((setRow_other (cs := ((words.map (Value.int .u32)).toArray)) (blk_ne B7.out B4.out (by decide))).trans B4.out)
  have n2_ := Aside0.mk ((setRow_other (cs := ((words.map (Value.int .u32)).toArray)) N76.out).trans B6.out)
  have n3_ := Aside0.mk (setRow_self (cs := ((words.map (Value.int .u32)).toArray)) B7.out)
  have n4_ := Aside0.mk ((setRow_other (cs := ((words.map (Value.int .u32)).toArray)) (blk_ne B7.out B8.out (by decide))).trans B8.out)
  have n5_ := Aside0.mk (setRow_below (cs := ((words.map (Value.int .u32)).toArray)) HB.out G7.out)
  clear B3 B4 B6 B7 B8 HB
  have B3 := n0_
  have B4 := n1_
  have B6 := n2_
  have B7 := n3_
  have B8 := n4_
  have HB := n5_
  clear n0_ n1_ n2_ n3_ n4_ n5_
  refine hK.out _ _ B3.out (fun hHeld => ?_)
  clear hK K
  generalize w7.setRow g7 ((words.map (Value.int .u32)).toArray) = w8 at B3 B4 B6 B7 B8 HB hHeld ⊢
  refine one_ (i := 6) (N := none) #[true, true, true, true, true, true, true] rfl rfl (one_of HT_.out (by kernel_rfl)) (by decide) (fun K hK => ?_)
  refine skip_ (w1 := w8.setRow g8 ((W64.map (Value.int .u32)).toArray)) (by rfl) rfl ?_ ?_
  · refine impl_blockHash.exec_store (ty := 39) (x := .tmp 8) (y := .tmp 21) ?_ ?_ ?_ B8.out ((show _ = some 64 from by kernel_rfl).trans (congrArg some S64.out.symm)) (by rw [S64.out]; rfl) arr_one
    · rfl
    · rfl
    · rfl
  have n0_ := Aside0.mk ((setRow_other (cs := ((W64.map (Value.int .u32)).toArray)) (blk_ne B8.out B3.out (by decide))).trans B3.out)
  have n1_ := Aside0.mk ((setRow_other (cs := ((W64.map (Value.int .u32)).toArray)) N84.out).trans B4.out)
  have n2_ := Aside0.mk ((setRow_other (cs := ((W64.map (Value.int .u32)).toArray)) (blk_ne B8.out B6.out (by decide))).trans B6.out)
  have n3_ := Aside0.mk ((setRow_other (cs := ((W64.map (Value.int .u32)).toArray)) (blk_ne B8.out B7.out (by decide))).trans B7.out)
  have n4_ := Aside0.mk (setRow_self (cs := ((W64.map (Value.int .u32)).toArray)) B8.out)
  have n5_ := Aside0.mk (setRow_below (cs := ((W64.map (Value.int .u32)).toArray)) HB.out G8.out)
  clear B3 B4 B6 B7 B8 HB
  have B3 := n0_
  have B4 := n1_
  have B6 := n2_
  have B7 := n3_
  have B8 := n4_
  have HB := n5_
  clear n0_ n1_ n2_ n3_ n4_ n5_
  refine hK.out _ _ B3.out (fun hHeld => ?_)
  clear hK K
  generalize w8.setRow g8 ((W64.map (Value.int .u32)).toArray) = w9 at B3 B4 B6 B7 B8 HB hHeld ⊢
  refine done_ (done_of HT_.out (by kernel_rfl)) ?_
  have HS := HW8.out
  go_wp2
  go_loopg [22] 64 (fun kq v22 w' => ∃ i : Nat, v22 = .int .i64 (i : Int) ∧ Aside0 (i + kq = 64) ∧ Aside0 (w'.heap[g7]? = some (.cells (((impl_blockHash.rounds kk W64 words i).map (Value.int .u32)).toArray) 37 (0, 0))) ∧ Aside0 (w'.heap[g3]? = some (.cells ((words.map (Value.int .u32)).toArray) 37 (0, 0))) ∧ Aside0 (w'.heap[g4]? = some (.cells ((kk.map (Value.int .u32)).toArray) 39 (0, 0))) ∧ Aside0 (w'.heap[g6]? = some (.cells (((List.replicate 8 (0 : Int)).map (Value.int .u32)).toArray) 37 (0, 0))) ∧ Aside0 (w'.heap[g8]? = some (.cells ((W64.map (Value.int .u32)).toArray) 39 (0, 0))) ∧ Aside0 (Below w.heap.size w w'))
  case atStart => exact ⟨0, rfl, ⟨rfl⟩, ⟨by repeat (first | exact B7.out | apply blk_drew | apply blk_drewN)⟩, ⟨by repeat (first | exact B3.out | apply blk_drew | apply blk_drewN)⟩, ⟨by repeat (first | exact B4.out | apply blk_drew | apply blk_drewN)⟩, ⟨by repeat (first | exact B6.out | apply blk_drew | apply blk_drewN)⟩, ⟨by repeat (first | exact B8.out | apply blk_drew | apply blk_drewN)⟩, ⟨by repeat (first | exact HB.out | apply below_alloc | apply pw_below_drewN | apply below_drew1)⟩⟩
  case round =>
    clear B3 B4 B6 B7 B8 HB
    obtain ⟨i, rfl, HI, B7, B3, B4, B6, B8, HB⟩ := hrel
    cases gk with
    | zero =>
      have hi : i = 64 := HI.out
      subst hi
      obtain ⟨V, hV⟩ : ∃ l : List Int, l = impl_blockHash.rounds kk W64 words 64 := ⟨_, rfl⟩
      rw [← hV] at B7
      have hV8 : V.length = 8 := by rw [hV]; exact impl_blockHash.rounds_len kk W64 words HW8.out 64
      have HV := Aside0.mk hV
      have HV8 := Aside0.mk hV8
      clear hV hV8 HI
      go_wp2
      go_loopg [100] 8 (fun kq v100 w' => ∃ i : Nat, v100 = .int .i64 (i : Int) ∧ Aside0 (i + kq = 8) ∧ Aside0 (w'.heap[g7]? = some (.cells (((impl_blockHash.adds V words i).map (Value.int .u32)).toArray) 37 (0, 0))) ∧ Aside0 (w'.heap[g3]? = some (.cells ((words.map (Value.int .u32)).toArray) 37 (0, 0))) ∧ Aside0 (w'.heap[g6]? = some (.cells (((List.replicate 8 (0 : Int)).map (Value.int .u32)).toArray) 37 (0, 0))) ∧ Aside0 (Below w.heap.size w w'))
      case atStart => exact ⟨0, rfl, ⟨rfl⟩, ⟨by repeat (first | exact B7.out | apply blk_drew | apply blk_drewN)⟩, ⟨by repeat (first | exact B3.out | apply blk_drew | apply blk_drewN)⟩, ⟨by repeat (first | exact B6.out | apply blk_drew | apply blk_drewN)⟩, ⟨by repeat (first | exact HB.out | apply below_alloc | apply pw_below_drewN | apply below_drew1)⟩⟩
      case round =>
        clear B3 B4 B6 B7 B8 HB
        obtain ⟨i, rfl, HI, B7, B3, B6, HB⟩ := hrel
        cases gk with
        | zero =>
          have hi : i = 8 := HI.out
          subst hi
          have hsz : some 8 = some ((((impl_blockHash.adds V words 8).map (Value.int .u32)).toArray).size) := by rw [arr_size, impl_blockHash.adds_len, HV8.out]
          have hout : impl_blockHash.out words kk block = impl_blockHash.adds V words 8 := by rw [HV.out, HW64.out]; rfl
          have HOUT := Aside0.mk hout
          clear hout
          go_wp2_with (first
            | ((with_reducible refine gate_dst (N := 112) rfl ?_); refine wpList_load_row rfl 37 (.tmp 7) rfl g7 (by rfl) _ _ (0, 0) _ B7.out hu8 rfl ((show _ = some 8 from by kernel_rfl).trans hsz) ?_)
            | ((with_reducible refine gate_store (t := 37) (p := 6) rfl ?_); refine row_event2 rfl 37 (.tmp 6) (.tmp 112) rfl g6 (((impl_blockHash.adds V words 8).map (Value.int .u32)).toArray) ?hx ?hy B6.out ?hi ?ho arr_one ?_; (case hx => rfl); (case hy => rfl); (case hi => exact ((show _ = some 8 from by kernel_rfl).trans hsz)); (case ho => (rw [arr_size, arr_size, impl_blockHash.adds_len, HV8.out]; rfl)); intro w1 hw1; have n0_ : Aside0 (Below w.heap.size w w1) := ⟨by rw [hw1]; exact setRow_below HB.out G6.out⟩; have n1_ : Aside0 (w1.heap[g6]? = some (.cells (((impl_blockHash.adds V words 8).map (Value.int .u32)).toArray) 37 (0, 0))) := ⟨by rw [hw1]; exact setRow_self B6.out⟩; clear B3 B6 B7 HB hw1; have HB := n0_; have B6 := n1_; clear n0_ n1_))
          refine bodyPost_ret (results_cell_row rfl _ _ g6 37 _ (0, 0) _ rfl B6.out hu8 rfl ((show _ = some 8 from by kernel_rfl).trans hsz)) rfl ?_
          exact ⟨by rw [HOUT.out], HB.out⟩
        | succ k1 =>
          have hi := HI.out
          have hi8 : (i : Int) < 8 := by omega
          have c8 : decide ((i : Int) < 8) = true := decide_eq_true hi8
          have x8 : ((i : Int) < 8) = True := eq_true hi8
          have z0 : (0 ≤ (i : Int)) = True := eq_true (by omega)
          have inc : wrap64 ((i : Int) + 1) = ((i + 1 : Nat) : Int) := by rw [IntWalk.wrap64_in _ ⟨by omega, by omega⟩]; rfl
          have INC := Aside0.mk inc
          have LX := Aside0.mk (show (impl_blockHash.adds V words i).length = 8 by rw [impl_blockHash.adds_len, HV8.out])
          have H8 := Aside0.mk hi8
          clear inc hi hi8
          go_upto_region 13 with (fail)
          try go_wp2
          have n0_ := Aside0.mk (blk_drew B3.out)
          have n1_ := Aside0.mk (blk_drew B6.out)
          have n2_ := Aside0.mk (blk_drew B7.out)
          clear B3 B6 B7
          have B3 := n0_
          have B6 := n1_
          have B7 := n2_
          clear n0_ n1_ n2_
          have n0_ := Aside0.mk (below_drew1 HB.out)
          clear HB
          have HB := n0_
          clear n0_
          refine start_ (n := 9) (S := fun w' => w'.cell? ⟨g7, i, none⟩ = some (.int .u32 (rd (impl_blockHash.adds V words i) (i : Int))) ∧ w'.cell? ⟨g3, i, none⟩ = some (.int .u32 (rd words (i : Int)))) (ds := [8]) #[false, false, false, false, false, false, false, false, false] (by kernel_rfl) rfl rfl ⟨(blk_cell B7.out i).trans (arr_get (by have := LX.out; have := H8.out; omega)), (blk_cell B3.out i).trans (arr_get (by have := HW8.out; have := H8.out; omega))⟩ (fun hHeld => ?_); refine with_tabW impl_blockHash.tab13 impl_blockHash.bits13 (fun HT_ HW_ => ?_)
          generalize wr.drew = wd_ at B3 B6 B7 HB hHeld ⊢
          refine pure_ (i := 0) (N := some 103) (v := ?_) (a' := ?_) #[true, false, false, false, false, false, false, false, false] rfl rfl (any_of HT_.out (by kernel_rfl)) (fun _ _ _ h => h) (Or.inl ⟨by rfl, ?_⟩) ?_ ?_
          rotate_left
          · intro w'
            go_simp
            with_reducible rfl
          rotate_left
          · simp only [Act.put, List.setIfInBounds_toArray, List.set_cons_zero, List.set_cons_succ, i64_w, i32_w]
            rfl
          refine pure_ (i := 1) (N := some 104) (v := ?_) (a' := ?_) #[true, true, false, false, false, false, false, false, false] rfl rfl (any_of HT_.out (by kernel_rfl)) (fun _ _ _ h => h) (Or.inl ⟨by rfl, ?_⟩) ?_ ?_
          rotate_left
          · intro w'
            go_simp
            with_reducible rfl
          rotate_left
          · simp only [Act.put, List.setIfInBounds_toArray, List.set_cons_zero, List.set_cons_succ, i64_w, i32_w]
            rfl
          refine take_ (i := 2) (N := some 105) (v := ?_) (a' := ?_) #[true, true, true, false, false, false, false, false, false] rfl rfl (take_ofW HT_.out HW_.out (by kernel_rfl)) (fun _ _ _ h => h) (Or.inl ⟨by rfl, ?_⟩) hHeld ?_ ?_
          rotate_left
          · rintro w' ⟨s0, s1⟩
            go_simp
            with_reducible rfl
          rotate_left
          · simp only [Act.put, List.setIfInBounds_toArray, List.set_cons_zero, List.set_cons_succ, i64_w, i32_w]
            rfl
          refine pure_ (i := 3) (N := some 106) (v := ?_) (a' := ?_) #[true, true, true, true, false, false, false, false, false] rfl rfl (any_of HT_.out (by kernel_rfl)) (fun _ _ _ h => h) (Or.inl ⟨by rfl, ?_⟩) ?_ ?_
          rotate_left
          · intro w'
            go_simp
            with_reducible rfl
          rotate_left
          · simp only [Act.put, List.setIfInBounds_toArray, List.set_cons_zero, List.set_cons_succ, i64_w, i32_w]
            rfl
          refine pure_ (i := 4) (N := some 107) (v := ?_) (a' := ?_) #[true, true, true, true, true, false, false, false, false] rfl rfl (any_of HT_.out (by kernel_rfl)) (fun _ _ _ h => h) (Or.inl ⟨by rfl, ?_⟩) ?_ ?_
          rotate_left
          · intro w'
            go_simp
            with_reducible rfl
          rotate_left
          · simp only [Act.put, List.setIfInBounds_toArray, List.set_cons_zero, List.set_cons_succ, i64_w, i32_w]
            rfl
          refine take_ (i := 5) (N := some 108) (v := ?_) (a' := ?_) #[true, true, true, true, true, true, false, false, false] rfl rfl (take_ofW HT_.out HW_.out (by kernel_rfl)) (fun _ _ _ h => h) (Or.inl ⟨by rfl, ?_⟩) hHeld ?_ ?_
          rotate_left
          · rintro w' ⟨s0, s1⟩
            go_simp
            with_reducible rfl
          rotate_left
          · simp only [Act.put, List.setIfInBounds_toArray, List.set_cons_zero, List.set_cons_succ, i64_w, i32_w]
            rfl
          refine pure_ (i := 6) (N := some 109) (v := ?_) (a' := ?_) #[true, true, true, true, true, true, true, false, false] rfl rfl (any_of HT_.out (by kernel_rfl)) (fun _ _ _ h => h) (Or.inl ⟨by rfl, ?_⟩) ?_ ?_
          rotate_left
          · intro w'
            go_simp
            with_reducible rfl
          rotate_left
          · simp only [Act.put, List.setIfInBounds_toArray, List.set_cons_zero, List.set_cons_succ, i64_w, i32_w]
            rfl
          refine pure_ (i := 7) (N := some 110) (v := ?_) (a' := ?_) #[true, true, true, true, true, true, true, true, false] rfl rfl (any_of HT_.out (by kernel_rfl)) (fun _ _ _ h => h) (Or.inl ⟨by rfl, ?_⟩) ?_ ?_
          rotate_left
          · intro w'
            go_simp
            with_reducible rfl
          rotate_left
          · simp only [Act.put, List.setIfInBounds_toArray, List.set_cons_zero, List.set_cons_succ, i64_w, i32_w]
            rfl
          refine last_ (i := 8) (N := none) #[true, true, true, true, true, true, true, true, true] rfl rfl (one_of HT_.out (by kernel_rfl)) (by decide) (fun K hK => ?_)
          have hs := (blk_cell B7.out i).trans (arr_get (by have := LX.out; have := H8.out; omega))
          have hf := blk_frozen B7.out i
          refine skip_ (w1 := ?_) (by rfl) rfl ?_ ?_
          rotate_left
          · go_simp
            rfl
          refine hK.out _ _ ?_
          clear hK K
          refine done_ (done_of HT_.out (by kernel_rfl)) ?_
          go_wp2
          go_roundg k1
          case measure => omega
          case rel =>
            refine ⟨i + 1, by rw [INC.out], ⟨by have := HI.out; omega⟩, ⟨blk_put B7.out i _ ?_⟩, ⟨(Below.heap_setCell _ ⟨g7, i, none⟩ _ g3 (fun e => N73.out e.symm)).trans B3.out⟩, ⟨(Below.heap_setCell _ ⟨g7, i, none⟩ _ g6 (fun e => N76.out e.symm)).trans B6.out⟩, ⟨below_set HB.out G7.out⟩⟩
            rw [arr_set]
            rfl
    | succ k1 =>
      have hi := HI.out
      have hi64 : (i : Int) < 64 := by omega
      have c64 : decide ((i : Int) < 64) = true := decide_eq_true hi64
      have x64 : ((i : Int) < 64) = True := eq_true hi64
      have z0 : (0 ≤ (i : Int)) = True := eq_true (by omega)
      have inc : wrap64 ((i : Int) + 1) = ((i + 1 : Nat) : Int) := by rw [IntWalk.wrap64_in _ ⟨by omega, by omega⟩]; rfl
      have INC := Aside0.mk inc
      clear inc hi
      obtain ⟨V, hV⟩ : ∃ l : List Int, l = impl_blockHash.rounds kk W64 words i := ⟨_, rfl⟩
      rw [← hV] at B7
      have hV8 : V.length = 8 := by rw [hV]; exact impl_blockHash.rounds_len kk W64 words HW8.out i
      have v0 : wr.cell? ⟨g7, 0, none⟩ = some (.int .u32 (rd V 0)) := (blk_cell B7.out 0).trans (arr_get (by omega))
      have v1 : wr.cell? ⟨g7, 1, none⟩ = some (.int .u32 (rd V 1)) := (blk_cell B7.out 1).trans (arr_get (by omega))
      have v2 : wr.cell? ⟨g7, 2, none⟩ = some (.int .u32 (rd V 2)) := (blk_cell B7.out 2).trans (arr_get (by omega))
      have v3 : wr.cell? ⟨g7, 3, none⟩ = some (.int .u32 (rd V 3)) := (blk_cell B7.out 3).trans (arr_get (by omega))
      have v4 : wr.cell? ⟨g7, 4, none⟩ = some (.int .u32 (rd V 4)) := (blk_cell B7.out 4).trans (arr_get (by omega))
      have v5 : wr.cell? ⟨g7, 5, none⟩ = some (.int .u32 (rd V 5)) := (blk_cell B7.out 5).trans (arr_get (by omega))
      have v6 : wr.cell? ⟨g7, 6, none⟩ = some (.int .u32 (rd V 6)) := (blk_cell B7.out 6).trans (arr_get (by omega))
      have v7 : wr.cell? ⟨g7, 7, none⟩ = some (.int .u32 (rd V 7)) := (blk_cell B7.out 7).trans (arr_get (by omega))
      have vk : wr.cell? ⟨g4, i, none⟩ = some (.int .u32 (rd kk (i : Int))) := (blk_cell B4.out i).trans (arr_get (by have := HK64.out; omega))
      have vw : wr.cell? ⟨g8, i, none⟩ = some (.int .u32 (rd W64 (i : Int))) := (blk_cell B8.out i).trans (arr_get (by have := HL64.out; omega))
      have H64 := Aside0.mk hi64
      have HV := Aside0.mk hV
      have HV8 := Aside0.mk hV8
      have HSZ := Aside0.mk (show ((V.map (Value.int .u32)).toArray).size = 8 by rw [arr_size, hV8])
      clear hi64 hV hV8
      go_upto_region 5 with (fail)
      go_quiet (fail)
      go_upto_region 6 with (fail)
      go_quiet (first
        | (go_at_call 39; (with_reducible refine (impl_turned.calls (rd V 4) 6 _ _ (turn_at (rd V 4) 6 (by decide))).mono ?_); rintro e w' ⟨rfl, ⟨nd, rfl⟩⟩; (try first | exact ⟨rfl, _, World.drewN_drewN _ _ _⟩ | exact ⟨rfl, _, Eq.trans (World.drewN_drewN _ _ _) (congrArg (World.drewN _) (Nat.add_assoc _ _ _))⟩))
        | (go_at_call 39; (with_reducible refine (impl_turned.calls (rd V 4) 11 _ _ (turn_at (rd V 4) 11 (by decide))).mono ?_); rintro e w' ⟨rfl, ⟨nd, rfl⟩⟩; (try first | exact ⟨rfl, _, World.drewN_drewN _ _ _⟩ | exact ⟨rfl, _, Eq.trans (World.drewN_drewN _ _ _) (congrArg (World.drewN _) (Nat.add_assoc _ _ _))⟩))
        | (go_at_call 39; (with_reducible refine (impl_turned.calls (rd V 4) 25 _ _ (turn_at (rd V 4) 25 (by decide))).mono ?_); rintro e w' ⟨rfl, ⟨nd, rfl⟩⟩; (try first | exact ⟨rfl, _, World.drewN_drewN _ _ _⟩ | exact ⟨rfl, _, Eq.trans (World.drewN_drewN _ _ _) (congrArg (World.drewN _) (Nat.add_assoc _ _ _))⟩)))
      go_wp2_with (first
        | ((with_reducible refine gate_dst (N := 66) rfl ?_); refine goesL_ (some 66) rfl rfl Tryd.func39 (by kernel_rfl) rfl #[.int .u32 (rd V 0), .int .i64 2] rfl (by (try simp only [List.map_toArray, List.map_cons, List.map_nil]); first | done | rfl) ?_; (with_reducible refine (impl_turned.calls (rd V 0) 2 _ _ (turn_at (rd V 0) 2 (by decide))).mono ?_); rintro e w_ ⟨rfl, ⟨nd66, rfl⟩⟩; refine ⟨_, rfl, ?_⟩)
        | ((with_reducible refine gate_dst (N := 68) rfl ?_); refine goesL_ (some 68) rfl rfl Tryd.func39 (by kernel_rfl) rfl #[.int .u32 (rd V 0), .int .i64 13] rfl (by (try simp only [List.map_toArray, List.map_cons, List.map_nil]); first | done | rfl) ?_; (with_reducible refine (impl_turned.calls (rd V 0) 13 _ _ (turn_at (rd V 0) 13 (by decide))).mono ?_); rintro e w_ ⟨rfl, ⟨nd68, rfl⟩⟩; refine ⟨_, rfl, ?_⟩)
        | ((with_reducible refine gate_dst (N := 71) rfl ?_); refine goesL_ (some 71) rfl rfl Tryd.func39 (by kernel_rfl) rfl #[.int .u32 (rd V 0), .int .i64 22] rfl (by (try simp only [List.map_toArray, List.map_cons, List.map_nil]); first | done | rfl) ?_; (with_reducible refine (impl_turned.calls (rd V 0) 22 _ _ (turn_at (rd V 0) 22 (by decide))).mono ?_); rintro e w_ ⟨rfl, ⟨nd71, rfl⟩⟩; refine ⟨_, rfl, ?_⟩)
        | ((with_reducible refine gate_store (t := 37) (p := 7) rfl ?_); refine row_event2 rfl 37 (.tmp 7) (.tmp 98) rfl g7 (((impl_blockHash.step kk W64 V i).map (Value.int .u32)).toArray) ?hx ?hy (blk_drewN B7.out _) ?hi ?ho arr_one ?_; (case hx => rfl); (case hy => rfl); (case hi => kernel_rfl); (case ho => (rw [HSZ.out]; rfl)); intro w1 hw1; have n0_ : Aside0 (Below w.heap.size w w1) := ⟨by rw [hw1]; refine setRow_below ?_ G7.out; repeat (first | exact HB.out | apply below_alloc | apply pw_below_drewN | apply below_drew1)⟩; have n1_ : Aside0 (w1.heap[g7]? = some (.cells (((impl_blockHash.step kk W64 V i).map (Value.int .u32)).toArray) 37 (0, 0))) := ⟨by rw [hw1]; exact setRow_self (blk_drewN B7.out _)⟩; have n2_ : Aside0 (w1.heap[g3]? = some (.cells ((words.map (Value.int .u32)).toArray) 37 (0, 0))) := ⟨by rw [hw1]; exact (setRow_other N73.out).trans (blk_drewN B3.out _)⟩; have n3_ : Aside0 (w1.heap[g4]? = some (.cells ((kk.map (Value.int .u32)).toArray) 39 (0, 0))) := ⟨by rw [hw1]; exact (setRow_other (blk_ne B7.out B4.out (by decide))).trans (blk_drewN B4.out _)⟩; have n4_ : Aside0 (w1.heap[g6]? = some (.cells (((List.replicate 8 (0 : Int)).map (Value.int .u32)).toArray) 37 (0, 0))) := ⟨by rw [hw1]; exact (setRow_other N76.out).trans (blk_drewN B6.out _)⟩; have n5_ : Aside0 (w1.heap[g8]? = some (.cells ((W64.map (Value.int .u32)).toArray) 39 (0, 0))) := ⟨by rw [hw1]; exact (setRow_other (blk_ne B7.out B8.out (by decide))).trans (blk_drewN B8.out _)⟩; clear B3 B4 B6 B7 B8 HB v0 v1 v2 v3 v4 v5 v6 v7 vk vw hw1; have HB := n0_; have B7 := n1_; have B3 := n2_; have B4 := n3_; have B6 := n4_; have B8 := n5_; clear n0_ n1_ n2_ n3_ n4_ n5_))
      go_roundg k1
      case measure => omega
      case rel =>
        have hR : impl_blockHash.rounds kk W64 words (i + 1) = impl_blockHash.step kk W64 V i := by rw [HV.out]; rfl
        refine ⟨i + 1, by rw [INC.out], ⟨by have := HI.out; omega⟩, ⟨?_⟩, ⟨B3.out⟩, ⟨B4.out⟩, ⟨B6.out⟩, ⟨B8.out⟩, ⟨HB.out⟩⟩
        rw [hR]
        exact B7.out

end Go.Proofs.YtggemblkhckbpaaDoor.Q

namespace Go.Proofs.YtggemblkhckbpaaDoor.Q
open Go.RowKit Go.Proofs.YtggemblkhckbpaaDoorW.PrintWords Go.Proofs.YtggemblkhckbpaaDoorW.PrintLast Go.Proofs.YtggemblkhckbpaaDoorW.PrintMore
attribute [local go_sem] max2_int min2_int max_two min_two max_three min_three max_four min_four   -- for this text's walks alone
set_option linter.unusedVariables false
set_option linter.unusedSimpArgs false

/-! ### impl_hash: function 11 -/
def impl_hash.st (K W0 : List Int) (t : ByteArray) : Nat → List Int
  | 0 => W0
  | i + 1 => impl_blockHash.out (impl_hash.st K W0 t i) K (t.extract (64 * i) (64 * i + 64))
def impl_hash.n4 (n : Int) : ByteArray := strOfNums [n / 256 / 256 / 256 % 256, n / 256 / 256 % 256, n / 256 % 256, n % 256]
def impl_hash.n8 (n : Int) : ByteArray := strOfNums [n / 256 / 256 / 256 / 256 / 256 / 256 / 256 % 256, n / 256 / 256 / 256 / 256 / 256 / 256 % 256, n / 256 / 256 / 256 / 256 / 256 % 256, n / 256 / 256 / 256 / 256 % 256, n / 256 / 256 / 256 % 256, n / 256 / 256 % 256, n / 256 % 256, n % 256]
theorem impl_hash.step (k : Nat) (x0 : Int) (x5 : List Int) (i : Int) (h : 0 ≤ i) (h2 : i < (x5.length : Int)) : impl_number.l0 (k + 1) x0 x5 i = impl_number.l0 k (x0 / 256) (x5.set i.toNat (x0 % 256)) (wrap64 (i - 1)) := by
  rw [impl_number.l0, if_pos h, if_pos h, if_pos h2]
theorem impl_hash.stop (k : Nat) (x0 : Int) (x5 : List Int) (i : Int) (h : ¬ 0 ≤ i) : impl_number.l0 (k + 1) x0 x5 i = some (strOfNums x5) := by
  rw [impl_number.l0, if_neg h]
theorem impl_hash.num4 (n : Int) : impl_number.f 6 n 4 = some (impl_hash.n4 n) := by
  unfold impl_number.f
  rw [if_pos (by decide), if_pos (by decide)]
  rw [show (List.replicate (Int.toNat 4) (0 : Int)) = [0, 0, 0, 0] from rfl, show wrap64 ((4 : Int) - 1) = 3 from by kernel_rfl]
  rw [impl_hash.step 5 (n) [0, 0, 0, 0] 3 (by decide) (by simp)]
  rw [show wrap64 ((3 : Int) - 1) = 2 from by kernel_rfl]
  show impl_number.l0 5 (n / 256) [0, 0, 0, n % 256] (2) = _
  rw [impl_hash.step 4 (n / 256) [0, 0, 0, n % 256] 2 (by decide) (by simp)]
  rw [show wrap64 ((2 : Int) - 1) = 1 from by kernel_rfl]
  show impl_number.l0 4 (n / 256 / 256) [0, 0, n / 256 % 256, n % 256] (1) = _
  rw [impl_hash.step 3 (n / 256 / 256) [0, 0, n / 256 % 256, n % 256] 1 (by decide) (by simp)]
  rw [show wrap64 ((1 : Int) - 1) = 0 from by kernel_rfl]
  show impl_number.l0 3 (n / 256 / 256 / 256) [0, n / 256 / 256 % 256, n / 256 % 256, n % 256] (0) = _
  rw [impl_hash.step 2 (n / 256 / 256 / 256) [0, n / 256 / 256 % 256, n / 256 % 256, n % 256] 0 (by decide) (by simp)]
  rw [show wrap64 ((0 : Int) - 1) = (-1) from by kernel_rfl]
  show impl_number.l0 2 (n / 256 / 256 / 256 / 256) [n / 256 / 256 / 256 % 256, n / 256 / 256 % 256, n / 256 % 256, n % 256] (-1) = _
  rw [impl_hash.stop 1 (n / 256 / 256 / 256 / 256) _ (-1) (by decide)]
  rfl
theorem impl_hash.num8 (n : Int) : impl_number.f 10 n 8 = some (impl_hash.n8 n) := by
  unfold impl_number.f
  rw [if_pos (by decide), if_pos (by decide)]
  rw [show (List.replicate (Int.toNat 8) (0 : Int)) = [0, 0, 0, 0, 0, 0, 0, 0] from rfl, show wrap64 ((8 : Int) - 1) = 7 from by kernel_rfl]
  rw [impl_hash.step 9 (n) [0, 0, 0, 0, 0, 0, 0, 0] 7 (by decide) (by simp)]
  rw [show wrap64 ((7 : Int) - 1) = 6 from by kernel_rfl]
  show impl_number.l0 9 (n / 256) [0, 0, 0, 0, 0, 0, 0, n % 256] (6) = _
  rw [impl_hash.step 8 (n / 256) [0, 0, 0, 0, 0, 0, 0, n % 256] 6 (by decide) (by simp)]
  rw [show wrap64 ((6 : Int) - 1) = 5 from by kernel_rfl]
  show impl_number.l0 8 (n / 256 / 256) [0, 0, 0, 0, 0, 0, n / 256 % 256, n % 256] (5) = _
  rw [impl_hash.step 7 (n / 256 / 256) [0, 0, 0, 0, 0, 0, n / 256 % 256, n % 256] 5 (by decide) (by simp)]
  rw [show wrap64 ((5 : Int) - 1) = 4 from by kernel_rfl]
  show impl_number.l0 7 (n / 256 / 256 / 256) [0, 0, 0, 0, 0, n / 256 / 256 % 256, n / 256 % 256, n % 256] (4) = _
  rw [impl_hash.step 6 (n / 256 / 256 / 256) [0, 0, 0, 0, 0, n / 256 / 256 % 256, n / 256 % 256, n % 256] 4 (by decide) (by simp)]
  rw [show wrap64 ((4 : Int) - 1) = 3 from by kernel_rfl]
  show impl_number.l0 6 (n / 256 / 256 / 256 / 256) [0, 0, 0, 0, n / 256 / 256 / 256 % 256, n / 256 / 256 % 256, n / 256 % 256, n % 256] (3) = _
  rw [impl_hash.step 5 (n / 256 / 256 / 256 / 256) [0, 0, 0, 0, n / 256 / 256 / 256 % 256, n / 256 / 256 % 256, n / 256 % 256, n % 256] 3 (by decide) (by simp)]
  rw [show wrap64 ((3 : Int) - 1) = 2 from by kernel_rfl]
  show impl_number.l0 5 (n / 256 / 256 / 256 / 256 / 256) [0, 0, 0, n / 256 / 256 / 256 / 256 % 256, n / 256 / 256 / 256 % 256, n / 256 / 256 % 256, n / 256 % 256, n % 256] (2) = _
  rw [impl_hash.step 4 (n / 256 / 256 / 256 / 256 / 256) [0, 0, 0, n / 256 / 256 / 256 / 256 % 256, n / 256 / 256 / 256 % 256, n / 256 / 256 % 256, n / 256 % 256, n % 256] 2 (by decide) (by simp)]
  rw [show wrap64 ((2 : Int) - 1) = 1 from by kernel_rfl]
  show impl_number.l0 4 (n / 256 / 256 / 256 / 256 / 256 / 256) [0, 0, n / 256 / 256 / 256 / 256 / 256 % 256, n / 256 / 256 / 256 / 256 % 256, n / 256 / 256 / 256 % 256, n / 256 / 256 % 256, n / 256 % 256, n % 256] (1) = _
  rw [impl_hash.step 3 (n / 256 / 256 / 256 / 256 / 256 / 256) [0, 0, n / 256 / 256 / 256 / 256 / 256 % 256, n / 256 / 256 / 256 / 256 % 256, n / 256 / 256 / 256 % 256, n / 256 / 256 % 256, n / 256 % 256, n % 256] 1 (by decide) (by simp)]
  rw [show wrap64 ((1 : Int) - 1) = 0 from by kernel_rfl]
  show impl_number.l0 3 (n / 256 / 256 / 256 / 256 / 256 / 256 / 256) [0, n / 256 / 256 / 256 / 256 / 256 / 256 % 256, n / 256 / 256 / 256 / 256 / 256 % 256, n / 256 / 256 / 256 / 256 % 256, n / 256 / 256 / 256 % 256, n / 256 / 256 % 256, n / 256 % 256, n % 256] (0) = _
  rw [impl_hash.step 2 (n / 256 / 256 / 256 / 256 / 256 / 256 / 256) [0, n / 256 / 256 / 256 / 256 / 256 / 256 % 256, n / 256 / 256 / 256 / 256 / 256 % 256, n / 256 / 256 / 256 / 256 % 256, n / 256 / 256 / 256 % 256, n / 256 / 256 % 256, n / 256 % 256, n % 256] 0 (by decide) (by simp)]
  rw [show wrap64 ((0 : Int) - 1) = (-1) from by kernel_rfl]
  show impl_number.l0 2 (n / 256 / 256 / 256 / 256 / 256 / 256 / 256 / 256) [n / 256 / 256 / 256 / 256 / 256 / 256 / 256 % 256, n / 256 / 256 / 256 / 256 / 256 / 256 % 256, n / 256 / 256 / 256 / 256 / 256 % 256, n / 256 / 256 / 256 / 256 % 256, n / 256 / 256 / 256 % 256, n / 256 / 256 % 256, n / 256 % 256, n % 256] (-1) = _
  rw [impl_hash.stop 1 (n / 256 / 256 / 256 / 256 / 256 / 256 / 256 / 256) _ (-1) (by decide)]
  rfl
def impl_hash.zeros (n : Nat) : ByteArray := ⟨(Lib.repeatL (⟨#[0]⟩ : ByteArray).data.toList n).toArray⟩
def impl_hash.tx (ST : List Int) : Nat → ByteArray
  | 0 => ⟨#[]⟩
  | j + 1 => impl_hash.tx ST j ++ impl_hash.n4 (wrap64 (rd ST (j : Int)))
theorem impl_hash.out_len (words kk : List Int) (b : ByteArray) (h : words.length = 8) : (impl_blockHash.out words kk b).length = 8 := by
  unfold impl_blockHash.out
  rw [impl_blockHash.adds_len, impl_blockHash.rounds_len _ _ _ h]
theorem impl_hash.st_len (K W0 : List Int) (t : ByteArray) (h : W0.length = 8) : ∀ i, (impl_hash.st K W0 t i).length = 8
  | 0 => h
  | i + 1 => impl_hash.out_len _ _ _ (impl_hash.st_len K W0 t h i)
theorem impl_hash.n4_size (n : Int) : (impl_hash.n4 n).size = 4 := by simp [impl_hash.n4, strOfNums, ByteArray.size]
theorem impl_hash.tx_size (ST : List Int) : ∀ j, (impl_hash.tx ST j).size = 4 * j
  | 0 => rfl
  | j + 1 => by unfold impl_hash.tx; rw [ByteArray.size_append, impl_hash.tx_size ST j, impl_hash.n4_size]; omega
theorem impl_hash.zeros_size (n : Nat) : (impl_hash.zeros n).size = n := by
  have key : ∀ n : Nat, (Lib.repeatL [(0 : UInt8)] n).length = n := by
    intro n
    induction n with
    | zero => rfl
    | succ n ih => simp [Lib.repeatL, ih]
  show (Lib.repeatL [(0 : UInt8)] n).toArray.size = n
  rw [List.size_toArray, key]
theorem impl_hash.n8_size (n : Int) : (impl_hash.n8 n).size = 8 := by simp [impl_hash.n8, strOfNums, ByteArray.size]
theorem impl_hash.index_row {W : World} {L : List Int} {j : Nat} (hL : L.length = 8) (hj : j < 8) : (Instr.index 37 (.agg ((L.map (Value.int .u32)).toArray)) (.int .i64 (j : Int))).run Tryd.prog W = .ok (.int .u32 (rd L (j : Int))) W := by
  have hu8 := Tryd.underlying37
  have hu36 := Tryd.underlying36
  have ld := arr_get (L := L) (i := j) (by omega)
  have hi : (Tryd.prog.info? 36).map (·.size) = some 1 := by kernel_rfl
  have hj8 : ((j : Int) < 8) := by omega
  cases hq : Tryd.prog.info? 36 with
  | none => rw [hq] at hi; cases hi
  | some ti =>
    have hs : ti.size = 1 := by rw [hq] at hi; exact Option.some.inj hi
    unfold Instr.index
    simp [asIntOf, hu8, hu36, part, isAgg, sizeOf, typeInfo, hq, hs, hj8, Sem.run_bind, run_underlying]
    rw [List.getElem?_toArray, List.getElem?_map] at ld
    rw [if_pos hj, ld]
    rfl
def impl_hash.v (s : ByteArray) : ByteArray := impl_hash.tx (impl_hash.st (impl_roundWords.f.getD []) (impl_hashWords.f.getD []) (((s ++ (⟨#[128]⟩ : ByteArray)) ++ impl_hash.zeros ((119 - s.size % 64) % 64)) ++ impl_hash.n8 (8 * (s.size : Int))) ((((s ++ (⟨#[128]⟩ : ByteArray)) ++ impl_hash.zeros ((119 - s.size % 64) % 64)) ++ impl_hash.n8 (8 * (s.size : Int))).size / 64)) 8
def impl_hash.T6 : Bool × List (List Nat × List Nat) := (true, [([], []), ([], []), ([], []), ([], []), ([], []), ([4], [4]), ([2, 3, 5], [2, 3, 5]), ([0, 1, 6], [0, 1, 6]), ([7, 7, 0, 1, 2, 3, 4, 5, 6, 7], [7])])
def impl_hash.B6 : List Nat := [0, 0, 0, 0, 0, 16, 60, 127, 255]
theorem impl_hash.tab6 : rtab .any (opsOf Tryd.f11 6) = impl_hash.T6 := by kernel_rfl
theorem impl_hash.bits6 : waitsOk impl_hash.T6.2 impl_hash.B6 = true := by kernel_rfl
set_option maxHeartbeats 8000000 in
set_option maxRecDepth 100000 in
theorem impl_hash.run (s : ByteArray) (w : World) (hs : s.size ≤ 1000000) :
    Calls Tryd.prog 11 #[.string s] w fun e w' => e = .returned (.string (impl_hash.v s)) ∧ Below w.heap.size w w' := by
  have hu8 := Tryd.underlying37
  have hu64 := Tryd.underlying39
  have hu9 := Tryd.underlying9
  have HB := Aside0.mk (Below.refl w.heap.size w)
  go_enter Tryd.func11, Tryd.ntmps11
  obtain ⟨c, hc⟩ : ∃ c : Nat, c = (119 - s.size % 64) % 64 := ⟨_, rfl⟩
  have hc64 : c < 64 := by rw [hc]; omega
  have e16 : (119 - (s.size : Int) % 64) % 64 = (c : Int) := by omega
  have hr : strings_Repeat.f (⟨#[0]⟩ : ByteArray) (c : Int) = some (impl_hash.zeros c) := by
    unfold strings_Repeat.f impl_hash.zeros
    rw [if_pos ⟨by omega, by omega, by decide⟩, Int.toNat_natCast]
  have HR := Aside0.mk hr
  have HCC := Aside0.mk hc
  have hz := impl_hash.zeros_size c
  have h8 := impl_hash.n8_size (8 * (s.size : Int))
  clear hc
  have HN := Aside0.mk (impl_hash.num8 (8 * (s.size : Int)))
  clear hr
  go_upto_region 2 with (first
    | ((with_reducible refine gate_dst (N := 17) rfl ?_); refine goesL_ (some 17) rfl rfl Tryd.func20 (by kernel_rfl) rfl #[.string (⟨#[0]⟩ : ByteArray), .int .i64 (c : Int)] rfl (by (try simp only [List.map_toArray, List.map_cons, List.map_nil]); first | done | rfl | (rw [← e16]; rfl)) ?_; (with_reducible refine (strings_Repeat.calls _ _ _ _ HR.out).mono ?_); rintro e w_ ⟨rfl, hb⟩; refine ⟨_, rfl, ?_⟩; have n0_ := Aside0.mk (below_step (by repeat (first | exact HB.out | apply below_alloc | apply pw_below_drewN | apply below_drew1)) hb); clear HB; have HB := n0_; clear n0_ hb)
    | ((with_reducible refine gate_dst (N := 22) rfl ?_); refine goesL_ (some 22) rfl rfl Tryd.func21 (by kernel_rfl) rfl #[.int .i64 (8 * (s.size : Int)), .int .i64 8] rfl (by (try simp only [List.map_toArray, List.map_cons, List.map_nil]); first | done | rfl) ?_; (with_reducible refine (impl_number.calls 10 _ _ _ _ HN.out).mono ?_); rintro e w_ ⟨rfl, hb⟩; refine ⟨_, rfl, ?_⟩; have n0_ := Aside0.mk (below_step (by repeat (first | exact HB.out | apply below_alloc | apply pw_below_drewN | apply below_drew1)) hb); clear HB; have HB := n0_; clear n0_ hb))
  obtain ⟨ALL, hALL⟩ : ∃ t : ByteArray, t = ((s ++ (⟨#[128]⟩ : ByteArray)) ++ impl_hash.zeros c) ++ impl_hash.n8 (8 * (s.size : Int)) := ⟨_, rfl⟩
  have hsz : ALL.size = s.size + 1 + c + 8 := by
    rw [hALL, ByteArray.size_append, ByteArray.size_append, ByteArray.size_append, hz, h8]
    rfl
  rw [← hALL]
  obtain ⟨nb, hnb⟩ : ∃ n : Nat, ALL.size = 64 * n := ⟨ALL.size / 64, by rw [hsz]; have := HCC.out; omega⟩
  have HALL := Aside0.mk hALL
  have HNB := Aside0.mk hnb
  have HSZ := Aside0.mk hsz
  clear hALL hnb hsz hz h8 e16 HR HN
  obtain ⟨W0, hW0⟩ : ∃ l : List Int, impl_hashWords.f = some l := ⟨_, rfl⟩
  obtain ⟨KK, hK⟩ : ∃ l : List Int, impl_roundWords.f = some l := ⟨_, rfl⟩
  have lW : W0.length = 8 := by have e := Option.some.inj hW0; rw [← e]; rfl
  have lK : KK.length = 64 := by have e := Option.some.inj hK; rw [← e]; rfl
  have HW0 := Aside0.mk hW0
  have HK := Aside0.mk hK
  have LW := Aside0.mk lW
  have LK := Aside0.mk lK
  clear hW0 hK lW lK
  go_wp2_with (first
    | ((with_reducible refine gate_dst (N := 24) rfl ?_); refine goesL_ (some 24) rfl rfl Tryd.func22 (by kernel_rfl) rfl #[] rfl (by (try simp only [List.map_toArray, List.map_cons, List.map_nil]); first | done | rfl) ?_; (with_reducible refine (impl_hashWords.calls _ _ HW0.out).mono ?_); rintro e w_ ⟨rfl, hb⟩; refine ⟨_, rfl, ?_⟩; have n0_ := Aside0.mk (below_step (by repeat (first | exact HB.out | apply below_alloc | apply pw_below_drewN | apply below_drew1)) hb); clear HB; have HB := n0_; clear n0_; clear hb)
    | ((with_reducible refine gate_dst (N := 25) rfl ?_); refine goesL_ (some 25) rfl rfl Tryd.func23 (by kernel_rfl) rfl #[] rfl (by (try simp only [List.map_toArray, List.map_cons, List.map_nil]); first | done | rfl) ?_; (with_reducible refine (impl_roundWords.calls _ _ HK.out).mono ?_); rintro e w_ ⟨rfl, hb⟩; refine ⟨_, rfl, ?_⟩; have n0_ := Aside0.mk (below_step (by repeat (first | exact HB.out | apply below_alloc | apply pw_below_drewN | apply below_drew1)) hb); clear HB; have HB := n0_; clear n0_; clear hb)
    | ((with_reducible refine gate_dst (N := 4) rfl ?_); refine box_event ?hg (N := 4) ?hd (cs := (((List.replicate 8 (0 : Int)).map (Value.int .u32)).toArray)) (t := 37) ?hr ?_; (case hd => rfl); (case hg => rfl); (case hr => first | (go_simp; done) | (go_simp; rfl)); intro g4 hg w_ hbox hb; have G4 := Aside0.mk ((by rw [hg]; exact below_size (show Below w.heap.size w _ from by repeat (first | exact HB.out | apply below_alloc | apply pw_below_drewN | apply below_drew1))) : w.heap.size ≤ g4); have n0_ := Aside0.mk (below_step (by repeat (first | exact HB.out | apply below_alloc | apply pw_below_drewN | apply below_drew1)) hb); clear HB; have HB := n0_; clear n0_; have B4 := Aside0.mk hbox; clear hb hbox hg)
    | ((with_reducible refine gate_dst (N := 5) rfl ?_); refine box_event ?hg (N := 5) ?hd (cs := (((List.replicate 64 (0 : Int)).map (Value.int .u32)).toArray)) (t := 39) ?hr ?_; (case hd => rfl); (case hg => rfl); (case hr => first | (go_simp; done) | (go_simp; rfl)); intro g5 hg w_ hbox hb; have G5 := Aside0.mk ((by rw [hg]; exact below_size (show Below w.heap.size w _ from by repeat (first | exact HB.out | apply below_alloc | apply pw_below_drewN | apply below_drew1))) : w.heap.size ≤ g5); have n0_ := Aside0.mk (blk_below B4.out hb); have n1_ := Aside0.mk (below_step (by repeat (first | exact HB.out | apply below_alloc | apply pw_below_drewN | apply below_drew1)) hb); clear B4 HB; have B4 := n0_; have HB := n1_; clear n0_ n1_; have B5 := Aside0.mk hbox; clear hb hbox hg)
    | ((with_reducible refine gate_store (t := 37) (p := 4) rfl ?_); refine row_event2 rfl 37 (.tmp 4) (.tmp 24) rfl g4 ((W0.map (Value.int .u32)).toArray) ?hx ?hy B4.out ?hi ?ho arr_one ?_; (case hx => rfl); (case hy => rfl); (case hi => (rw [arr_size, LW.out]; kernel_rfl)); (case ho => (rw [arr_size, arr_size, LW.out]; rfl)); intro w1 hw1; have n0_ : Aside0 (Below w.heap.size w w1) := ⟨by rw [hw1]; exact setRow_below HB.out G4.out⟩; have n1_ : Aside0 (w1.heap[g4]? = some (.cells ((W0.map (Value.int .u32)).toArray) 37 (0, 0))) := ⟨by rw [hw1]; exact setRow_self B4.out⟩; have m0_ : Aside0 (w1.heap[g5]? = some (.cells (((List.replicate 64 (0 : Int)).map (Value.int .u32)).toArray) 39 (0, 0))) := ⟨by rw [hw1]; exact (setRow_other (blk_ne B4.out B5.out (by decide))).trans B5.out⟩; clear B4 HB B5 hw1; have HB := n0_; have B4 := n1_; have B5 := m0_; clear n0_ n1_ m0_)
    | ((with_reducible refine gate_store (t := 39) (p := 5) rfl ?_); refine row_event2 rfl 39 (.tmp 5) (.tmp 25) rfl g5 ((KK.map (Value.int .u32)).toArray) ?hx ?hy B5.out ?hi ?ho arr_one ?_; (case hx => rfl); (case hy => rfl); (case hi => (rw [arr_size, LK.out]; kernel_rfl)); (case ho => (rw [arr_size, arr_size, LK.out]; rfl)); intro w1 hw1; have n0_ : Aside0 (Below w.heap.size w w1) := ⟨by rw [hw1]; exact setRow_below HB.out G5.out⟩; have n1_ : Aside0 (w1.heap[g5]? = some (.cells ((KK.map (Value.int .u32)).toArray) 39 (0, 0))) := ⟨by rw [hw1]; exact setRow_self B5.out⟩; have m0_ : Aside0 (w1.heap[g4]? = some (.cells ((W0.map (Value.int .u32)).toArray) 37 (0, 0))) := ⟨by rw [hw1]; exact (setRow_other (blk_ne B5.out B4.out (by decide))).trans B4.out⟩; clear B5 HB B4 hw1; have HB := n0_; have B5 := n1_; have B4 := m0_; clear n0_ n1_ m0_))
  go_loopg [6] nb (fun kq v6 w' => ∃ i : Nat, v6 = .int .i64 ((64 * i : Nat) : Int) ∧ Aside0 (i + kq = nb) ∧ Aside0 (w'.heap[g4]? = some (.cells (((impl_hash.st KK W0 ALL i).map (Value.int .u32)).toArray) 37 (0, 0))) ∧ Aside0 (w'.heap[g5]? = some (.cells ((KK.map (Value.int .u32)).toArray) 39 (0, 0))) ∧ Aside0 (Below w.heap.size w w'))
  case atStart => exact ⟨0, rfl, ⟨by omega⟩, ⟨by repeat (first | exact B4.out | apply blk_drew | apply blk_drewN)⟩, ⟨by repeat (first | exact B5.out | apply blk_drew | apply blk_drewN)⟩, ⟨by repeat (first | exact HB.out | apply below_alloc | apply pw_below_drewN | apply below_drew1)⟩⟩
  case round =>
    clear B4 B5 HB
    obtain ⟨i, rfl, HI, B4, B5, HB⟩ := hrel
    cases gk with
    | zero =>
      have hi : i = nb := HI.out
      subst hi
      have hn : (64 * i : Nat) = ALL.size := HNB.out.symm
      rw [hn]
      obtain ⟨ST, hST⟩ : ∃ l : List Int, l = impl_hash.st KK W0 ALL i := ⟨_, rfl⟩
      rw [← hST] at B4
      have L8 := Aside0.mk (show ST.length = 8 by rw [hST]; exact impl_hash.st_len KK W0 ALL LW.out i)
      have HOUT := Aside0.mk (show impl_hash.v s = impl_hash.tx ST 8 by
        unfold impl_hash.v
        rw [hST]
        have eW := HW0.out
        have eK := HK.out
        have eA := HALL.out
        have eC := HCC.out
        have eN := HNB.out
        rw [← eC, ← eA, eN, Nat.mul_div_cancel_left _ (by decide : 0 < 64), eW, eK]
        rfl)
      have HST := Aside0.mk hST
      clear hST hn HI
      go_wp2_with (first
        | ((with_reducible refine gate_dst (N := 40) rfl ?_); refine wpList_load_row rfl 37 (.tmp 4) rfl g4 ?hx _ ((ST.map (Value.int .u32)).toArray) (0, 0) _ B4.out hu8 rfl ?hi ?_; (case hx => rfl); (case hi => (rw [arr_size, L8.out]; kernel_rfl))))
      go_loopg [7, 41] 8 (fun kq v7 v41 w' => ∃ j : Nat, v41 = .int .i64 (j : Int) ∧ v7 = .string (impl_hash.tx ST j) ∧ Aside0 (j + kq = 8) ∧ Aside0 (Below w.heap.size w w'))
      case atStart => exact ⟨0, rfl, rfl, ⟨rfl⟩, ⟨by repeat (first | exact HB.out | apply below_alloc | apply pw_below_drewN | apply below_drew1)⟩⟩
      case round =>
        clear B4 B5 HB
        obtain ⟨j, rfl, rfl, HI, HB⟩ := hrel
        cases gk with
        | zero =>
          have hi : j = 8 := HI.out
          subst hi
          go_wp2
          go_ret
          exact ⟨by rw [HOUT.out]; rfl, HB.out⟩
        | succ k1 =>
          have hi := HI.out
          have hi8 : (j : Int) < 8 := by omega
          have c8 : decide ((j : Int) < 8) = true := decide_eq_true hi8
          have x8 : ((j : Int) < 8) = True := eq_true hi8
          have z0 : (0 ≤ (j : Int)) = True := eq_true (by omega)
          have ld := fun W : World => impl_hash.index_row (W := W) L8.out (j := j) (by omega)
          have HN4 := Aside0.mk (impl_hash.num4 (wrap64 (rd ST (j : Int))))
          have t1 := impl_hash.tx_size ST j
          have t2 := impl_hash.n4_size (wrap64 (rd ST (j : Int)))
          have INC := Aside0.mk (show wrap64 ((j : Int) + 1) = ((j + 1 : Nat) : Int) by rw [IntWalk.wrap64_in _ ⟨by omega, by omega⟩]; rfl)
          clear hi
          go_wp2_with (first
            | ((with_reducible refine gate_dst (N := 47) rfl ?_); refine goesL_ (some 47) rfl rfl Tryd.func21 (by kernel_rfl) rfl #[.int .i64 (wrap64 (rd ST (j : Int))), .int .i64 4] rfl (by (try simp only [List.map_toArray, List.map_cons, List.map_nil]); first | done | rfl) ?_; (with_reducible refine (impl_number.calls 6 _ _ _ _ HN4.out).mono ?_); rintro e w_ ⟨rfl, hb⟩; refine ⟨_, rfl, ?_⟩; have n0_ := Aside0.mk (below_step (by repeat (first | exact HB.out | apply below_alloc | apply pw_below_drewN | apply below_drew1)) hb); clear HB; have HB := n0_; clear n0_ hb))
          go_roundg k1
          case measure => omega
          case rel => exact ⟨j + 1, by first | rfl | rw [INC.out], rfl, ⟨by have := HI.out; omega⟩, HB⟩
    | succ k1 =>
      have hi := HI.out
      have hlt : (((64 * i : Nat) : Int) < (ALL.size : Int)) := by rw [HNB.out]; omega
      have c1 : decide (((64 * i : Nat) : Int) < (ALL.size : Int)) = true := decide_eq_true hlt
      have hsm : ALL.size ≤ 1000100 := by rw [HSZ.out]; omega
      obtain ⟨a0, ha0⟩ : ∃ n : Nat, n = 64 * i := ⟨_, rfl⟩
      rw [← ha0]
      rw [← ha0] at hlt c1
      have inc : wrap64 ((a0 : Int) + 64) = (a0 : Int) + 64 := IntWalk.wrap64_in _ ⟨by omega, by omega⟩
      have hle : a0 + 64 ≤ ALL.size := by rw [HNB.out, ha0]; omega
      have sl : ∀ W : World, (Instr.slice 9 (.string ALL) (some (.int .i64 (a0 : Int))) (some (.int .i64 ((a0 : Int) + 64))) none).run Tryd.prog W = .ok (.string (ALL.extract a0 (a0 + 64))) W := fun W => by
        have e := run_slice_string (P := Tryd.prog) W 9 ALL .i64 .i64 (a0 : Int) ((a0 : Int) + 64) hu9 (by omega) (by omega) (by omega)
        rwa [show ((a0 : Int) + 64).toNat = a0 + 64 by omega, Int.toNat_natCast] at e
      have x1 : ((a0 : Int) < (ALL.size : Int)) = True := eq_true hlt
      have x2 : (a0 < ALL.size) = True := eq_true (by omega)
      have L8 := Aside0.mk (show (impl_hash.st KK W0 ALL i).length = 8 from impl_hash.st_len KK W0 ALL LW.out i)
      have HA0 := Aside0.mk ha0
      have HLT := Aside0.mk hlt
      have HLE := Aside0.mk hle
      have HSM := Aside0.mk hsm
      clear hi hlt hsm ha0 hle
      obtain ⟨ST, hST⟩ : ∃ l : List Int, l = impl_hash.st KK W0 ALL i := ⟨_, rfl⟩
      rw [← hST] at B4 L8
      have HST := Aside0.mk hST
      clear hST
      have ext64 : (ALL.extract a0 (a0 + 64)).size = 64 := by rw [ByteArray.size_extract]; have := HLE.out; omega
      have E64 := Aside0.mk ext64
      clear ext64
      go_upto_region 6 with (fail)
      try go_wp2
      have n0_ := Aside0.mk (blk_drew B4.out)
      have n1_ := Aside0.mk (blk_drew B5.out)
      clear B4 B5
      have B4 := n0_
      have B5 := n1_
      clear n0_ n1_
      have n0_ := Aside0.mk (below_drew1 HB.out)
      clear HB
      have HB := n0_
      clear n0_
      refine start_ (n := 9) (S := fun w' => w'.heap[g4]? = some (.cells ((ST.map (Value.int .u32)).toArray) 37 (0, 0)) ∧ w'.heap[g5]? = some (.cells ((KK.map (Value.int .u32)).toArray) 39 (0, 0))) (ds := [8]) #[false, false, false, false, false, false, false, false, false] (by kernel_rfl) rfl rfl ⟨B4.out, B5.out⟩ (fun hHeld => ?_); refine with_tabW impl_hash.tab6 impl_hash.bits6 (fun HT_ HW_ => ?_)
      generalize wr.drew = wd_ at B4 B5 HB hHeld ⊢
      refine take_ (i := 0) (N := some 32) (v := ?_) (a' := ?_) #[true, false, false, false, false, false, false, false, false] rfl rfl (take_ofW HT_.out HW_.out (by kernel_rfl)) (fun _ _ _ h => h) (Or.inl ⟨by rfl, ?_⟩) hHeld ?_ ?_
      rotate_left
      · rintro w' ⟨s0, s1⟩
        refine impl_blockHash.exec_load (ty := 37) (x := .tmp 4) ?_ ?_ s0 hu8 rfl ((show _ = some 8 from by kernel_rfl).trans (congrArg some (show 8 = _ by rw [arr_size, L8.out])))
        · rfl
        · rfl
      rotate_left
      · simp only [Act.put, List.setIfInBounds_toArray, List.set_cons_zero, List.set_cons_succ, i64_w, i32_w]
        rfl
      refine take_ (i := 1) (N := some 33) (v := ?_) (a' := ?_) #[true, true, false, false, false, false, false, false, false] rfl rfl (take_ofW HT_.out HW_.out (by kernel_rfl)) (fun _ _ _ h => h) (Or.inl ⟨by rfl, ?_⟩) hHeld ?_ ?_
      rotate_left
      · rintro w' ⟨s0, s1⟩
        refine impl_blockHash.exec_load (ty := 39) (x := .tmp 5) ?_ ?_ s1 hu64 rfl ((show _ = some 64 from by kernel_rfl).trans (congrArg some (show 64 = _ by rw [arr_size, LK.out])))
        · rfl
        · rfl
      rotate_left
      · simp only [Act.put, List.setIfInBounds_toArray, List.set_cons_zero, List.set_cons_succ, i64_w, i32_w]
        rfl
      refine pure_ (i := 2) (N := some 34) (v := ?_) (a' := ?_) #[true, true, true, false, false, false, false, false, false] rfl rfl (any_of HT_.out (by kernel_rfl)) (fun _ _ _ h => h) (Or.inl ⟨by rfl, ?_⟩) ?_ ?_
      rotate_left
      · intro w'
        go_simp
        with_reducible rfl
      rotate_left
      · simp only [Act.put, List.setIfInBounds_toArray, List.set_cons_zero, List.set_cons_succ, i64_w, i32_w]
        rfl
      refine pure_ (i := 3) (N := some 35) (v := ?_) (a' := ?_) #[true, true, true, true, false, false, false, false, false] rfl rfl (any_of HT_.out (by kernel_rfl)) (fun _ _ _ h => h) (Or.inl ⟨by rfl, ?_⟩) ?_ ?_
      rotate_left
      · intro w'
        go_simp
        with_reducible rfl
      rotate_left
      · simp only [Act.put, List.setIfInBounds_toArray, List.set_cons_zero, List.set_cons_succ, i64_w, i32_w]
        rfl
      refine pure_ (i := 4) (N := some 36) (v := ?_) (a' := ?_) #[true, true, true, true, true, false, false, false, false] rfl rfl (any_of HT_.out (by kernel_rfl)) (fun _ _ _ h => h) (Or.inl ⟨by rfl, ?_⟩) ?_ ?_
      rotate_left
      · intro w'
        go_simp
        with_reducible rfl
      rotate_left
      · simp only [Act.put, List.setIfInBounds_toArray, List.set_cons_zero, List.set_cons_succ, i64_w, i32_w]
        rfl
      refine pure_ (i := 5) (N := some 37) (v := ?_) (a' := ?_) #[true, true, true, true, true, true, false, false, false] rfl rfl (any_of HT_.out (by kernel_rfl)) (fun _ _ _ h => h) (Or.inl ⟨by rfl, ?_⟩) ?_ ?_
      rotate_left
      · intro w'
        go_simp
        with_reducible rfl
      rotate_left
      · simp only [Act.put, List.setIfInBounds_toArray, List.set_cons_zero, List.set_cons_succ, i64_w, i32_w]
        rfl
      refine pure_ (i := 6) (N := some 38) (v := ?_) (a' := ?_) #[true, true, true, true, true, true, true, false, false] rfl rfl (any_of HT_.out (by kernel_rfl)) (fun _ _ _ h => h) (Or.inl ⟨by rfl, ?_⟩) ?_ ?_
      rotate_left
      · intro w'
        go_simp
        with_reducible rfl
      rotate_left
      · simp only [Act.put, List.setIfInBounds_toArray, List.set_cons_zero, List.set_cons_succ, i64_w, i32_w]
        rfl
      refine one_ (i := 7) (N := some 39) #[true, true, true, true, true, true, true, true, false] rfl rfl (one_of HT_.out (by kernel_rfl)) (by decide) (fun K hK => ?_)
      refine goes_ Tryd.func24 (by kernel_rfl) rfl #[.agg ((ST.map (Value.int .u32)).toArray), .agg ((KK.map (Value.int .u32)).toArray), .string (ALL.extract a0 (a0 + 64))] (by rfl) rfl rfl (by (try simp only [List.map_toArray, List.map_cons, List.map_nil]); rfl) ?_
      with_reducible refine (impl_blockHash.calls ST KK (ALL.extract a0 (a0 + 64)) _ L8.out LK.out E64.out).mono ?_
      rintro e w_ ⟨rfl, hb⟩
      refine ⟨_, rfl, ?_⟩
      have n0_ := Aside0.mk (blk_below B4.out hb)
      have n1_ := Aside0.mk (blk_below B5.out hb)
      have n2_ := Aside0.mk (below_step (by repeat (first | exact HB.out | apply below_alloc | apply pw_below_drewN | apply below_drew1)) hb)
      clear B4 B5 HB
      have B4 := n0_
      have B5 := n1_
      have HB := n2_
      clear n0_ n1_ n2_
      clear hb
      refine hK.out _ _ ⟨B4.out, B5.out⟩ (fun hHeld => ?_)
      clear hK K
      refine norm_ (a' := ?_) ?_ ?_
      rotate_left
      · show Act.put _ (some 39) _ = _
        simp only [Act.put, List.setIfInBounds_toArray, List.set_cons_zero, List.set_cons_succ, i64_w, i32_w]
        rfl
      refine last_ (i := 8) (N := none) #[true, true, true, true, true, true, true, true, true] rfl rfl (one_of HT_.out (by kernel_rfl)) (by decide) (fun K hK => ?_)
      refine skip_ (w1 := w_.setRow g4 (((impl_blockHash.out ST KK (ALL.extract a0 (a0 + 64))).map (Value.int .u32)).toArray)) (by rfl) rfl ?_ ?_
      · refine impl_blockHash.exec_store (ty := 37) (x := .tmp 4) (y := .tmp 39) ?_ ?_ ?_ B4.out ?_ ?_ arr_one
        · rfl
        · rfl
        · rfl
        · rw [arr_size, impl_hash.out_len _ _ _ L8.out]; kernel_rfl
        · rw [arr_size, arr_size, impl_hash.out_len _ _ _ L8.out, L8.out]
      have n0_ := Aside0.mk (setRow_self (cs := (((impl_blockHash.out ST KK (ALL.extract a0 (a0 + 64))).map (Value.int .u32)).toArray)) B4.out)
      have n1_ := Aside0.mk ((setRow_other (cs := (((impl_blockHash.out ST KK (ALL.extract a0 (a0 + 64))).map (Value.int .u32)).toArray)) (blk_ne B4.out B5.out (by decide))).trans B5.out)
      have n2_ := Aside0.mk (setRow_below (cs := (((impl_blockHash.out ST KK (ALL.extract a0 (a0 + 64))).map (Value.int .u32)).toArray)) HB.out G4.out)
      clear B4 B5 HB
      have B4 := n0_
      have B5 := n1_
      have HB := n2_
      clear n0_ n1_ n2_
      refine hK.out _ _ ?_
      clear hK K
      refine done_ (done_of HT_.out (by kernel_rfl)) ?_
      go_wp2
      go_roundg k1
      case measure => omega
      case rel =>
        have hR : impl_hash.st KK W0 ALL (i + 1) = impl_blockHash.out ST KK (ALL.extract a0 (a0 + 64)) := by rw [HST.out, HA0.out]; rfl
        refine ⟨i + 1, ?_, ⟨by have := HI.out; omega⟩, ⟨?_⟩, ⟨by repeat (first | exact B5.out | apply blk_drew | apply blk_drewN)⟩, ⟨by repeat (first | exact HB.out | apply below_alloc | apply pw_below_drewN | apply below_drew1)⟩⟩
        · first
            | (rw [INC.out, HA0.out]; rfl)
            | (congr 1; have := HA0.out; omega)
        · rw [hR]
          exact B4.out
def impl_hash.f (a0 : ByteArray) : Option ByteArray := if a0.size ≤ 1000000 then some (impl_hash.v a0) else none
theorem impl_hash.calls (a0 : ByteArray) (r : ByteArray) (w : World) (h : impl_hash.f a0 = some r) :
    Calls Tryd.prog 11 #[.string a0] w fun e w' => e = .returned (.string r) ∧ Below w.heap.size w w' := by
  unfold impl_hash.f at h
  split at h
  · rename_i hc
    cases h
    exact impl_hash.run a0 w hc
  · cases h

end Go.Proofs.YtggemblkhckbpaaDoor.Q

namespace Go.Proofs.YtggemblkhckbpaaDoor.Q
open Go.RowKit Go.Proofs.YtggemblkhckbpaaDoorW.PrintWords Go.Proofs.YtggemblkhckbpaaDoorW.PrintLast Go.Proofs.YtggemblkhckbpaaDoorW.PrintMore
attribute [local go_sem] max2_int min2_int max_two min_two max_three min_three max_four min_four   -- for this text's walks alone
set_option linter.unusedVariables false
set_option linter.unusedSimpArgs false

/-! ### impl_Hash: function 4 -/
def impl_Hash.f (l0 : List Int) : Option (ByteArray) := if (l0.length : Int) > 65536 then (some (⟨#[]⟩ : ByteArray)) else ((impl_hash.f (strOfNums l0)).bind fun t109 => (some t109))
set_option maxHeartbeats 8000000 in
set_option maxRecDepth 100000 in
theorem impl_Hash.calls (A0 : Option Addr) (c0 : Nat) (l0 : List Int) (r : ByteArray) (w : World) (hr0 : Kd.C (Kd.int .u8) w A0 l0.length l0) (hc0 : l0.length ≤ c0) (h : impl_Hash.f l0 = some r) :
    Calls Tryd.prog 4 #[.slice A0 l0.length c0] w fun e w' => e = .returned (.string r) ∧ Below w.heap.size w w' := by
  have HR0 := Aside0.mk hr0
  have HC0 := Aside0.mk hc0
  clear hr0 hc0
  have HB := Aside0.mk (Below.refl w.heap.size w)
  have H : (if (l0.length : Int) > 65536 then (some (⟨#[]⟩ : ByteArray)) else ((impl_hash.f (strOfNums l0)).bind fun t109 => (some t109))) = some r := h
  clear h
  by_cases c2 : (l0.length : Int) > 65536
  · rw [if_pos c2] at H
    have c2b0 : decide (65536 < (l0.length : Int)) = true := decide_eq_true c2
    have c2b1 : decide (65536 < l0.length) = true := decide_eq_true (by omega)
    clear c2
    obtain rfl := Option.some.inj H
    go_enter Tryd.func4, Tryd.ntmps4
    go_wp2
    go_ret
    exact ⟨by first | rfl | (simp [errW_none, errW_some] <;> rfl) | (simp [*, errW_none, errW_some] <;> rfl), by repeat (first | (with_reducible first | exact HB.out | apply below_alloc | apply pw_below_drewN | apply below_drew1) | exact HB.out)⟩
  · rw [if_neg c2] at H
    have c2b0 : decide (65536 < (l0.length : Int)) = false := decide_eq_false c2
    have c2b1 : decide (65536 < l0.length) = false := decide_eq_false (by omega)
    clear c2
    replace H := Option.bind_eq_some_iff.mp H
    obtain ⟨t109, A30, H⟩ := H
    replace H : (some t109) = some r := H
    have A3 := Aside0.mk A30
    clear A30
    obtain rfl := Option.some.inj H
    have hcv4 := Kd.C_string (P := Tryd.prog) (A := A0) (c := c0) Tryd.underlying22 Tryd.underlying5 Tryd.underlying9 HR0.out
    go_enter Tryd.func4, Tryd.ntmps4
    go_wp2_with (first | ((with_reducible refine gate_callee (f := 11) rfl ?_); refine goesL_ (some 8) rfl rfl Tryd.func11 (by kernel_rfl) rfl #[.string (strOfNums l0)] rfl (by (try simp only [List.map_toArray, List.map_cons, List.map_nil]); first | done | rfl | (simp only [List.length_drop, List.length_take]; rfl)) ?_; (with_reducible refine (impl_hash.calls (strOfNums l0) t109 _ A3.out).mono ?_); rintro e w5 ⟨rfl, hb⟩; refine ⟨_, rfl, ?_⟩; have n0_ := Aside0.mk (below_step (by repeat (first | (with_reducible first | exact HB.out | apply below_alloc | apply pw_below_drewN | apply below_drew1) | exact HB.out)) hb); clear HB; have HB := n0_; clear n0_; (try clear hb); (try clear hb2); (try clear hk); (try clear hi)))
    go_ret
    exact ⟨by first | rfl | (simp [errW_none, errW_some] <;> rfl) | (simp [*, errW_none, errW_some] <;> rfl), by repeat (first | (with_reducible first | exact HB.out | apply below_alloc | apply pw_below_drewN | apply below_drew1) | exact HB.out)⟩

end Go.Proofs.YtggemblkhckbpaaDoor.Q

namespace Go.Proofs.YtggemblkhckbpaaDoor.Q
open Go.RowKit Go.Proofs.YtggemblkhckbpaaDoorW.PrintWords Go.Proofs.YtggemblkhckbpaaDoorW.PrintLast Go.Proofs.YtggemblkhckbpaaDoorW.PrintMore
attribute [local go_sem] max2_int min2_int max_two min_two max_three min_three max_four min_four   -- for this text's walks alone
set_option linter.unusedVariables false
set_option linter.unusedSimpArgs false

/-! ### slices_IndexFunc_string_string: function 40 -/
/-- slices.IndexFunc over texts, at a plain predicate that captures nothing. -/
theorem slices_IndexFunc_string_string.at_ (g : Nat) (eg : ∀ args w, (callFunc g args).run Tryd.prog w = .ok (.enter g args) w) (p : ByteArray → Bool)
    (hp : ∀ x W, Calls Tryd.prog g #[.string x] W fun e W' => e = .returned (.bool (p x)) ∧ Drawn0 W W')
    (A0 : Option Addr) (c0 : Nat) (l0 : List ByteArray) (w : World) (hr0 : Kd.C Kd.string w A0 l0.length l0) :
    Calls Tryd.prog 40 #[.slice A0 l0.length c0, .func (.func g) #[] #[]] w fun e w' => (∃ r : Int, e = .returned (.int .i64 r) ∧ Aside0 (decide (0 ≤ r) = l0.any p)) ∧ Drawn0 w w' := by
  have HR0 := Aside0.mk hr0
  have hmax : l0.length ≤ 9223372036854775807 := hr0.2.1
  clear hr0
  go_enter Tryd.func40, Tryd.ntmps40
  go_wp2
  go_loopg [5, 8] l0.length (fun gg _ s8 wr => ∃ kk : Nat, kk ≤ l0.length ∧ l0.length - kk ≤ gg ∧ s8 = .int .i64 kk ∧ Aside0 ((l0.take kk).any p = false) ∧ Drawn0 w wr)
  case atStart => exact ⟨0, Nat.zero_le _, by omega, rfl, ⟨rfl⟩, by repeat (first | exact Drawn0.refl _ | apply Drawn0.step)⟩
  case round =>
    obtain ⟨kk, hkk, hg, rfl, A, ⟨m1, rfl⟩⟩ := hrel
    by_cases hlt : kk < l0.length
    · have hltz : (kk : Int) < (l0.length : Int) := by omega
      have p145 : 0 ≤ (kk : Int) := by omega
      obtain ⟨ad145, e145, hx145_0⟩ := Kd.at_string HR0.out kk p145 hltz
      cases e145
      rw [Int.toNat_natCast] at hx145_0
      have hT : Aside0 ((l0.take (kk + 1)).any p = p (rdOf ByteArray.empty l0 kk)) := ⟨by
        have hx : l0[kk]? = some (rdOf ByteArray.empty l0 kk) := by
          simp only [rdOf, Int.toNat_natCast, List.getD_eq_getElem?_getD]
          rw [List.getElem?_eq_getElem hlt]; rfl
        rw [List.take_add_one, hx, List.any_append, A.out]; simp⟩
      generalize rdOf ByteArray.empty l0 kk = x at *
      have hcall := hp x
      clear hp
      cases hq : p x with
      | true =>
        rw [hq] at hcall hT
        clear hq
        go_wp2_with (go_at_fn g; refine (hcall _).mono ?_; rintro e w' ⟨rfl, ⟨q', rfl⟩⟩)
        go_ret
        refine ⟨⟨_, rfl, ⟨?_⟩⟩, by repeat (first | exact Drawn0.refl _ | apply Drawn0.step)⟩
        have h2 : l0.any p = true := by
          have := hT.out
          rw [← List.take_append_drop (kk + 1) l0, List.any_append, this]; rfl
        rw [h2]; simp
      | false =>
        rw [hq] at hcall hT
        clear hq
        go_wp2_with (go_at_fn g; refine (hcall _).mono ?_; rintro e w' ⟨rfl, ⟨q', rfl⟩⟩)
        go_roundg (l0.length - (kk + 1))
        case measure => omega
        case rel => exact ⟨kk + 1, by omega, by omega, by go_num, hT, by repeat (first | exact Drawn0.refl _ | apply Drawn0.step)⟩
    · have hltz : ¬ (kk : Int) < (l0.length : Int) := by omega
      have hkl : Aside0 (kk = l0.length) := ⟨by omega⟩
      go_wp2
      go_ret
      refine ⟨⟨_, rfl, ⟨?_⟩⟩, by repeat (first | exact Drawn0.refl _ | apply Drawn0.step)⟩
      have := A.out
      rw [hkl.out, List.take_length] at this
      rw [this]; rfl

end Go.Proofs.YtggemblkhckbpaaDoor.Q

namespace Go.Proofs.YtggemblkhckbpaaDoor.Q
open Go.RowKit Go.Proofs.YtggemblkhckbpaaDoorW.PrintWords Go.Proofs.YtggemblkhckbpaaDoorW.PrintLast Go.Proofs.YtggemblkhckbpaaDoorW.PrintMore
attribute [local go_sem] max2_int min2_int max_two min_two max_three min_three max_four min_four   -- for this text's walks alone
set_option linter.unusedVariables false
set_option linter.unusedSimpArgs false

/-! ### slices_ContainsFunc_string_string: function 25 -/
theorem slices_ContainsFunc_string_string.at_ (g : Nat) (eg : ∀ args w, (callFunc g args).run Tryd.prog w = .ok (.enter g args) w) (p : ByteArray → Bool)
    (hp : ∀ x W, Calls Tryd.prog g #[.string x] W fun e W' => e = .returned (.bool (p x)) ∧ Drawn0 W W')
    (A0 : Option Addr) (c0 : Nat) (l0 : List ByteArray) (w : World) (hr0 : Kd.C Kd.string w A0 l0.length l0) :
    Calls Tryd.prog 25 #[.slice A0 l0.length c0, .func (.func g) #[] #[]] w fun e w' => e = .returned (.bool (l0.any p)) ∧ Drawn0 w w' := by
  go_enter Tryd.func25, Tryd.ntmps25
  go_wp2_with (go_at_call 40; refine (slices_IndexFunc_string_string.at_ g eg p hp A0 c0 l0 _ hr0).mono ?_; rintro e w' ⟨⟨r, rfl, hr⟩, ⟨q', rfl⟩⟩)
  go_ret
  exact ⟨by rw [← hr.out]; first | rfl | (simp; done), by repeat (first | exact Drawn0.refl _ | apply Drawn0.step)⟩

end Go.Proofs.YtggemblkhckbpaaDoor.Q

namespace Go.Proofs.YtggemblkhckbpaaDoor.Q
open Go.RowKit Go.Proofs.YtggemblkhckbpaaDoorW.PrintWords Go.Proofs.YtggemblkhckbpaaDoorW.PrintLast Go.Proofs.YtggemblkhckbpaaDoorW.PrintMore
attribute [local go_sem] max2_int min2_int max_two min_two max_three min_three max_four min_four   -- for this text's walks alone
set_option linter.unusedVariables false
set_option linter.unusedSimpArgs false

/-! ### impl_isText: function 12 -/
def impl_isText.f (l0 : List ByteArray) : Option Bool := some (!(l0.any fun t => decide ((t.size : Int) > 65536)))
theorem impl_isText.lit (a0 : ByteArray) (w : World) :
    Calls Tryd.prog 26 #[.string a0] w fun e w' => e = .returned (.bool (decide ((a0.size : Int) > 65536))) ∧ Drawn0 w w' := by
  go_enter Tryd.func26, Tryd.ntmps26
  go_wp2
  go_ret
  exact ⟨by first | rfl | (simp; done), by repeat (first | exact Drawn0.refl _ | apply Drawn0.step)⟩
theorem impl_isText.calls (A0 : Option Addr) (c0 : Nat) (l0 : List ByteArray) (r : Bool) (w : World) (hr0 : Kd.C Kd.string w A0 l0.length l0) (hc0 : l0.length ≤ c0) (h : impl_isText.f l0 = some r) :
    Calls Tryd.prog 12 #[.slice A0 l0.length c0] w fun e w' => e = .returned (.bool r) ∧ Drawn0 w w' := by
  obtain rfl := Option.some.inj h
  go_enter Tryd.func12, Tryd.ntmps12
  go_wp2_with (go_at_call 25; refine (slices_ContainsFunc_string_string.at_ 26 (enters_of Tryd.func26 (by kernel_rfl) rfl) _ impl_isText.lit A0 c0 l0 _ hr0).mono ?_; rintro e w' ⟨rfl, ⟨q', rfl⟩⟩)
  go_ret
  exact ⟨rfl, by repeat (first | exact Drawn0.refl _ | apply Drawn0.step)⟩

end Go.Proofs.YtggemblkhckbpaaDoor.Q

namespace Go.Proofs.YtggemblkhckbpaaDoor.Q
open Go.RowKit Go.Proofs.YtggemblkhckbpaaDoorW.PrintWords Go.Proofs.YtggemblkhckbpaaDoorW.PrintLast Go.Proofs.YtggemblkhckbpaaDoorW.PrintMore
attribute [local go_sem] max2_int min2_int max_two min_two max_three min_three max_four min_four   -- for this text's walks alone
set_option linter.unusedVariables false
set_option linter.unusedSimpArgs false

/-! ### impl_isHash: function 13 -/
def impl_isHash.f (l0 : List ByteArray) : Option Bool := some (!(l0.any fun t => ((t.size : Int) != 32)))
theorem impl_isHash.lit (a0 : ByteArray) (w : World) :
    Calls Tryd.prog 27 #[.string a0] w fun e w' => e = .returned (.bool (((a0.size : Int) != 32))) ∧ Drawn0 w w' := by
  go_enter Tryd.func27, Tryd.ntmps27
  go_wp2
  go_ret
  exact ⟨by first | rfl | (simp; done), by repeat (first | exact Drawn0.refl _ | apply Drawn0.step)⟩
theorem impl_isHash.calls (A0 : Option Addr) (c0 : Nat) (l0 : List ByteArray) (r : Bool) (w : World) (hr0 : Kd.C Kd.string w A0 l0.length l0) (hc0 : l0.length ≤ c0) (h : impl_isHash.f l0 = some r) :
    Calls Tryd.prog 13 #[.slice A0 l0.length c0] w fun e w' => e = .returned (.bool r) ∧ Drawn0 w w' := by
  obtain rfl := Option.some.inj h
  go_enter Tryd.func13, Tryd.ntmps13
  go_wp2_with (go_at_call 25; refine (slices_ContainsFunc_string_string.at_ 27 (enters_of Tryd.func27 (by kernel_rfl) rfl) _ impl_isHash.lit A0 c0 l0 _ hr0).mono ?_; rintro e w' ⟨rfl, ⟨q', rfl⟩⟩)
  go_ret
  exact ⟨rfl, by repeat (first | exact Drawn0.refl _ | apply Drawn0.step)⟩

end Go.Proofs.YtggemblkhckbpaaDoor.Q

namespace Go.Proofs.YtggemblkhckbpaaDoor.Q
open Go.RowKit Go.Proofs.YtggemblkhckbpaaDoorW.PrintWords Go.Proofs.YtggemblkhckbpaaDoorW.PrintLast Go.Proofs.YtggemblkhckbpaaDoorW.PrintMore
attribute [local go_sem] max2_int min2_int max_two min_two max_three min_three max_four min_four   -- for this text's walks alone
set_option linter.unusedVariables false
set_option linter.unusedSimpArgs false

/-! ### impl_hexOf: function 14 -/
def impl_hexOf.l0 : Nat → ByteArray → List Int → Int → Int → Option (ByteArray)
  | 0, _, _, _, _ => none
  | k + 1, x0, x3, x7, x8 => if x8 < x7 then (if 0 ≤ x8 then (if x8 < (x0.size : Int) then (if 0 ≤ ((bt x0 x8) / 16) then (if ((bt x0 x8) / 16) < 16 then (if 0 ≤ (Go.bits .and .u8 (bt x0 x8) 15) then (if (Go.bits .and .u8 (bt x0 x8) 15) < 16 then ((some (([bt (⟨#[48, 49, 50, 51, 52, 53, 54, 55, 56, 57, 97, 98, 99, 100, 101, 102]⟩ : ByteArray) ((bt x0 x8) / 16), bt (⟨#[48, 49, 50, 51, 52, 53, 54, 55, 56, 57, 97, 98, 99, 100, 101, 102]⟩ : ByteArray) (Go.bits .and .u8 (bt x0 x8) 15)] : List Int) : List Int)).bind fun y113 => (if x3.length + y113.length < 140737488355328 then (impl_hexOf.l0 k x0 (x3 ++ y113) x7 (wrap64 (x8 + 1))) else (none))) else (none)) else (none)) else (none)) else (none)) else (none)) else (none)) else (some (strOfNums x3))
def impl_hexOf.f (k : Nat) (a0 : ByteArray) : Option (ByteArray) := impl_hexOf.l0 k a0 (([] : List Int)) (a0.size : Int) 0
def impl_hexOf.T5 : Bool × List (List Nat × List Nat) := (true, [([], []), ([], []), ([], []), ([1, 2], [1, 2]), ([3], [3]), ([4], [4]), ([], []), ([], []), ([6, 7], [6, 7]), ([8], [8]), ([9], [9]), ([5, 10], [5, 10]), ([0, 11], [0, 11]), ([12, 12, 0, 1, 2, 3, 4, 5, 6, 7, 8, 9, 10, 11, 12], [0, 12])])
def impl_hexOf.B5 : List Nat := [0, 0, 0, 6, 14, 30, 0, 0, 192, 448, 960, 2046, 4095, 8191]
theorem impl_hexOf.tab5 : rtab .any (opsOf Tryd.f14 5) = impl_hexOf.T5 := by kernel_rfl
theorem impl_hexOf.bits5 : waitsOk impl_hexOf.T5.2 impl_hexOf.B5 = true := by kernel_rfl
set_option maxHeartbeats 8000000 in
set_option maxRecDepth 100000 in
theorem impl_hexOf.calls (k : Nat) (a0 : ByteArray) (r : ByteArray) (w : World) (h : impl_hexOf.f k a0 = some r) :
    Calls Tryd.prog 14 #[.string a0] w fun e w' => e = .returned (.string r) ∧ Below w.heap.size w w' := by
  have HB := Aside0.mk (Below.refl w.heap.size w)
  have H : (impl_hexOf.l0 k a0 (([] : List Int)) (a0.size : Int) 0) = some r := h
  clear h
  obtain ⟨y110, hy110⟩ : ∃ y_ : List Int, y_ = (([] : List Int)) := ⟨_, rfl⟩
  replace H : (impl_hexOf.l0 k a0 y110 (a0.size : Int) 0) = some r := by first | (rw [hy110]; with_reducible exact H) | (have H2_ := (Option.bind_some _ _).symm.trans H; rw [hy110]; with_reducible exact H2_) | (have H2_ := (Option.bind_some _ _).symm.trans H; with_reducible exact H2_) | with_reducible exact H | (rw [hy110]; exact H) | exact H
  have Ny110 := Aside0.mk hy110
  clear hy110
  have H' := Aside0.mk H
  clear H
  go_enter Tryd.func14, Tryd.ntmps14
  go_wp2_with (first | ((with_reducible refine gate_dst (N := 5) rfl ?_); refine Kd.R_lit (Kd.int .u8) _ 5 ?hg (N := 5) ?hd (xs := ([] : List Int)) (inner := []) (ok := fun _ => True) (okp := fun _ => True) ?hr ?hp (fun _ hk => hk) trivial (Below.refl _ _) (Nat.le_refl _) (by simp) ?_; (case hd => rfl); (case hg => rfl); (case hr => first | (go_simp; done) | (go_simp; rfl)); (case hp => exact (Reps.none _ _)); intro v111 w2 ho3 hb hg_ hnew_; clear hg_ hnew_; (first | rw [← Ny110.out] at ho3 | (simp only [Int.reduceToNat] at ho3; rw [← Ny110.out] at ho3)); have n0_ := Aside0.mk (Kd.R_lower ho3 (below_size (by repeat (first | (with_reducible first | exact HB.out | apply below_alloc | apply pw_below_drewN | apply below_drew1) | exact HB.out)))); have n1_ := Aside0.mk (below_step (by repeat (first | (with_reducible first | exact HB.out | apply below_alloc | apply pw_below_drewN | apply below_drew1) | exact HB.out)) hb); clear HB; have HO112 := n0_; have HB := n1_; clear n0_ n1_; clear hb ho3))
  go_loopg [3, 8] k (fun kq v3 v8 w' => ∃ (x3_1 : List Int) (x8_1 : Int), v8 = .int .i64 x8_1 ∧ Aside0 (impl_hexOf.l0 kq a0 x3_1 (a0.size : Int) x8_1 = some r) ∧ Aside0 (kq ≤ k) ∧ Aside0 (Kd.R (Kd.int .u8) 5 w' w.heap.size (fun _ => True) v3 x3_1) ∧ Aside0 (Below w.heap.size w w'))
  case atStart => exact ⟨(y110), (0), (by first | rfl | (simp; done) | (simp [*]; done)), H', ⟨Nat.le_refl _⟩, ⟨by (with_reducible repeat (first | apply Kd.R_alloc | apply Kd.R_drewN | apply Kd.R_drew)); exact HO112.out⟩, ⟨by repeat (first | (with_reducible first | exact HB.out | apply below_alloc | apply pw_below_drewN | apply below_drew1) | exact HB.out)⟩⟩
  case round =>
    clear H'
    try clear c1
    try clear p2
    obtain ⟨x3_1, x8_1, rfl, HA, HK1, HO_3, HB⟩ := hrel
    cases gk with
    | zero => exact absurd HA.out (by simp [impl_hexOf.l0])
    | succ k1 =>
      have H := HA.out
      clear HA
      simp only [impl_hexOf.l0] at H
      by_cases c4 : x8_1 < (a0.size : Int)
      · rw [if_pos c4] at H
        have c4b0 : decide (x8_1 < (a0.size : Int)) = true := decide_eq_true c4
        clear c4
        by_cases c5 : 0 ≤ x8_1
        · rw [if_pos c5] at H
          have c5b0 : decide (0 ≤ x8_1) = true := decide_eq_true c5
          clear c5
          by_cases c6 : x8_1 < (a0.size : Int)
          · rw [if_pos c6] at H
            have c6b0 : decide (x8_1 < (a0.size : Int)) = true := decide_eq_true c6
            clear c6
            obtain ⟨ji8, hji8⟩ : ∃ j_ : Int, ((bt a0 x8_1) / 16) = j_ := ⟨_, rfl⟩
            replace H : (if 0 ≤ (ji8) then (if (ji8) < 16 then (if 0 ≤ (Go.bits .and .u8 (bt a0 x8_1) 15) then (if (Go.bits .and .u8 (bt a0 x8_1) 15) < 16 then ((some (([bt (⟨#[48, 49, 50, 51, 52, 53, 54, 55, 56, 57, 97, 98, 99, 100, 101, 102]⟩ : ByteArray) (ji8), bt (⟨#[48, 49, 50, 51, 52, 53, 54, 55, 56, 57, 97, 98, 99, 100, 101, 102]⟩ : ByteArray) (Go.bits .and .u8 (bt a0 x8_1) 15)] : List Int) : List Int)).bind fun y113 => (if x3_1.length + y113.length < 140737488355328 then (impl_hexOf.l0 k1 a0 (x3_1 ++ y113) (a0.size : Int) (wrap64 (x8_1 + 1))) else (none))) else (none)) else (none)) else (none)) else (none)) = some r := by first | (rw [hji8] at H; exact H) | (simp only [hji8] at H ⊢; exact H)
            by_cases c9 : 0 ≤ (ji8)
            · rw [if_pos c9] at H
              have c9b0 : decide (0 ≤ (ji8)) = true := decide_eq_true c9
              clear c9
              by_cases c10 : (ji8) < 16
              · rw [if_pos c10] at H
                have c10b0 : decide ((ji8) < 16) = true := decide_eq_true c10
                clear c10
                by_cases c13 : 0 ≤ (Go.bits .and .u8 (bt a0 x8_1) 15)
                · rw [if_pos c13] at H
                  have c13b0 : decide (0 ≤ (Go.bits .and .u8 (bt a0 x8_1) 15)) = true := decide_eq_true c13
                  clear c13
                  by_cases c14 : (Go.bits .and .u8 (bt a0 x8_1) 15) < 16
                  · rw [if_pos c14] at H
                    have c14b0 : decide ((Go.bits .and .u8 (bt a0 x8_1) 15) < 16) = true := decide_eq_true c14
                    clear c14
                    obtain ⟨y113, hy113⟩ : ∃ y_ : List Int, y_ = (([bt (⟨#[48, 49, 50, 51, 52, 53, 54, 55, 56, 57, 97, 98, 99, 100, 101, 102]⟩ : ByteArray) (ji8), bt (⟨#[48, 49, 50, 51, 52, 53, 54, 55, 56, 57, 97, 98, 99, 100, 101, 102]⟩ : ByteArray) (Go.bits .and .u8 (bt a0 x8_1) 15)] : List Int)) := ⟨_, rfl⟩
                    replace H : (if x3_1.length + y113.length < 140737488355328 then (impl_hexOf.l0 k1 a0 (x3_1 ++ y113) (a0.size : Int) (wrap64 (x8_1 + 1))) else (none)) = some r := by first | (rw [hy113]; with_reducible exact H) | (have H2_ := (Option.bind_some _ _).symm.trans H; rw [hy113]; with_reducible exact H2_) | (have H2_ := (Option.bind_some _ _).symm.trans H; with_reducible exact H2_) | with_reducible exact H | (rw [hy113]; exact H) | exact H
                    have Ny113 := Aside0.mk hy113
                    clear hy113
                    by_cases c16 : x3_1.length + y113.length < 140737488355328
                    · rw [if_pos c16] at H
                      have LMc16 := Aside0.mk c16
                      clear c16
                      obtain ⟨y116, hy116⟩ : ∃ y_ : List Int, y_ = (x3_1 ++ y113) := ⟨_, rfl⟩
                      replace H : (impl_hexOf.l0 k1 a0 y116 (a0.size : Int) (wrap64 (x8_1 + 1))) = some r := by first | (rw [hy116]; with_reducible exact H) | (have H2_ := (Option.bind_some _ _).symm.trans H; rw [hy116]; with_reducible exact H2_) | (have H2_ := (Option.bind_some _ _).symm.trans H; with_reducible exact H2_) | with_reducible exact H | (rw [hy116]; exact H) | exact H
                      have Ny116 := Aside0.mk hy116
                      clear hy116
                      have H' := Aside0.mk H
                      clear H
                      try go_wp2
                      have n0_ := Aside0.mk (Kd.R_drew HO_3.out)
                      have n1_ := Aside0.mk (below_drew1 HB.out)
                      clear HO_3
                      clear HB
                      have HO_3 := n0_
                      have HB := n1_
                      clear n0_ n1_
                      have p7 : 0 ≤ (x8_1 : Int) := of_decide_eq_true (by first | (with_reducible assumption) | assumption)
                      have q7 : x8_1 < (a0.size : Int) := of_decide_eq_true (by first | (with_reducible assumption) | assumption)
                      have hx7 := bt_at a0 x8_1
                      replace p7 := eq_true p7
                      replace q7 := eq_true q7
                      have p11 : 0 ≤ ((ji8) : Int) := of_decide_eq_true (by first | (with_reducible assumption) | assumption)
                      have q11 : (ji8) < (16 : Int) := of_decide_eq_true (by first | (with_reducible assumption) | assumption)
                      have hx11 := bt_at (⟨#[48, 49, 50, 51, 52, 53, 54, 55, 56, 57, 97, 98, 99, 100, 101, 102]⟩ : ByteArray) (ji8)
                      replace p11 := eq_true p11
                      replace q11 := eq_true q11
                      have p12 : 0 ≤ (x8_1 : Int) := of_decide_eq_true (by first | (with_reducible assumption) | assumption)
                      have q12 : x8_1 < (a0.size : Int) := of_decide_eq_true (by first | (with_reducible assumption) | assumption)
                      have hx12 := bt_at a0 x8_1
                      replace p12 := eq_true p12
                      replace q12 := eq_true q12
                      have p15 : 0 ≤ ((Go.bits .and .u8 (bt a0 x8_1) 15) : Int) := of_decide_eq_true (by first | (with_reducible assumption) | assumption)
                      have q15 : (Go.bits .and .u8 (bt a0 x8_1) 15) < (16 : Int) := of_decide_eq_true (by first | (with_reducible assumption) | assumption)
                      have hx15 := bt_at (⟨#[48, 49, 50, 51, 52, 53, 54, 55, 56, 57, 97, 98, 99, 100, 101, 102]⟩ : ByteArray) (Go.bits .and .u8 (bt a0 x8_1) 15)
                      replace p15 := eq_true p15
                      replace q15 := eq_true q15
                      refine start_ (n := 14) (S := fun w' => True) (ds := []) #[false, false, false, false, false, false, false, false, false, false, false, false, false, false] (by kernel_rfl) rfl rfl trivial (fun hHeld => ?_); refine with_tabW impl_hexOf.tab5 impl_hexOf.bits5 (fun HT_ HW_ => ?_)
                      generalize wr.drew = w17 at HO_3 HB hHeld ⊢
                      refine pure_ (i := 0) (N := some 11) (v := ?_) (a' := ?_) #[true, false, false, false, false, false, false, false, false, false, false, false, false, false] rfl rfl (any_of HT_.out (by kernel_rfl)) (fun _ _ _ h => h) (Or.inl ⟨by rfl, ?_⟩) ?_ ?_
                      rotate_left
                      · intro w'
                        go_simp
                        with_reducible rfl
                      rotate_left
                      · simp only [Act.put, List.setIfInBounds_toArray, List.set_cons_zero, List.set_cons_succ, i64_w, i32_w]
                        rfl
                      refine pure_ (i := 1) (N := some 12) (v := ?_) (a' := ?_) #[true, true, false, false, false, false, false, false, false, false, false, false, false, false] rfl rfl (any_of HT_.out (by kernel_rfl)) (fun _ _ _ h => h) (Or.inl ⟨by rfl, ?_⟩) ?_ ?_
                      rotate_left
                      · intro w'
                        go_simp
                        with_reducible rfl
                      rotate_left
                      · simp only [Act.put, List.setIfInBounds_toArray, List.set_cons_zero, List.set_cons_succ, i64_w, i32_w]
                        rfl
                      refine pure_ (i := 2) (N := some 13) (v := ?_) (a' := ?_) #[true, true, true, false, false, false, false, false, false, false, false, false, false, false] rfl rfl (any_of HT_.out (by kernel_rfl)) (fun _ _ _ h => h) (Or.inl ⟨by rfl, ?_⟩) ?_ ?_
                      rotate_left
                      · intro w'
                        go_simp
                        with_reducible rfl
                      rotate_left
                      · simp only [Act.put, List.setIfInBounds_toArray, List.set_cons_zero, List.set_cons_succ, i64_w, i32_w]
                        rfl
                      refine pure_ (i := 6) (N := some 17) (v := ?_) (a' := ?_) #[true, true, true, false, false, false, true, false, false, false, false, false, false, false] rfl rfl (any_of HT_.out (by kernel_rfl)) (fun _ _ _ h => h) (Or.inl ⟨by rfl, ?_⟩) ?_ ?_
                      rotate_left
                      · intro w'
                        go_simp
                        with_reducible rfl
                      rotate_left
                      · simp only [Act.put, List.setIfInBounds_toArray, List.set_cons_zero, List.set_cons_succ, i64_w, i32_w]
                        rfl
                      refine pure_ (i := 7) (N := some 18) (v := ?_) (a' := ?_) #[true, true, true, false, false, false, true, true, false, false, false, false, false, false] rfl rfl (any_of HT_.out (by kernel_rfl)) (fun _ _ _ h => h) (Or.inl ⟨by rfl, ?_⟩) ?_ ?_
                      rotate_left
                      · intro w'
                        go_simp
                        with_reducible rfl
                      rotate_left
                      · simp only [Act.put, List.setIfInBounds_toArray, List.set_cons_zero, List.set_cons_succ, i64_w, i32_w]
                        rfl
                      refine take_ (i := 3) (N := some 14) (v := ?_) (a' := ?_) #[true, true, true, true, false, false, true, true, false, false, false, false, false, false] rfl rfl (take_ofW HT_.out HW_.out (by kernel_rfl)) (fun _ _ _ h => h) (Or.inl ⟨by rfl, ?_⟩) hHeld ?_ ?_
                      rotate_left
                      · intro w' _
                        go_simp
                        with_reducible rfl
                      rotate_left
                      · simp only [Act.put, List.setIfInBounds_toArray, List.set_cons_zero, List.set_cons_succ, i64_w, i32_w]
                        rfl
                      refine pure_ (i := 4) (N := some 15) (v := ?_) (a' := ?_) #[true, true, true, true, true, false, true, true, false, false, false, false, false, false] rfl rfl (any_of HT_.out (by kernel_rfl)) (fun _ _ _ h => h) (Or.inl ⟨by rfl, ?_⟩) ?_ ?_
                      rotate_left
                      · intro w'
                        go_simp
                        with_reducible rfl
                      rotate_left
                      · simp only [Act.put, List.setIfInBounds_toArray, List.set_cons_zero, List.set_cons_succ, i64_w, i32_w]
                        rfl
                      refine take_ (i := 5) (N := some 16) (v := ?_) (a' := ?_) #[true, true, true, true, true, true, true, true, false, false, false, false, false, false] rfl rfl (take_ofW HT_.out HW_.out (by kernel_rfl)) (fun _ _ _ h => h) (Or.inl ⟨by rfl, ?_⟩) hHeld ?_ ?_
                      rotate_left
                      · intro w' _
                        go_simp
                        with_reducible rfl
                      rotate_left
                      · simp only [Act.put, List.setIfInBounds_toArray, List.set_cons_zero, List.set_cons_succ, i64_w, i32_w]
                        rfl
                      refine take_ (i := 8) (N := some 19) (v := ?_) (a' := ?_) #[true, true, true, true, true, true, true, true, true, false, false, false, false, false] rfl rfl (take_ofW HT_.out HW_.out (by kernel_rfl)) (fun _ _ _ h => h) (Or.inl ⟨by rfl, ?_⟩) hHeld ?_ ?_
                      rotate_left
                      · intro w' _
                        go_simp
                        with_reducible rfl
                      rotate_left
                      · simp only [Act.put, List.setIfInBounds_toArray, List.set_cons_zero, List.set_cons_succ, i64_w, i32_w]
                        rfl
                      refine pure_ (i := 9) (N := some 20) (v := ?_) (a' := ?_) #[true, true, true, true, true, true, true, true, true, true, false, false, false, false] rfl rfl (any_of HT_.out (by kernel_rfl)) (fun _ _ _ h => h) (Or.inl ⟨by rfl, ?_⟩) ?_ ?_
                      rotate_left
                      · intro w'
                        go_simp
                        with_reducible rfl
                      rotate_left
                      · simp only [Act.put, List.setIfInBounds_toArray, List.set_cons_zero, List.set_cons_succ, i64_w, i32_w]
                        rfl
                      refine take_ (i := 10) (N := some 21) (v := ?_) (a' := ?_) #[true, true, true, true, true, true, true, true, true, true, true, false, false, false] rfl rfl (take_ofW HT_.out HW_.out (by kernel_rfl)) (fun _ _ _ h => h) (Or.inl ⟨by rfl, ?_⟩) hHeld ?_ ?_
                      rotate_left
                      · intro w' _
                        go_simp
                        with_reducible rfl
                      rotate_left
                      · simp only [Act.put, List.setIfInBounds_toArray, List.set_cons_zero, List.set_cons_succ, i64_w, i32_w]
                        rfl
                      refine one_ (i := 11) (N := some 22) #[true, true, true, true, true, true, true, true, true, true, true, true, false, false] rfl rfl (one_of HT_.out (by kernel_rfl)) (by decide) (fun K hK => ?_)
                      refine Kd.R_lit_step (Kd.int .u8) _ 5 ?hg (N := 22) ?hd (xs := ([bt (⟨#[48, 49, 50, 51, 52, 53, 54, 55, 56, 57, 97, 98, 99, 100, 101, 102]⟩ : ByteArray) (ji8), bt (⟨#[48, 49, 50, 51, 52, 53, 54, 55, 56, 57, 97, 98, 99, 100, 101, 102]⟩ : ByteArray) (Go.bits .and .u8 (bt a0 x8_1) 15)] : List Int)) (inner := [.int .u8 (bt (⟨#[48, 49, 50, 51, 52, 53, 54, 55, 56, 57, 97, 98, 99, 100, 101, 102]⟩ : ByteArray) (ji8)), .int .u8 (bt (⟨#[48, 49, 50, 51, 52, 53, 54, 55, 56, 57, 97, 98, 99, 100, 101, 102]⟩ : ByteArray) (Go.bits .and .u8 (bt a0 x8_1) 15))]) (ok := fun _ => True) (okp := fun _ => True) ?hr ?hp (fun _ hk => hk) trivial (Below.refl _ _) (Nat.le_refl _) (by simp) ?_; (case hd => rfl); (case hg => rfl); (case hr => first | (go_simp; done) | (go_simp; rfl)); (case hp => exact (Reps.one (show Kd.M (Kd.int .u8) _ _ _ (bt (⟨#[48, 49, 50, 51, 52, 53, 54, 55, 56, 57, 97, 98, 99, 100, 101, 102]⟩ : ByteArray) (ji8)) [.int .u8 (bt (⟨#[48, 49, 50, 51, 52, 53, 54, 55, 56, 57, 97, 98, 99, 100, 101, 102]⟩ : ByteArray) (ji8))] from rfl) (Reps.one (show Kd.M (Kd.int .u8) _ _ _ (bt (⟨#[48, 49, 50, 51, 52, 53, 54, 55, 56, 57, 97, 98, 99, 100, 101, 102]⟩ : ByteArray) (Go.bits .and .u8 (bt a0 x8_1) 15)) [.int .u8 (bt (⟨#[48, 49, 50, 51, 52, 53, 54, 55, 56, 57, 97, 98, 99, 100, 101, 102]⟩ : ByteArray) (Go.bits .and .u8 (bt a0 x8_1) 15))] from rfl) (Reps.none _ _))))
                      intro v114 w18 ho19 hb hg_ hnew_
                      clear hg_ hnew_
                      (first | rw [← Ny113.out] at ho19 | (simp only [Int.reduceToNat] at ho19; rw [← Ny113.out] at ho19))
                      have n0_ := Aside0.mk (Kd.R_elder' (by (with_reducible repeat (first | apply Kd.R_alloc | apply Kd.R_drewN | apply Kd.R_drew)); exact HO_3.out) (Kd.R_base ho19) hb)
                      have n1_ := Aside0.mk (Kd.R_lower (Kd.R_new' ho19 (Kd.R_lt (by (with_reducible repeat (first | apply Kd.R_alloc | apply Kd.R_drewN | apply Kd.R_drew)); exact HO_3.out))) (below_size (by repeat (first | (with_reducible first | exact HB.out | apply below_alloc | apply pw_below_drewN | apply below_drew1) | exact HB.out))))
                      have n2_ := Aside0.mk (below_step (by repeat (first | (with_reducible first | exact HB.out | apply below_alloc | apply pw_below_drewN | apply below_drew1) | exact HB.out)) hb)
                      clear HO_3
                      clear HB
                      have HO_3 := n0_
                      have HO115 := n1_
                      have HB := n2_
                      clear n0_ n1_ n2_
                      clear hb ho19
                      obtain ⟨Ao21, co21, eo21⟩ := Kd.R_slice HO115.out
                      (first | subst eo21 | (injection eo21 with f1_ f2_ f3_; have f4_ := f1_.symm; have f5_ := f3_.symm; clear f1_ f2_ f3_; subst f4_; subst f5_))
                      refine hK.out _ _ trivial (fun hHeld => ?_)
                      clear hK K
                      refine norm_ (a' := ?_) ?_ ?_
                      rotate_left
                      · show Act.put _ (some 22) _ = _
                        simp only [Act.put, List.setIfInBounds_toArray, List.set_cons_zero, List.set_cons_succ, i64_w, i32_w]
                        rfl
                      refine one_ (i := 12) (N := some 23) #[true, true, true, true, true, true, true, true, true, true, true, true, true, false] rfl rfl (one_of HT_.out (by kernel_rfl)) (by decide) (fun K hK => ?_)
                      refine Kd.R_append_rows_step (Kd.int .u8) (w0 := w) w.heap.size (by rfl) (.tmp 11) (.tmp 22) 22 5 (.int .u8 0) 1 rfl Tryd.underlying22 info5 rfl (by decide) (by omega) u3 x3_1 y113 _ _ _ (fun k_ => some k_ ≠ (.slice Ao21 y113.length co21 : Value).ownBlock) (fun _ => False) rfl rfl ?aO ?aR (fun _ _ h => h) (fun _ h => h.elim) ?aF ?aB ?aS ?aL ?_
                      (case aR => repeat (first | exact (Kd.R_reads' HO115.out).2.2 | (with_reducible refine Kd.C_alloc ?_ _) | (with_reducible refine Kd.C_drewN ?_ _) | (with_reducible refine Kd.C_drew ?_)))
                      (case aB => exact (by repeat (first | (with_reducible first | exact HB.out | apply below_alloc | apply pw_below_drewN | apply below_drew1) | exact HB.out)))
                      (case aF => exact (fun k_ hk => Kd.fresh' (Kd.R_lt (by (with_reducible repeat (first | apply Kd.R_alloc | apply Kd.R_drewN | apply Kd.R_drew)); exact HO115.out)) k_ hk))
                      (case aO => exact (by (with_reducible repeat (first | apply Kd.R_alloc | apply Kd.R_drewN | apply Kd.R_drew)); exact Kd.R_mono HO_3.out (fun _ hk => hk.2)))
                      (case aS => exact (below_size (by repeat (first | (with_reducible first | exact HB.out | apply below_alloc | apply pw_below_drewN | apply below_drew1) | exact HB.out))))
                      (case aL => have := LMc16.out; omega)
                      intro v117 w20 ho hb hg hat
                      rw [← Ny116.out] at ho
                      have n0_ := Aside0.mk (Kd.R_after (ok := (fun _ => True)) (by (with_reducible repeat (first | apply Kd.R_alloc | apply Kd.R_drewN | apply Kd.R_drew)); exact HO115.out) hg hat)
                      have n1_ := Aside0.mk (hb)
                      have n2_ := Aside0.mk (ho)
                      clear HO115
                      clear HB
                      clear HO_3
                      have HO115 := n0_
                      have HB := n1_
                      have HO118 := n2_
                      clear n0_ n1_ n2_
                      clear ho hb hg hat
                      refine hK.out _ _ trivial (fun hHeld => ?_)
                      clear hK K
                      refine norm_ (a' := ?_) ?_ ?_
                      rotate_left
                      · show Act.put _ (some 23) _ = _
                        simp only [Act.put, List.setIfInBounds_toArray, List.set_cons_zero, List.set_cons_succ, i64_w, i32_w]
                        rfl
                      refine pure_ (i := 13) (N := some 3) (v := ?_) (a' := ?_) #[true, true, true, true, true, true, true, true, true, true, true, true, true, true] rfl rfl (any_of HT_.out (by kernel_rfl)) (fun _ _ _ h => h) (Or.inl ⟨by rfl, ?_⟩) ?_ ?_
                      rotate_left
                      · intro w'
                        go_simp
                        with_reducible rfl
                      rotate_left
                      · simp only [Act.put, List.setIfInBounds_toArray, List.set_cons_zero, List.set_cons_succ, i64_w, i32_w]
                        rfl
                      refine done_ (done_of HT_.out (by kernel_rfl)) ?_
                      try go_wp2
                      go_roundg k1
                      case measure => have := HK1.out; omega
                      case rel => exact ⟨(y116), (wrap64 (x8_1 + 1)), (by first | rfl | (simp; done) | (simp [*]; done)), H', ⟨by have := HK1.out; omega⟩, ⟨by (with_reducible repeat (first | apply Kd.R_alloc | apply Kd.R_drewN | apply Kd.R_drew)); exact Kd.R_mono HO118.out (fun _ hk => trivial)⟩, ⟨by repeat (first | (with_reducible first | exact HB.out | apply below_alloc | apply pw_below_drewN | apply below_drew1) | exact HB.out)⟩⟩
                    · rw [if_neg c16] at H
                      exact absurd H (by simp)
                  · rw [if_neg c14] at H
                    exact absurd H (by simp)
                · rw [if_neg c13] at H
                  exact absurd H (by simp)
              · rw [if_neg c10] at H
                exact absurd H (by simp)
            · rw [if_neg c9] at H
              exact absurd H (by simp)
          · rw [if_neg c6] at H
            exact absurd H (by simp)
        · rw [if_neg c5] at H
          exact absurd H (by simp)
      · rw [if_neg c4] at H
        have c4b0 : decide (x8_1 < (a0.size : Int)) = false := decide_eq_false c4
        clear c4
        obtain rfl := Option.some.inj H
        have hcv22 := own_string (P := Tryd.prog) Tryd.underlying22 Tryd.underlying5 Tryd.underlying9 (Kd.own_of_R HO_3.out)
        go_wp2
        go_ret
        exact ⟨by first | rfl | (simp [errW_none, errW_some] <;> rfl) | (simp [*, errW_none, errW_some] <;> rfl), by repeat (first | (with_reducible first | exact HB.out | apply below_alloc | apply pw_below_drewN | apply below_drew1) | exact HB.out)⟩

end Go.Proofs.YtggemblkhckbpaaDoor.Q

namespace Go.Proofs.YtggemblkhckbpaaDoor.Q
open Go.RowKit Go.Proofs.YtggemblkhckbpaaDoorW.PrintWords Go.Proofs.YtggemblkhckbpaaDoorW.PrintLast Go.Proofs.YtggemblkhckbpaaDoorW.PrintMore
attribute [local go_sem] max2_int min2_int max_two min_two max_three min_three max_four min_four   -- for this text's walks alone
set_option linter.unusedVariables false
set_option linter.unusedSimpArgs false

/-! ### impl_HashText: function 5 -/
def impl_HashText.f (k : Nat) (a0 : ByteArray) : Option (ByteArray × Int) := (impl_isText.f (([a0] : List ByteArray))).bind fun t122 => (if t122 = true then ((impl_isHash.f (([a0] : List ByteArray))).bind fun t126 => (if t126 = true then ((impl_hexOf.f k a0).bind fun t127 => (some (t127, 0))) else (some ((⟨#[]⟩ : ByteArray), 1)))) else (some ((⟨#[]⟩ : ByteArray), 2)))
set_option maxHeartbeats 8000000 in
set_option maxRecDepth 100000 in
theorem impl_HashText.calls (k : Nat) (a0 : ByteArray) (r1 : ByteArray) (r2 : Int) (w : World) (h : impl_HashText.f k a0 = some (r1, r2)) :
    Calls Tryd.prog 5 #[.string a0] w fun e w' => e = .returned (.tuple #[.string r1, .int .i64 r2]) ∧ Below w.heap.size w w' := by
  have HB := Aside0.mk (Below.refl w.heap.size w)
  have H : ((impl_isText.f (([a0] : List ByteArray))).bind fun t122 => (if t122 = true then ((impl_isHash.f (([a0] : List ByteArray))).bind fun t126 => (if t126 = true then ((impl_hexOf.f k a0).bind fun t127 => (some (t127, 0))) else (some ((⟨#[]⟩ : ByteArray), 1)))) else (some ((⟨#[]⟩ : ByteArray), 2)))) = some (r1, r2) := h
  clear h
  obtain ⟨y119, hy119⟩ : ∃ y_ : List ByteArray, y_ = (([a0] : List ByteArray)) := ⟨_, rfl⟩
  replace H : ((impl_isText.f y119).bind fun t122 => (if t122 = true then ((impl_isHash.f (([a0] : List ByteArray))).bind fun t126 => (if t126 = true then ((impl_hexOf.f k a0).bind fun t127 => (some (t127, 0))) else (some ((⟨#[]⟩ : ByteArray), 1)))) else (some ((⟨#[]⟩ : ByteArray), 2)))) = some (r1, r2) := by first | (rw [hy119]; with_reducible exact H) | (have H2_ := (Option.bind_some _ _).symm.trans H; rw [hy119]; with_reducible exact H2_) | (have H2_ := (Option.bind_some _ _).symm.trans H; with_reducible exact H2_) | with_reducible exact H | (rw [hy119]; exact H) | exact H
  have Ny119 := Aside0.mk hy119
  clear hy119
  replace H := Option.bind_eq_some_iff.mp H
  obtain ⟨t122, A20, H⟩ := H
  replace H : (if t122 = true then ((impl_isHash.f (([a0] : List ByteArray))).bind fun t126 => (if t126 = true then ((impl_hexOf.f k a0).bind fun t127 => (some (t127, 0))) else (some ((⟨#[]⟩ : ByteArray), 1)))) else (some ((⟨#[]⟩ : ByteArray), 2))) = some (r1, r2) := H
  have A2 := Aside0.mk A20
  clear A20
  by_cases c3 : t122 = true
  · subst c3
    have H1 : ((impl_isHash.f (([a0] : List ByteArray))).bind fun t126 => (if t126 = true then ((impl_hexOf.f k a0).bind fun t127 => (some (t127, 0))) else (some ((⟨#[]⟩ : ByteArray), 1)))) = some (r1, r2) := by rw [if_pos rfl] at H; exact H
    clear H
    have H := H1
    clear H1
    obtain ⟨y123, hy123⟩ : ∃ y_ : List ByteArray, y_ = (([a0] : List ByteArray)) := ⟨_, rfl⟩
    replace H : ((impl_isHash.f y123).bind fun t126 => (if t126 = true then ((impl_hexOf.f k a0).bind fun t127 => (some (t127, 0))) else (some ((⟨#[]⟩ : ByteArray), 1)))) = some (r1, r2) := by first | (rw [hy123]; with_reducible exact H) | (have H2_ := (Option.bind_some _ _).symm.trans H; rw [hy123]; with_reducible exact H2_) | (have H2_ := (Option.bind_some _ _).symm.trans H; with_reducible exact H2_) | with_reducible exact H | (rw [hy123]; exact H) | exact H
    have Ny123 := Aside0.mk hy123
    clear hy123
    replace H := Option.bind_eq_some_iff.mp H
    obtain ⟨t126, A40, H⟩ := H
    replace H : (if t126 = true then ((impl_hexOf.f k a0).bind fun t127 => (some (t127, 0))) else (some ((⟨#[]⟩ : ByteArray), 1))) = some (r1, r2) := H
    have A4 := Aside0.mk A40
    clear A40
    by_cases c5 : t126 = true
    · subst c5
      have H1 : ((impl_hexOf.f k a0).bind fun t127 => (some (t127, 0))) = some (r1, r2) := by rw [if_pos rfl] at H; exact H
      clear H
      have H := H1
      clear H1
      replace H := Option.bind_eq_some_iff.mp H
      obtain ⟨t127, A60, H⟩ := H
      replace H : (some (t127, 0)) = some (r1, r2) := H
      have A6 := Aside0.mk A60
      clear A60
      simp only [Option.some.injEq, Prod.mk.injEq] at H
      obtain ⟨rfl, rfl⟩ := H
      go_enter Tryd.func5, Tryd.ntmps5
      go_wp2_with (first | ((with_reducible refine gate_dst (N := 6) rfl ?_); refine Kd.R_lit Kd.string _ 9 ?hg (N := 6) ?hd (xs := ([a0] : List ByteArray)) (inner := [.string a0]) (ok := fun _ => True) (okp := fun _ => True) ?hr ?hp (fun _ hk => hk) trivial (Below.refl _ _) (Nat.le_refl _) (by simp) ?_; (case hd => rfl); (case hg => rfl); (case hr => first | (go_simp; done) | (go_simp; rfl)); (case hp => exact (Reps.one (show Kd.M Kd.string _ _ _ a0 [.string a0] from rfl) (Reps.none _ _))); intro v120 w7 ho8 hb hg_ hnew_; clear hg_ hnew_; (first | rw [← Ny119.out] at ho8 | (simp only [Int.reduceToNat] at ho8; rw [← Ny119.out] at ho8)); have n0_ := Aside0.mk (Kd.R_lower ho8 (below_size (by repeat (first | (with_reducible first | exact HB.out | apply below_alloc | apply pw_below_drewN | apply below_drew1) | exact HB.out)))); have n1_ := Aside0.mk (below_step (by repeat (first | (with_reducible first | exact HB.out | apply below_alloc | apply pw_below_drewN | apply below_drew1) | exact HB.out)) hb); clear HB; have HO121 := n0_; have HB := n1_; clear n0_ n1_; clear hb ho8; obtain ⟨Ao9, co9, eo9⟩ := Kd.R_slice HO121.out; subst eo9) | ((with_reducible refine gate_callee (f := 12) rfl ?_); refine goesL_ (some 7) rfl rfl Tryd.func12 (by kernel_rfl) rfl #[.slice Ao9 y119.length co9] rfl (by (try simp only [List.map_toArray, List.map_cons, List.map_nil]); first | done | rfl | (simp only [List.length_drop, List.length_take]; rfl)) ?_; (with_reducible refine (impl_isText.calls _ _ y119 true _ ?side1 ?side2 A2.out).mono ?_); (case side1 => repeat (first | exact (Kd.R_reads' HO121.out).2.2 | (with_reducible refine Kd.C_alloc ?_ _) | (with_reducible refine Kd.C_drewN ?_ _) | (with_reducible refine Kd.C_drew ?_))); (case side2 => exact (Kd.R_reads' HO121.out).2.1); rintro e w' ⟨rfl, ⟨nd, rfl⟩⟩; refine ⟨_, rfl, ?_⟩) | ((with_reducible refine gate_dst (N := 11) rfl ?_); refine Kd.R_lit Kd.string _ 9 ?hg (N := 11) ?hd (xs := ([a0] : List ByteArray)) (inner := [.string a0]) (ok := fun _ => True) (okp := fun _ => True) ?hr ?hp (fun _ hk => hk) trivial (Below.refl _ _) (Nat.le_refl _) (by simp) ?_; (case hd => rfl); (case hg => rfl); (case hr => first | (go_simp; done) | (go_simp; rfl)); (case hp => exact (Reps.one (show Kd.M Kd.string _ _ _ a0 [.string a0] from rfl) (Reps.none _ _))); intro v124 w10 ho11 hb hg_ hnew_; clear hg_ hnew_; (first | rw [← Ny123.out] at ho11 | (simp only [Int.reduceToNat] at ho11; rw [← Ny123.out] at ho11)); have n0_ := Aside0.mk (Kd.R_elder' (by (with_reducible repeat (first | apply Kd.R_alloc | apply Kd.R_drewN | apply Kd.R_drew)); exact HO121.out) (Kd.R_base ho11) hb); have n1_ := Aside0.mk (Kd.R_lower (Kd.R_new' ho11 (Kd.R_lt (by (with_reducible repeat (first | apply Kd.R_alloc | apply Kd.R_drewN | apply Kd.R_drew)); exact HO121.out))) (below_size (by repeat (first | (with_reducible first | exact HB.out | apply below_alloc | apply pw_below_drewN | apply below_drew1) | exact HB.out)))); have n2_ := Aside0.mk (below_step (by repeat (first | (with_reducible first | exact HB.out | apply below_alloc | apply pw_below_drewN | apply below_drew1) | exact HB.out)) hb); clear HO121; clear HB; have HO121 := n0_; have HO125 := n1_; have HB := n2_; clear n0_ n1_ n2_; clear hb ho11; obtain ⟨Ao12, co12, eo12⟩ := Kd.R_slice HO125.out; subst eo12) | ((with_reducible refine gate_callee (f := 13) rfl ?_); refine goesL_ (some 12) rfl rfl Tryd.func13 (by kernel_rfl) rfl #[.slice Ao12 y123.length co12] rfl (by (try simp only [List.map_toArray, List.map_cons, List.map_nil]); first | done | rfl | (simp only [List.length_drop, List.length_take]; rfl)) ?_; (with_reducible refine (impl_isHash.calls _ _ y123 true _ ?side1 ?side2 A4.out).mono ?_); (case side1 => repeat (first | exact (Kd.R_reads' HO125.out).2.2 | (with_reducible refine Kd.C_alloc ?_ _) | (with_reducible refine Kd.C_drewN ?_ _) | (with_reducible refine Kd.C_drew ?_))); (case side2 => exact (Kd.R_reads' HO125.out).2.1); rintro e w' ⟨rfl, ⟨nd, rfl⟩⟩; refine ⟨_, rfl, ?_⟩) | ((with_reducible refine gate_callee (f := 14) rfl ?_); refine goesL_ (some 15) rfl rfl Tryd.func14 (by kernel_rfl) rfl #[.string a0] rfl (by (try simp only [List.map_toArray, List.map_cons, List.map_nil]); first | done | rfl | (simp only [List.length_drop, List.length_take]; rfl)) ?_; (with_reducible refine (impl_hexOf.calls k a0 t127 _ A6.out).mono ?_); rintro e w13 ⟨rfl, hb⟩; refine ⟨_, rfl, ?_⟩; have n0_ := Aside0.mk (Kd.R_below (by (with_reducible repeat (first | apply Kd.R_alloc | apply Kd.R_drewN | apply Kd.R_drew)); exact HO121.out) hb); have n1_ := Aside0.mk (Kd.R_below (by (with_reducible repeat (first | apply Kd.R_alloc | apply Kd.R_drewN | apply Kd.R_drew)); exact HO125.out) hb); have n2_ := Aside0.mk (below_step (by repeat (first | (with_reducible first | exact HB.out | apply below_alloc | apply pw_below_drewN | apply below_drew1) | exact HB.out)) hb); clear HO121; clear HO125; clear HB; have HO121 := n0_; have HO125 := n1_; have HB := n2_; clear n0_ n1_ n2_; (try clear hb); (try clear hb2); (try clear hk); (try clear hi)))
      go_ret2
      exact ⟨by first | rfl | (simp [errW_none, errW_some] <;> rfl) | (simp [*, errW_none, errW_some] <;> rfl), by repeat (first | (with_reducible first | exact HB.out | apply below_alloc | apply pw_below_drewN | apply below_drew1) | exact HB.out)⟩
    · replace c5 := Bool.eq_false_iff.mpr c5
      subst c5
      have H1 : (some ((⟨#[]⟩ : ByteArray), 1)) = some (r1, r2) := by rw [if_neg (show ¬ (false = true) by decide)] at H; exact H
      clear H
      have H := H1
      clear H1
      simp only [Option.some.injEq, Prod.mk.injEq] at H
      obtain ⟨rfl, rfl⟩ := H
      go_enter Tryd.func5, Tryd.ntmps5
      go_wp2_with (first | ((with_reducible refine gate_dst (N := 6) rfl ?_); refine Kd.R_lit Kd.string _ 9 ?hg (N := 6) ?hd (xs := ([a0] : List ByteArray)) (inner := [.string a0]) (ok := fun _ => True) (okp := fun _ => True) ?hr ?hp (fun _ hk => hk) trivial (Below.refl _ _) (Nat.le_refl _) (by simp) ?_; (case hd => rfl); (case hg => rfl); (case hr => first | (go_simp; done) | (go_simp; rfl)); (case hp => exact (Reps.one (show Kd.M Kd.string _ _ _ a0 [.string a0] from rfl) (Reps.none _ _))); intro v120 w14 ho15 hb hg_ hnew_; clear hg_ hnew_; (first | rw [← Ny119.out] at ho15 | (simp only [Int.reduceToNat] at ho15; rw [← Ny119.out] at ho15)); have n0_ := Aside0.mk (Kd.R_lower ho15 (below_size (by repeat (first | (with_reducible first | exact HB.out | apply below_alloc | apply pw_below_drewN | apply below_drew1) | exact HB.out)))); have n1_ := Aside0.mk (below_step (by repeat (first | (with_reducible first | exact HB.out | apply below_alloc | apply pw_below_drewN | apply below_drew1) | exact HB.out)) hb); clear HB; have HO121 := n0_; have HB := n1_; clear n0_ n1_; clear hb ho15; obtain ⟨Ao16, co16, eo16⟩ := Kd.R_slice HO121.out; subst eo16) | ((with_reducible refine gate_callee (f := 12) rfl ?_); refine goesL_ (some 7) rfl rfl Tryd.func12 (by kernel_rfl) rfl #[.slice Ao16 y119.length co16] rfl (by (try simp only [List.map_toArray, List.map_cons, List.map_nil]); first | done | rfl | (simp only [List.length_drop, List.length_take]; rfl)) ?_; (with_reducible refine (impl_isText.calls _ _ y119 true _ ?side1 ?side2 A2.out).mono ?_); (case side1 => repeat (first | exact (Kd.R_reads' HO121.out).2.2 | (with_reducible refine Kd.C_alloc ?_ _) | (with_reducible refine Kd.C_drewN ?_ _) | (with_reducible refine Kd.C_drew ?_))); (case side2 => exact (Kd.R_reads' HO121.out).2.1); rintro e w' ⟨rfl, ⟨nd, rfl⟩⟩; refine ⟨_, rfl, ?_⟩) | ((with_reducible refine gate_dst (N := 11) rfl ?_); refine Kd.R_lit Kd.string _ 9 ?hg (N := 11) ?hd (xs := ([a0] : List ByteArray)) (inner := [.string a0]) (ok := fun _ => True) (okp := fun _ => True) ?hr ?hp (fun _ hk => hk) trivial (Below.refl _ _) (Nat.le_refl _) (by simp) ?_; (case hd => rfl); (case hg => rfl); (case hr => first | (go_simp; done) | (go_simp; rfl)); (case hp => exact (Reps.one (show Kd.M Kd.string _ _ _ a0 [.string a0] from rfl) (Reps.none _ _))); intro v124 w17 ho18 hb hg_ hnew_; clear hg_ hnew_; (first | rw [← Ny123.out] at ho18 | (simp only [Int.reduceToNat] at ho18; rw [← Ny123.out] at ho18)); have n0_ := Aside0.mk (Kd.R_elder' (by (with_reducible repeat (first | apply Kd.R_alloc | apply Kd.R_drewN | apply Kd.R_drew)); exact HO121.out) (Kd.R_base ho18) hb); have n1_ := Aside0.mk (Kd.R_lower (Kd.R_new' ho18 (Kd.R_lt (by (with_reducible repeat (first | apply Kd.R_alloc | apply Kd.R_drewN | apply Kd.R_drew)); exact HO121.out))) (below_size (by repeat (first | (with_reducible first | exact HB.out | apply below_alloc | apply pw_below_drewN | apply below_drew1) | exact HB.out)))); have n2_ := Aside0.mk (below_step (by repeat (first | (with_reducible first | exact HB.out | apply below_alloc | apply pw_below_drewN | apply below_drew1) | exact HB.out)) hb); clear HO121; clear HB; have HO121 := n0_; have HO125 := n1_; have HB := n2_; clear n0_ n1_ n2_; clear hb ho18; obtain ⟨Ao19, co19, eo19⟩ := Kd.R_slice HO125.out; subst eo19) | ((with_reducible refine gate_callee (f := 13) rfl ?_); refine goesL_ (some 12) rfl rfl Tryd.func13 (by kernel_rfl) rfl #[.slice Ao19 y123.length co19] rfl (by (try simp only [List.map_toArray, List.map_cons, List.map_nil]); first | done | rfl | (simp only [List.length_drop, List.length_take]; rfl)) ?_; (with_reducible refine (impl_isHash.calls _ _ y123 false _ ?side1 ?side2 A4.out).mono ?_); (case side1 => repeat (first | exact (Kd.R_reads' HO125.out).2.2 | (with_reducible refine Kd.C_alloc ?_ _) | (with_reducible refine Kd.C_drewN ?_ _) | (with_reducible refine Kd.C_drew ?_))); (case side2 => exact (Kd.R_reads' HO125.out).2.1); rintro e w' ⟨rfl, ⟨nd, rfl⟩⟩; refine ⟨_, rfl, ?_⟩))
      go_ret2
      exact ⟨by first | rfl | (simp [errW_none, errW_some] <;> rfl) | (simp [*, errW_none, errW_some] <;> rfl), by repeat (first | (with_reducible first | exact HB.out | apply below_alloc | apply pw_below_drewN | apply below_drew1) | exact HB.out)⟩
  · replace c3 := Bool.eq_false_iff.mpr c3
    subst c3
    have H1 : (some ((⟨#[]⟩ : ByteArray), 2)) = some (r1, r2) := by rw [if_neg (show ¬ (false = true) by decide)] at H; exact H
    clear H
    have H := H1
    clear H1
    simp only [Option.some.injEq, Prod.mk.injEq] at H
    obtain ⟨rfl, rfl⟩ := H
    go_enter Tryd.func5, Tryd.ntmps5
    go_wp2_with (first | ((with_reducible refine gate_dst (N := 6) rfl ?_); refine Kd.R_lit Kd.string _ 9 ?hg (N := 6) ?hd (xs := ([a0] : List ByteArray)) (inner := [.string a0]) (ok := fun _ => True) (okp := fun _ => True) ?hr ?hp (fun _ hk => hk) trivial (Below.refl _ _) (Nat.le_refl _) (by simp) ?_; (case hd => rfl); (case hg => rfl); (case hr => first | (go_simp; done) | (go_simp; rfl)); (case hp => exact (Reps.one (show Kd.M Kd.string _ _ _ a0 [.string a0] from rfl) (Reps.none _ _))); intro v120 w20 ho21 hb hg_ hnew_; clear hg_ hnew_; (first | rw [← Ny119.out] at ho21 | (simp only [Int.reduceToNat] at ho21; rw [← Ny119.out] at ho21)); have n0_ := Aside0.mk (Kd.R_lower ho21 (below_size (by repeat (first | (with_reducible first | exact HB.out | apply below_alloc | apply pw_below_drewN | apply below_drew1) | exact HB.out)))); have n1_ := Aside0.mk (below_step (by repeat (first | (with_reducible first | exact HB.out | apply below_alloc | apply pw_below_drewN | apply below_drew1) | exact HB.out)) hb); clear HB; have HO121 := n0_; have HB := n1_; clear n0_ n1_; clear hb ho21; obtain ⟨Ao22, co22, eo22⟩ := Kd.R_slice HO121.out; subst eo22) | ((with_reducible refine gate_callee (f := 12) rfl ?_); refine goesL_ (some 7) rfl rfl Tryd.func12 (by kernel_rfl) rfl #[.slice Ao22 y119.length co22] rfl (by (try simp only [List.map_toArray, List.map_cons, List.map_nil]); first | done | rfl | (simp only [List.length_drop, List.length_take]; rfl)) ?_; (with_reducible refine (impl_isText.calls _ _ y119 false _ ?side1 ?side2 A2.out).mono ?_); (case side1 => repeat (first | exact (Kd.R_reads' HO121.out).2.2 | (with_reducible refine Kd.C_alloc ?_ _) | (with_reducible refine Kd.C_drewN ?_ _) | (with_reducible refine Kd.C_drew ?_))); (case side2 => exact (Kd.R_reads' HO121.out).2.1); rintro e w' ⟨rfl, ⟨nd, rfl⟩⟩; refine ⟨_, rfl, ?_⟩))
    go_ret2
    exact ⟨by first | rfl | (simp [errW_none, errW_some] <;> rfl) | (simp [*, errW_none, errW_some] <;> rfl), by repeat (first | (with_reducible first | exact HB.out | apply below_alloc | apply pw_below_drewN | apply below_drew1) | exact HB.out)⟩

end Go.Proofs.YtggemblkhckbpaaDoor.Q

namespace Go.Proofs.YtggemblkhckbpaaDoor.Q
open Go.RowKit Go.Proofs.YtggemblkhckbpaaDoorW.PrintWords Go.Proofs.YtggemblkhckbpaaDoorW.PrintLast Go.Proofs.YtggemblkhckbpaaDoorW.PrintMore
attribute [local go_sem] max2_int min2_int max_two min_two max_three min_three max_four min_four   -- for this text's walks alone
set_option linter.unusedVariables false
set_option linter.unusedSimpArgs false

/-! ### strings_IndexByte: function 29 -/
def strings_IndexByte.f (a0 : ByteArray) (a1 : Int) : Option Int := some (Lib.indexByte a0.data.toList a1.toNat.toUInt8)
theorem strings_IndexByte.calls (a0 : ByteArray) (a1 : Int) (r : Int) (w : World) (h : strings_IndexByte.f a0 a1 = some r) :
    Calls Tryd.prog 29 #[.string a0, .int .u8 a1] w fun e w' => e = .returned (.int .i64 r) ∧ Drawn0 w w' := by
  obtain rfl := Option.some.inj h
  refine (Tryd.strings_IndexByte a0 a1 w).mono ?_
  rintro e w' ⟨rfl, rfl⟩
  exact ⟨rfl, Drawn0.refl _⟩

end Go.Proofs.YtggemblkhckbpaaDoor.Q

namespace Go.Proofs.YtggemblkhckbpaaDoor.Q
open Go.RowKit Go.Proofs.YtggemblkhckbpaaDoorW.PrintWords Go.Proofs.YtggemblkhckbpaaDoorW.PrintLast Go.Proofs.YtggemblkhckbpaaDoorW.PrintMore
attribute [local go_sem] max2_int min2_int max_two min_two max_three min_three max_four min_four   -- for this text's walks alone
set_option linter.unusedVariables false
set_option linter.unusedSimpArgs false

/-! ### strings_Trim: function 28 -/
def strings_Trim.f (a0 : ByteArray) (a1 : ByteArray) : Option ByteArray := if a0.size ≤ 1000000 ∧ a1.size ≤ 1000 ∧ a1.data.toList.all (fun b => decide (b.toNat < 128)) = true then some ⟨(Lib.trimS a0.data.toList a1.data.toList).toArray⟩ else none
theorem strings_Trim.calls (a0 : ByteArray) (a1 : ByteArray) (r : ByteArray) (w : World) (h : strings_Trim.f a0 a1 = some r) :
    Calls Tryd.prog 28 #[.string a0, .string a1] w fun e w' => e = .returned (.string r) ∧ Below w.heap.size w w' := by
  unfold strings_Trim.f at h
  split at h
  · rename_i hc
    cases h
    exact Any.strings_Trim_laid Tryd.lays160 (by kernel_rfl) a0 a1 w (by omega) (by omega) (ascii_of_all hc.2.2)
  · cases h

end Go.Proofs.YtggemblkhckbpaaDoor.Q
