/- Parts of the proof: what single Go functions compute, each with its walk, and plain laws over these. -/
import Derived.Test.YteghpdmlpefnfaaDoorM0
import Derived.Test.YteghpdmlpefnfaaDoorM2
import Derived.Test.YteghpdmlpefnfaaDoorM4
import Derived.IntWalk
import Derived.Laws.BitsLemmas
import Derived.Test.YteghpdmlpefnfaaDoorVMore
import Derived.Lib.ItoaNum
import Derived.Test.YteghpdmlpefnfaaDoorM1
import Derived.Test.YteghpdmlpefnfaaDoorM3
import Derived.Lib.AtoiAllCases
import Derived.Lib.Strings
import Derived.Lib.Bytealg
import Derived.Sort.Walk0
namespace Go.Proofs.YteghpdmlpefnfaaDoor.Q
open Go.RowKit Go.Proofs.YteghpdmlpefnfaaDoorW.PrintWords Go.Proofs.YteghpdmlpefnfaaDoorW.PrintLast Go.Proofs.YteghpdmlpefnfaaDoorW.PrintMore
attribute [local go_sem] max2_int min2_int max_two min_two max_three min_three max_four min_four   -- for this text's walks alone
set_option linter.unusedVariables false
set_option linter.unusedSimpArgs false

/-! ### laws_eqOrder: function 25 -/
def laws_eqOrder.f (a0_0 : ByteArray) (a0_1 : ByteArray) (a0_2 : Int) (a0_3 : Int) (a0_4 : Int) (a0_5 : Bool) (a1_0 : ByteArray) (a1_1 : ByteArray) (a1_2 : Int) (a1_3 : Int) (a1_4 : Int) (a1_5 : Bool) : Option (Bool) := if a0_0.toList = a1_0.toList then (if a0_1.toList = a1_1.toList then (if a0_2 = a1_2 then (if a0_3 = a1_3 then (if a0_4 = a1_4 then (if (a0_5 != a1_5) = true then (some false) else (some true)) else (some false)) else (some false)) else (some false)) else (some false)) else (some false)
set_option maxHeartbeats 8000000 in
set_option maxRecDepth 100000 in
theorem laws_eqOrder.calls (a0_0 : ByteArray) (a0_1 : ByteArray) (a0_2 : Int) (a0_3 : Int) (a0_4 : Int) (a0_5 : Bool) (a1_0 : ByteArray) (a1_1 : ByteArray) (a1_2 : Int) (a1_3 : Int) (a1_4 : Int) (a1_5 : Bool) (r : Bool) (w : World) (h : laws_eqOrder.f a0_0 a0_1 a0_2 a0_3 a0_4 a0_5 a1_0 a1_1 a1_2 a1_3 a1_4 a1_5 = some r) :
    Calls Tryd.prog 25 #[.agg #[.string a0_0, .string a0_1, .int .i64 a0_2, .int .i64 a0_3, .int .i64 a0_4, .bool a0_5], .agg #[.string a1_0, .string a1_1, .int .i64 a1_2, .int .i64 a1_3, .int .i64 a1_4, .bool a1_5]] w fun e w' => e = .returned (.bool r) ∧ Below w.heap.size w w' := by
  have hu42 := Tryd.underlying42
  have HB := Aside0.mk (Below.refl w.heap.size w)
  have H : (if a0_0.toList = a1_0.toList then (if a0_1.toList = a1_1.toList then (if a0_2 = a1_2 then (if a0_3 = a1_3 then (if a0_4 = a1_4 then (if (a0_5 != a1_5) = true then (some false) else (some true)) else (some false)) else (some false)) else (some false)) else (some false)) else (some false)) = some r := h
  clear h
  by_cases c3 : a0_0.toList = a1_0.toList
  · rw [if_pos c3] at H
    have c3b0 : (a0_0.toList == a1_0.toList) = true := beq_iff_eq.mpr c3
    have c3b1 : (a0_0.toList != a1_0.toList) = false := bne_eq_false_iff_eq.mpr c3
    clear c3
    by_cases c4 : a0_1.toList = a1_1.toList
    · rw [if_pos c4] at H
      have c4b0 : (a0_1.toList == a1_1.toList) = true := beq_iff_eq.mpr c4
      have c4b1 : (a0_1.toList != a1_1.toList) = false := bne_eq_false_iff_eq.mpr c4
      clear c4
      by_cases c5 : a0_2 = a1_2
      · rw [if_pos c5] at H
        have c5b0 : (a0_2 == a1_2) = true := beq_iff_eq.mpr c5
        have c5b1 : (a0_2 != a1_2) = false := bne_eq_false_iff_eq.mpr c5
        clear c5
        by_cases c6 : a0_3 = a1_3
        · rw [if_pos c6] at H
          have c6b0 : (a0_3 == a1_3) = true := beq_iff_eq.mpr c6
          have c6b1 : (a0_3 != a1_3) = false := bne_eq_false_iff_eq.mpr c6
          clear c6
          by_cases c7 : a0_4 = a1_4
          · rw [if_pos c7] at H
            have c7b0 : (a0_4 == a1_4) = true := beq_iff_eq.mpr c7
            have c7b1 : (a0_4 != a1_4) = false := bne_eq_false_iff_eq.mpr c7
            clear c7
            by_cases c8 : (a0_5 != a1_5) = true
            · rw [if_pos c8] at H
              have c8b0 : (a0_5 != a1_5) = true := c8
              (try (have c8b1 : decide (a0_5 = a1_5) = false := by simpa using c8))
              (try (have c8b2 : (a0_5 == a1_5) = false := by simpa using c8))
              (try (have c8b3 : ¬ (a0_5 = a1_5) := by simpa using c8))
              clear c8
              obtain rfl := Option.some.inj H
              go_enter Tryd.func25, Tryd.ntmps25
              go_wp2_with (first | ((with_reducible refine gate_dst (N := 2) rfl ?_); refine box_event ?hg (N := 2) ?hd (cs := #[.string a0_0, .string a0_1, .int .i64 a0_2, .int .i64 a0_3, .int .i64 a0_4, .bool a0_5]) (t := 42) ?hr ?_; (case hd => rfl); (case hg => rfl); (case hr => first | (go_simp; done) | (go_simp; rfl)); intro gb468 hg w9 hbox hb; have n0_ := Aside0.mk (below_step (by repeat (first | (with_reducible first | exact HB.out | apply below_alloc | apply pw_below_drewN | apply below_drew1) | exact HB.out)) hb); have n1_ := Aside0.mk (hbox); have n2_ := Aside0.mk ((by rw [hg]; exact (below_size (by repeat (first | (with_reducible first | exact HB.out | apply below_alloc | apply pw_below_drewN | apply below_drew1) | exact HB.out))) : w.heap.size ≤ gb468)); have n3_ := Aside0.mk ((by rw [hg]; exact (below_size (by repeat (first | (with_reducible first | exact HB.out | apply below_alloc | apply pw_below_drewN | apply below_drew1) | exact HB.out))) : w.heap.size ≤ gb468)); clear HB; have HB := n0_; have BK468 := n1_; have GW468 := n2_; have GE468 := n3_; clear n0_ n1_ n2_ n3_; clear hb hbox hg) | ((with_reducible refine gate_dst (N := 3) rfl ?_); refine box_event ?hg (N := 3) ?hd (cs := #[.string a1_0, .string a1_1, .int .i64 a1_2, .int .i64 a1_3, .int .i64 a1_4, .bool a1_5]) (t := 42) ?hr ?_; (case hd => rfl); (case hg => rfl); (case hr => first | (go_simp; done) | (go_simp; rfl)); intro gb469 hg w10 hbox hb; have n0_ := Aside0.mk (blk_below (g := gb468) (o := .cells #[.string a0_0, .string a0_1, .int .i64 a0_2, .int .i64 a0_3, .int .i64 a0_4, .bool a0_5] 42 (0, 0)) (by (with_reducible repeat (first | refine blk_drewN ?_ _ | refine blk_drew ?_ | refine blk_alloc ?_ _)); exact BK468.out) hb); have n1_ := Aside0.mk (below_step (by repeat (first | (with_reducible first | exact HB.out | apply below_alloc | apply pw_below_drewN | apply below_drew1 | refine below_set ?_ GE468.out) | exact HB.out)) hb); have n2_ := Aside0.mk (hbox); have n3_ := Aside0.mk ((by rw [hg]; exact (below_size (by repeat (first | (with_reducible first | exact HB.out | apply below_alloc | apply pw_below_drewN | apply below_drew1 | refine below_set ?_ GE468.out) | exact HB.out))) : w.heap.size ≤ gb469)); have n4_ := Aside0.mk ((by rw [hg]; exact (below_size (by repeat (first | (with_reducible first | exact HB.out | apply below_alloc | apply pw_below_drewN | apply below_drew1 | refine below_set ?_ GE468.out) | exact HB.out))) : w.heap.size ≤ gb469)); have n5_ := Aside0.mk ((by rw [hg]; exact Nat.ne_of_lt (blk_lt (g := gb468) (o := .cells #[.string a0_0, .string a0_1, .int .i64 a0_2, .int .i64 a0_3, .int .i64 a0_4, .bool a0_5] 42 (0, 0)) (by (with_reducible repeat (first | refine blk_drewN ?_ _ | refine blk_drew ?_ | refine blk_alloc ?_ _)); exact BK468.out)) : gb468 ≠ gb469)); have n6_ := Aside0.mk ((by rw [hg]; exact Nat.ne_of_gt (blk_lt (g := gb468) (o := .cells #[.string a0_0, .string a0_1, .int .i64 a0_2, .int .i64 a0_3, .int .i64 a0_4, .bool a0_5] 42 (0, 0)) (by (with_reducible repeat (first | refine blk_drewN ?_ _ | refine blk_drew ?_ | refine blk_alloc ?_ _)); exact BK468.out)) : gb469 ≠ gb468)); clear BK468; clear HB; have BK468 := n0_; have HB := n1_; have BK469 := n2_; have GW469 := n3_; have GE469 := n4_; have NB468_469 := n5_; have NB469_468 := n6_; clear n0_ n1_ n2_ n3_ n4_ n5_ n6_; clear hb hbox hg; have hnb11 := NB468_469.out; have hnc11 := NB469_468.out; have hcz12_0 : w10.cell? ⟨gb468, 0, none⟩ = some (.string a0_0) := (blk_cell BK468.out 0).trans rfl; have hcz12_1 : w10.cell? ⟨gb468, 1, none⟩ = some (.string a0_1) := (blk_cell BK468.out 1).trans rfl; have hcz12_2 : w10.cell? ⟨gb468, 2, none⟩ = some (.int .i64 a0_2) := (blk_cell BK468.out 2).trans rfl; have hcz12_3 : w10.cell? ⟨gb468, 3, none⟩ = some (.int .i64 a0_3) := (blk_cell BK468.out 3).trans rfl; have hcz12_4 : w10.cell? ⟨gb468, 4, none⟩ = some (.int .i64 a0_4) := (blk_cell BK468.out 4).trans rfl; have hcz12_5 : w10.cell? ⟨gb468, 5, none⟩ = some (.bool a0_5) := (blk_cell BK468.out 5).trans rfl; have hfz12_0 := blk_frozen BK468.out 0; have hfz12_1 := blk_frozen BK468.out 1; have hfz12_2 := blk_frozen BK468.out 2; have hfz12_3 := blk_frozen BK468.out 3; have hfz12_4 := blk_frozen BK468.out 4; have hfz12_5 := blk_frozen BK468.out 5; have hcz13_0 : w10.cell? ⟨gb469, 0, none⟩ = some (.string a1_0) := (blk_cell BK469.out 0).trans rfl; have hcz13_1 : w10.cell? ⟨gb469, 1, none⟩ = some (.string a1_1) := (blk_cell BK469.out 1).trans rfl; have hcz13_2 : w10.cell? ⟨gb469, 2, none⟩ = some (.int .i64 a1_2) := (blk_cell BK469.out 2).trans rfl; have hcz13_3 : w10.cell? ⟨gb469, 3, none⟩ = some (.int .i64 a1_3) := (blk_cell BK469.out 3).trans rfl; have hcz13_4 : w10.cell? ⟨gb469, 4, none⟩ = some (.int .i64 a1_4) := (blk_cell BK469.out 4).trans rfl; have hcz13_5 : w10.cell? ⟨gb469, 5, none⟩ = some (.bool a1_5) := (blk_cell BK469.out 5).trans rfl; have hfz13_0 := blk_frozen BK469.out 0; have hfz13_1 := blk_frozen BK469.out 1; have hfz13_2 := blk_frozen BK469.out 2; have hfz13_3 := blk_frozen BK469.out 3; have hfz13_4 := blk_frozen BK469.out 4; have hfz13_5 := blk_frozen BK469.out 5))
              go_ret
              exact ⟨by first | rfl | (simp [errW_none, errW_some] <;> rfl) | (simp [*, errW_none, errW_some] <;> rfl), by repeat (first | (with_reducible first | exact HB.out | apply below_alloc | apply pw_below_drewN | apply below_drew1 | refine below_set ?_ GE468.out | refine below_set ?_ GE469.out) | exact HB.out)⟩
            · rw [if_neg c8] at H
              have c8b0 : (a0_5 != a1_5) = false := by simpa using c8
              (try (have c8b1 : decide (a0_5 = a1_5) = true := by simpa using c8))
              (try (have c8b2 : (a0_5 == a1_5) = true := by simpa using c8))
              clear c8
              obtain rfl := Option.some.inj H
              go_enter Tryd.func25, Tryd.ntmps25
              go_wp2_with (first | ((with_reducible refine gate_dst (N := 2) rfl ?_); refine box_event ?hg (N := 2) ?hd (cs := #[.string a0_0, .string a0_1, .int .i64 a0_2, .int .i64 a0_3, .int .i64 a0_4, .bool a0_5]) (t := 42) ?hr ?_; (case hd => rfl); (case hg => rfl); (case hr => first | (go_simp; done) | (go_simp; rfl)); intro gb468 hg w14 hbox hb; have n0_ := Aside0.mk (below_step (by repeat (first | (with_reducible first | exact HB.out | apply below_alloc | apply pw_below_drewN | apply below_drew1) | exact HB.out)) hb); have n1_ := Aside0.mk (hbox); have n2_ := Aside0.mk ((by rw [hg]; exact (below_size (by repeat (first | (with_reducible first | exact HB.out | apply below_alloc | apply pw_below_drewN | apply below_drew1) | exact HB.out))) : w.heap.size ≤ gb468)); have n3_ := Aside0.mk ((by rw [hg]; exact (below_size (by repeat (first | (with_reducible first | exact HB.out | apply below_alloc | apply pw_below_drewN | apply below_drew1) | exact HB.out))) : w.heap.size ≤ gb468)); clear HB; have HB := n0_; have BK468 := n1_; have GW468 := n2_; have GE468 := n3_; clear n0_ n1_ n2_ n3_; clear hb hbox hg) | ((with_reducible refine gate_dst (N := 3) rfl ?_); refine box_event ?hg (N := 3) ?hd (cs := #[.string a1_0, .string a1_1, .int .i64 a1_2, .int .i64 a1_3, .int .i64 a1_4, .bool a1_5]) (t := 42) ?hr ?_; (case hd => rfl); (case hg => rfl); (case hr => first | (go_simp; done) | (go_simp; rfl)); intro gb469 hg w15 hbox hb; have n0_ := Aside0.mk (blk_below (g := gb468) (o := .cells #[.string a0_0, .string a0_1, .int .i64 a0_2, .int .i64 a0_3, .int .i64 a0_4, .bool a0_5] 42 (0, 0)) (by (with_reducible repeat (first | refine blk_drewN ?_ _ | refine blk_drew ?_ | refine blk_alloc ?_ _)); exact BK468.out) hb); have n1_ := Aside0.mk (below_step (by repeat (first | (with_reducible first | exact HB.out | apply below_alloc | apply pw_below_drewN | apply below_drew1 | refine below_set ?_ GE468.out) | exact HB.out)) hb); have n2_ := Aside0.mk (hbox); have n3_ := Aside0.mk ((by rw [hg]; exact (below_size (by repeat (first | (with_reducible first | exact HB.out | apply below_alloc | apply pw_below_drewN | apply below_drew1 | refine below_set ?_ GE468.out) | exact HB.out))) : w.heap.size ≤ gb469)); have n4_ := Aside0.mk ((by rw [hg]; exact (below_size (by repeat (first | (with_reducible first | exact HB.out | apply below_alloc | apply pw_below_drewN | apply below_drew1 | refine below_set ?_ GE468.out) | exact HB.out))) : w.heap.size ≤ gb469)); have n5_ := Aside0.mk ((by rw [hg]; exact Nat.ne_of_lt (blk_lt (g := gb468) (o := .cells #[.string a0_0, .string a0_1, .int .i64 a0_2, .int .i64 a0_3, .int .i64 a0_4, .bool a0_5] 42 (0, 0)) (by (with_reducible repeat (first | refine blk_drewN ?_ _ | refine blk_drew ?_ | refine blk_alloc ?_ _)); exact BK468.out)) : gb468 ≠ gb469)); have n6_ := Aside0.mk ((by rw [hg]; exact Nat.ne_of_gt (blk_lt (g := gb468) (o := .cells #[.string a0_0, .string a0_1, .int .i64 a0_2, .int .i64 a0_3, .int .i64 a0_4, .bool a0_5] 42 (0, 0)) (by (with_reducible repeat (first | refine blk_drewN ?_ _ | refine blk_drew ?_ | refine blk_alloc ?_ _)); exact BK468.out)) : gb469 ≠ gb468)); clear BK468; clear HB; have BK468 := n0_; have HB := n1_; have BK469 := n2_; have GW469 := n3_; have GE469 := n4_; have NB468_469 := n5_; have NB469_468 := n6_; clear n0_ n1_ n2_ n3_ n4_ n5_ n6_; clear hb hbox hg; have hnb16 := NB468_469.out; have hnc16 := NB469_468.out; have hcz17_0 : w15.cell? ⟨gb468, 0, none⟩ = some (.string a0_0) := (blk_cell BK468.out 0).trans rfl; have hcz17_1 : w15.cell? ⟨gb468, 1, none⟩ = some (.string a0_1) := (blk_cell BK468.out 1).trans rfl; have hcz17_2 : w15.cell? ⟨gb468, 2, none⟩ = some (.int .i64 a0_2) := (blk_cell BK468.out 2).trans rfl; have hcz17_3 : w15.cell? ⟨gb468, 3, none⟩ = some (.int .i64 a0_3) := (blk_cell BK468.out 3).trans rfl; have hcz17_4 : w15.cell? ⟨gb468, 4, none⟩ = some (.int .i64 a0_4) := (blk_cell BK468.out 4).trans rfl; have hcz17_5 : w15.cell? ⟨gb468, 5, none⟩ = some (.bool a0_5) := (blk_cell BK468.out 5).trans rfl; have hfz17_0 := blk_frozen BK468.out 0; have hfz17_1 := blk_frozen BK468.out 1; have hfz17_2 := blk_frozen BK468.out 2; have hfz17_3 := blk_frozen BK468.out 3; have hfz17_4 := blk_frozen BK468.out 4; have hfz17_5 := blk_frozen BK468.out 5; have hcz18_0 : w15.cell? ⟨gb469, 0, none⟩ = some (.string a1_0) := (blk_cell BK469.out 0).trans rfl; have hcz18_1 : w15.cell? ⟨gb469, 1, none⟩ = some (.string a1_1) := (blk_cell BK469.out 1).trans rfl; have hcz18_2 : w15.cell? ⟨gb469, 2, none⟩ = some (.int .i64 a1_2) := (blk_cell BK469.out 2).trans rfl; have hcz18_3 : w15.cell? ⟨gb469, 3, none⟩ = some (.int .i64 a1_3) := (blk_cell BK469.out 3).trans rfl; have hcz18_4 : w15.cell? ⟨gb469, 4, none⟩ = some (.int .i64 a1_4) := (blk_cell BK469.out 4).trans rfl; have hcz18_5 : w15.cell? ⟨gb469, 5, none⟩ = some (.bool a1_5) := (blk_cell BK469.out 5).trans rfl; have hfz18_0 := blk_frozen BK469.out 0; have hfz18_1 := blk_frozen BK469.out 1; have hfz18_2 := blk_frozen BK469.out 2; have hfz18_3 := blk_frozen BK469.out 3; have hfz18_4 := blk_frozen BK469.out 4; have hfz18_5 := blk_frozen BK469.out 5))
              go_ret
              exact ⟨by first | rfl | (simp [errW_none, errW_some] <;> rfl) | (simp [*, errW_none, errW_some] <;> rfl), by repeat (first | (with_reducible first | exact HB.out | apply below_alloc | apply pw_below_drewN | apply below_drew1 | refine below_set ?_ GE468.out | refine below_set ?_ GE469.out) | exact HB.out)⟩
          · rw [if_neg c7] at H
            have c7b0 : (a0_4 == a1_4) = false := beq_eq_false_iff_ne.mpr c7
            have c7b1 : (a0_4 != a1_4) = true := bne_iff_ne.mpr c7
            obtain rfl := Option.some.inj H
            go_enter Tryd.func25, Tryd.ntmps25
            go_wp2_with (first | ((with_reducible refine gate_dst (N := 2) rfl ?_); refine box_event ?hg (N := 2) ?hd (cs := #[.string a0_0, .string a0_1, .int .i64 a0_2, .int .i64 a0_3, .int .i64 a0_4, .bool a0_5]) (t := 42) ?hr ?_; (case hd => rfl); (case hg => rfl); (case hr => first | (go_simp; done) | (go_simp; rfl)); intro gb468 hg w19 hbox hb; have n0_ := Aside0.mk (below_step (by repeat (first | (with_reducible first | exact HB.out | apply below_alloc | apply pw_below_drewN | apply below_drew1) | exact HB.out)) hb); have n1_ := Aside0.mk (hbox); have n2_ := Aside0.mk ((by rw [hg]; exact (below_size (by repeat (first | (with_reducible first | exact HB.out | apply below_alloc | apply pw_below_drewN | apply below_drew1) | exact HB.out))) : w.heap.size ≤ gb468)); have n3_ := Aside0.mk ((by rw [hg]; exact (below_size (by repeat (first | (with_reducible first | exact HB.out | apply below_alloc | apply pw_below_drewN | apply below_drew1) | exact HB.out))) : w.heap.size ≤ gb468)); clear HB; have HB := n0_; have BK468 := n1_; have GW468 := n2_; have GE468 := n3_; clear n0_ n1_ n2_ n3_; clear hb hbox hg) | ((with_reducible refine gate_dst (N := 3) rfl ?_); refine box_event ?hg (N := 3) ?hd (cs := #[.string a1_0, .string a1_1, .int .i64 a1_2, .int .i64 a1_3, .int .i64 a1_4, .bool a1_5]) (t := 42) ?hr ?_; (case hd => rfl); (case hg => rfl); (case hr => first | (go_simp; done) | (go_simp; rfl)); intro gb469 hg w20 hbox hb; have n0_ := Aside0.mk (blk_below (g := gb468) (o := .cells #[.string a0_0, .string a0_1, .int .i64 a0_2, .int .i64 a0_3, .int .i64 a0_4, .bool a0_5] 42 (0, 0)) (by (with_reducible repeat (first | refine blk_drewN ?_ _ | refine blk_drew ?_ | refine blk_alloc ?_ _)); exact BK468.out) hb); have n1_ := Aside0.mk (below_step (by repeat (first | (with_reducible first | exact HB.out | apply below_alloc | apply pw_below_drewN | apply below_drew1 | refine below_set ?_ GE468.out) | exact HB.out)) hb); have n2_ := Aside0.mk (hbox); have n3_ := Aside0.mk ((by rw [hg]; exact (below_size (by repeat (first | (with_reducible first | exact HB.out | apply below_alloc | apply pw_below_drewN | apply below_drew1 | refine below_set ?_ GE468.out) | exact HB.out))) : w.heap.size ≤ gb469)); have n4_ := Aside0.mk ((by rw [hg]; exact (below_size (by repeat (first | (with_reducible first | exact HB.out | apply below_alloc | apply pw_below_drewN | apply below_drew1 | refine below_set ?_ GE468.out) | exact HB.out))) : w.heap.size ≤ gb469)); have n5_ := Aside0.mk ((by rw [hg]; exact Nat.ne_of_lt (blk_lt (g := gb468) (o := .cells #[.string a0_0, .string a0_1, .int .i64 a0_2, .int .i64 a0_3, .int .i64 a0_4, .bool a0_5] 42 (0, 0)) (by (with_reducible repeat (first | refine blk_drewN ?_ _ | refine blk_drew ?_ | refine blk_alloc ?_ _)); exact BK468.out)) : gb468 ≠ gb469)); have n6_ := Aside0.mk ((by rw [hg]; exact Nat.ne_of_gt (blk_lt (g := gb468) (o := .cells #[.string a0_0, .string a0_1, .int .i64 a0_2, .int .i64 a0_3, .int .i64 a0_4, .bool a0_5] 42 (0, 0)) (by (with_reducible repeat (first | refine blk_drewN ?_ _ | refine blk_drew ?_ | refine blk_alloc ?_ _)); exact BK468.out)) : gb469 ≠ gb468)); clear BK468; clear HB; have BK468 := n0_; have HB := n1_; have BK469 := n2_; have GW469 := n3_; have GE469 := n4_; have NB468_469 := n5_; have NB469_468 := n6_; clear n0_ n1_ n2_ n3_ n4_ n5_ n6_; clear hb hbox hg; have hnb21 := NB468_469.out; have hnc21 := NB469_468.out; have hcz22_0 : w20.cell? ⟨gb468, 0, none⟩ = some (.string a0_0) := (blk_cell BK468.out 0).trans rfl; have hcz22_1 : w20.cell? ⟨gb468, 1, none⟩ = some (.string a0_1) := (blk_cell BK468.out 1).trans rfl; have hcz22_2 : w20.cell? ⟨gb468, 2, none⟩ = some (.int .i64 a0_2) := (blk_cell BK468.out 2).trans rfl; have hcz22_3 : w20.cell? ⟨gb468, 3, none⟩ = some (.int .i64 a0_3) := (blk_cell BK468.out 3).trans rfl; have hcz22_4 : w20.cell? ⟨gb468, 4, none⟩ = some (.int .i64 a0_4) := (blk_cell BK468.out 4).trans rfl; have hcz22_5 : w20.cell? ⟨gb468, 5, none⟩ = some (.bool a0_5) := (blk_cell BK468.out 5).trans rfl; have hfz22_0 := blk_frozen BK468.out 0; have hfz22_1 := blk_frozen BK468.out 1; have hfz22_2 := blk_frozen BK468.out 2; have hfz22_3 := blk_frozen BK468.out 3; have hfz22_4 := blk_frozen BK468.out 4; have hfz22_5 := blk_frozen BK468.out 5; have hcz23_0 : w20.cell? ⟨gb469, 0, none⟩ = some (.string a1_0) := (blk_cell BK469.out 0).trans rfl; have hcz23_1 : w20.cell? ⟨gb469, 1, none⟩ = some (.string a1_1) := (blk_cell BK469.out 1).trans rfl; have hcz23_2 : w20.cell? ⟨gb469, 2, none⟩ = some (.int .i64 a1_2) := (blk_cell BK469.out 2).trans rfl; have hcz23_3 : w20.cell? ⟨gb469, 3, none⟩ = some (.int .i64 a1_3) := (blk_cell BK469.out 3).trans rfl; have hcz23_4 : w20.cell? ⟨gb469, 4, none⟩ = some (.int .i64 a1_4) := (blk_cell BK469.out 4).trans rfl; have hcz23_5 : w20.cell? ⟨gb469, 5, none⟩ = some (.bool a1_5) := (blk_cell BK469.out 5).trans rfl; have hfz23_0 := blk_frozen BK469.out 0; have hfz23_1 := blk_frozen BK469.out 1; have hfz23_2 := blk_frozen BK469.out 2; have hfz23_3 := blk_frozen BK469.out 3; have hfz23_4 := blk_frozen BK469.out 4; have hfz23_5 := blk_frozen BK469.out 5))
            go_ret
            exact ⟨by first | rfl | (simp [errW_none, errW_some] <;> rfl) | (simp [*, errW_none, errW_some] <;> rfl), by repeat (first | (with_reducible first | exact HB.out | apply below_alloc | apply pw_below_drewN | apply below_drew1 | refine below_set ?_ GE468.out | refine below_set ?_ GE469.out) | exact HB.out)⟩
        · rw [if_neg c6] at H
          have c6b0 : (a0_3 == a1_3) = false := beq_eq_false_iff_ne.mpr c6
          have c6b1 : (a0_3 != a1_3) = true := bne_iff_ne.mpr c6
          obtain rfl := Option.some.inj H
          go_enter Tryd.func25, Tryd.ntmps25
          go_wp2_with (first | ((with_reducible refine gate_dst (N := 2) rfl ?_); refine box_event ?hg (N := 2) ?hd (cs := #[.string a0_0, .string a0_1, .int .i64 a0_2, .int .i64 a0_3, .int .i64 a0_4, .bool a0_5]) (t := 42) ?hr ?_; (case hd => rfl); (case hg => rfl); (case hr => first | (go_simp; done) | (go_simp; rfl)); intro gb468 hg w24 hbox hb; have n0_ := Aside0.mk (below_step (by repeat (first | (with_reducible first | exact HB.out | apply below_alloc | apply pw_below_drewN | apply below_drew1) | exact HB.out)) hb); have n1_ := Aside0.mk (hbox); have n2_ := Aside0.mk ((by rw [hg]; exact (below_size (by repeat (first | (with_reducible first | exact HB.out | apply below_alloc | apply pw_below_drewN | apply below_drew1) | exact HB.out))) : w.heap.size ≤ gb468)); have n3_ := Aside0.mk ((by rw [hg]; exact (below_size (by repeat (first | (with_reducible first | exact HB.out | apply below_alloc | apply pw_below_drewN | apply below_drew1) | exact HB.out))) : w.heap.size ≤ gb468)); clear HB; have HB := n0_; have BK468 := n1_; have GW468 := n2_; have GE468 := n3_; clear n0_ n1_ n2_ n3_; clear hb hbox hg) | ((with_reducible refine gate_dst (N := 3) rfl ?_); refine box_event ?hg (N := 3) ?hd (cs := #[.string a1_0, .string a1_1, .int .i64 a1_2, .int .i64 a1_3, .int .i64 a1_4, .bool a1_5]) (t := 42) ?hr ?_; (case hd => rfl); (case hg => rfl); (case hr => first | (go_simp; done) | (go_simp; rfl)); intro gb469 hg w25 hbox hb; have n0_ := Aside0.mk (blk_below (g := gb468) (o := .cells #[.string a0_0, .string a0_1, .int .i64 a0_2, .int .i64 a0_3, .int .i64 a0_4, .bool a0_5] 42 (0, 0)) (by (with_reducible repeat (first | refine blk_drewN ?_ _ | refine blk_drew ?_ | refine blk_alloc ?_ _)); exact BK468.out) hb); have n1_ := Aside0.mk (below_step (by repeat (first | (with_reducible first | exact HB.out | apply below_alloc | apply pw_below_drewN | apply below_drew1 | refine below_set ?_ GE468.out) | exact HB.out)) hb); have n2_ := Aside0.mk (hbox); have n3_ := Aside0.mk ((by rw [hg]; exact (below_size (by repeat (first | (with_reducible first | exact HB.out | apply below_alloc | apply pw_below_drewN | apply below_drew1 | refine below_set ?_ GE468.out) | exact HB.out))) : w.heap.size ≤ gb469)); have n4_ := Aside0.mk ((by rw [hg]; exact (below_size (by repeat (first | (with_reducible first | exact HB.out | apply below_alloc | apply pw_below_drewN | apply below_drew1 | refine below_set ?_ GE468.out) | exact HB.out))) : w.heap.size ≤ gb469)); have n5_ := Aside0.mk ((by rw [hg]; exact Nat.ne_of_lt (blk_lt (g := gb468) (o := .cells #[.string a0_0, .string a0_1, .int .i64 a0_2, .int .i64 a0_3, .int .i64 a0_4, .bool a0_5] 42 (0, 0)) (by (with_reducible repeat (first | refine blk_drewN ?_ _ | refine blk_drew ?_ | refine blk_alloc ?_ _)); exact BK468.out)) : gb468 ≠ gb469)); have n6_ := Aside0.mk ((by rw [hg]; exact Nat.ne_of_gt (blk_lt (g := gb468) (o := .cells #[.string a0_0, .string a0_1, .int .i64 a0_2, .int .i64 a0_3, .int .i64 a0_4, .bool a0_5] 42 (0, 0)) (by (with_reducible repeat (first | refine blk_drewN ?_ _ | refine blk_drew ?_ | refine blk_alloc ?_ _)); exact BK468.out)) : gb469 ≠ gb468)); clear BK468; clear HB; have BK468 := n0_; have HB := n1_; have BK469 := n2_; have GW469 := n3_; have GE469 := n4_; have NB468_469 := n5_; have NB469_468 := n6_; clear n0_ n1_ n2_ n3_ n4_ n5_ n6_; clear hb hbox hg; have hnb26 := NB468_469.out; have hnc26 := NB469_468.out; have hcz27_0 : w25.cell? ⟨gb468, 0, none⟩ = some (.string a0_0) := (blk_cell BK468.out 0).trans rfl; have hcz27_1 : w25.cell? ⟨gb468, 1, none⟩ = some (.string a0_1) := (blk_cell BK468.out 1).trans rfl; have hcz27_2 : w25.cell? ⟨gb468, 2, none⟩ = some (.int .i64 a0_2) := (blk_cell BK468.out 2).trans rfl; have hcz27_3 : w25.cell? ⟨gb468, 3, none⟩ = some (.int .i64 a0_3) := (blk_cell BK468.out 3).trans rfl; have hcz27_4 : w25.cell? ⟨gb468, 4, none⟩ = some (.int .i64 a0_4) := (blk_cell BK468.out 4).trans rfl; have hcz27_5 : w25.cell? ⟨gb468, 5, none⟩ = some (.bool a0_5) := (blk_cell BK468.out 5).trans rfl; have hfz27_0 := blk_frozen BK468.out 0; have hfz27_1 := blk_frozen BK468.out 1; have hfz27_2 := blk_frozen BK468.out 2; have hfz27_3 := blk_frozen BK468.out 3; have hfz27_4 := blk_frozen BK468.out 4; have hfz27_5 := blk_frozen BK468.out 5; have hcz28_0 : w25.cell? ⟨gb469, 0, none⟩ = some (.string a1_0) := (blk_cell BK469.out 0).trans rfl; have hcz28_1 : w25.cell? ⟨gb469, 1, none⟩ = some (.string a1_1) := (blk_cell BK469.out 1).trans rfl; have hcz28_2 : w25.cell? ⟨gb469, 2, none⟩ = some (.int .i64 a1_2) := (blk_cell BK469.out 2).trans rfl; have hcz28_3 : w25.cell? ⟨gb469, 3, none⟩ = some (.int .i64 a1_3) := (blk_cell BK469.out 3).trans rfl; have hcz28_4 : w25.cell? ⟨gb469, 4, none⟩ = some (.int .i64 a1_4) := (blk_cell BK469.out 4).trans rfl; have hcz28_5 : w25.cell? ⟨gb469, 5, none⟩ = some (.bool a1_5) := (blk_cell BK469.out 5).trans rfl; have hfz28_0 := blk_frozen BK469.out 0; have hfz28_1 := blk_frozen BK469.out 1; have hfz28_2 := blk_frozen BK469.out 2; have hfz28_3 := blk_frozen BK469.out 3; have hfz28_4 := blk_frozen BK469.out 4; have hfz28_5 := blk_frozen BK469.out 5))
          go_ret
          exact ⟨by first | rfl | (simp [errW_none, errW_some] <;> rfl) | (simp [*, errW_none, errW_some] <;> rfl), by repeat (first | (with_reducible first | exact HB.out | apply below_alloc | apply pw_below_drewN | apply below_drew1 | refine below_set ?_ GE468.out | refine below_set ?_ GE469.out) | exact HB.out)⟩
      · rw [if_neg c5] at H
        have c5b0 : (a0_2 == a1_2) = false := beq_eq_false_iff_ne.mpr c5
        have c5b1 : (a0_2 != a1_2) = true := bne_iff_ne.mpr c5
        obtain rfl := Option.some.inj H
        go_enter Tryd.func25, Tryd.ntmps25
        go_wp2_with (first | ((with_reducible refine gate_dst (N := 2) rfl ?_); refine box_event ?hg (N := 2) ?hd (cs := #[.string a0_0, .string a0_1, .int .i64 a0_2, .int .i64 a0_3, .int .i64 a0_4, .bool a0_5]) (t := 42) ?hr ?_; (case hd => rfl); (case hg => rfl); (case hr => first | (go_simp; done) | (go_simp; rfl)); intro gb468 hg w29 hbox hb; have n0_ := Aside0.mk (below_step (by repeat (first | (with_reducible first | exact HB.out | apply below_alloc | apply pw_below_drewN | apply below_drew1) | exact HB.out)) hb); have n1_ := Aside0.mk (hbox); have n2_ := Aside0.mk ((by rw [hg]; exact (below_size (by repeat (first | (with_reducible first | exact HB.out | apply below_alloc | apply pw_below_drewN | apply below_drew1) | exact HB.out))) : w.heap.size ≤ gb468)); have n3_ := Aside0.mk ((by rw [hg]; exact (below_size (by repeat (first | (with_reducible first | exact HB.out | apply below_alloc | apply pw_below_drewN | apply below_drew1) | exact HB.out))) : w.heap.size ≤ gb468)); clear HB; have HB := n0_; have BK468 := n1_; have GW468 := n2_; have GE468 := n3_; clear n0_ n1_ n2_ n3_; clear hb hbox hg) | ((with_reducible refine gate_dst (N := 3) rfl ?_); refine box_event ?hg (N := 3) ?hd (cs := #[.string a1_0, .string a1_1, .int .i64 a1_2, .int .i64 a1_3, .int .i64 a1_4, .bool a1_5]) (t := 42) ?hr ?_; (case hd => rfl); (case hg => rfl); (case hr => first | (go_simp; done) | (go_simp; rfl)); intro gb469 hg w30 hbox hb; have n0_ := Aside0.mk (blk_below (g := gb468) (o := .cells #[.string a0_0, .string a0_1, .int .i64 a0_2, .int .i64 a0_3, .int .i64 a0_4, .bool a0_5] 42 (0, 0)) (by (with_reducible repeat (first | refine blk_drewN ?_ _ | refine blk_drew ?_ | refine blk_alloc ?_ _)); exact BK468.out) hb); have n1_ := Aside0.mk (below_step (by repeat (first | (with_reducible first | exact HB.out | apply below_alloc | apply pw_below_drewN | apply below_drew1 | refine below_set ?_ GE468.out) | exact HB.out)) hb); have n2_ := Aside0.mk (hbox); have n3_ := Aside0.mk ((by rw [hg]; exact (below_size (by repeat (first | (with_reducible first | exact HB.out | apply below_alloc | apply pw_below_drewN | apply below_drew1 | refine below_set ?_ GE468.out) | exact HB.out))) : w.heap.size ≤ gb469)); have n4_ := Aside0.mk ((by rw [hg]; exact (below_size (by repeat (first | (with_reducible first | exact HB.out | apply below_alloc | apply pw_below_drewN | apply below_drew1 | refine below_set ?_ GE468.out) | exact HB.out))) : w.heap.size ≤ gb469)); have n5_ := Aside0.mk ((by rw [hg]; exact Nat.ne_of_lt (blk_lt (g := gb468) (o := .cells #[.string a0_0, .string a0_1, .int .i64 a0_2, .int .i64 a0_3, .int .i64 a0_4, .bool a0_5] 42 (0, 0)) (by (with_reducible repeat (first | refine blk_drewN ?_ _ | refine blk_drew ?_ | refine blk_alloc ?_ _)); exact BK468.out)) : gb468 ≠ gb469)); have n6_ := Aside0.mk ((by rw [hg]; exact Nat.ne_of_gt (blk_lt (g := gb468) (o := .cells #[.string a0_0, .string a0_1, .int .i64 a0_2, .int .i64 a0_3, .int .i64 a0_4, .bool a0_5] 42 (0, 0)) (by (with_reducible repeat (first | refine blk_drewN ?_ _ | refine blk_drew ?_ | refine blk_alloc ?_ _)); exact BK468.out)) : gb469 ≠ gb468)); clear BK468; clear HB; have BK468 := n0_; have HB := n1_; have BK469 := n2_; have GW469 := n3_; have GE469 := n4_; have NB468_469 := n5_; have NB469_468 := n6_; clear n0_ n1_ n2_ n3_ n4_ n5_ n6_; clear hb hbox hg; have hnb31 := NB468_469.out; have hnc31 := NB469_468.out; have hcz32_0 : w30.cell? ⟨gb468, 0, none⟩ = some (.string a0_0) := (blk_cell BK468.out 0).trans rfl; have hcz32_1 : w30.cell? ⟨gb468, 1, none⟩ = some (.string a0_1) := (blk_cell BK468.out 1).trans rfl; have hcz32_2 : w30.cell? ⟨gb468, 2, none⟩ = some (.int .i64 a0_2) := (blk_cell BK468.out 2).trans rfl; have hcz32_3 : w30.cell? ⟨gb468, 3, none⟩ = some (.int .i64 a0_3) := (blk_cell BK468.out 3).trans rfl; have hcz32_4 : w30.cell? ⟨gb468, 4, none⟩ = some (.int .i64 a0_4) := (blk_cell BK468.out 4).trans rfl; have hcz32_5 : w30.cell? ⟨gb468, 5, none⟩ = some (.bool a0_5) := (blk_cell BK468.out 5).trans rfl; have hfz32_0 := blk_frozen BK468.out 0; have hfz32_1 := blk_frozen BK468.out 1; have hfz32_2 := blk_frozen BK468.out 2; have hfz32_3 := blk_frozen BK468.out 3; have hfz32_4 := blk_frozen BK468.out 4; have hfz32_5 := blk_frozen BK468.out 5; have hcz33_0 : w30.cell? ⟨gb469, 0, none⟩ = some (.string a1_0) := (blk_cell BK469.out 0).trans rfl; have hcz33_1 : w30.cell? ⟨gb469, 1, none⟩ = some (.string a1_1) := (blk_cell BK469.out 1).trans rfl; have hcz33_2 : w30.cell? ⟨gb469, 2, none⟩ = some (.int .i64 a1_2) := (blk_cell BK469.out 2).trans rfl; have hcz33_3 : w30.cell? ⟨gb469, 3, none⟩ = some (.int .i64 a1_3) := (blk_cell BK469.out 3).trans rfl; have hcz33_4 : w30.cell? ⟨gb469, 4, none⟩ = some (.int .i64 a1_4) := (blk_cell BK469.out 4).trans rfl; have hcz33_5 : w30.cell? ⟨gb469, 5, none⟩ = some (.bool a1_5) := (blk_cell BK469.out 5).trans rfl; have hfz33_0 := blk_frozen BK469.out 0; have hfz33_1 := blk_frozen BK469.out 1; have hfz33_2 := blk_frozen BK469.out 2; have hfz33_3 := blk_frozen BK469.out 3; have hfz33_4 := blk_frozen BK469.out 4; have hfz33_5 := blk_frozen BK469.out 5))
        go_ret
        exact ⟨by first | rfl | (simp [errW_none, errW_some] <;> rfl) | (simp [*, errW_none, errW_some] <;> rfl), by repeat (first | (with_reducible first | exact HB.out | apply below_alloc | apply pw_below_drewN | apply below_drew1 | refine below_set ?_ GE468.out | refine below_set ?_ GE469.out) | exact HB.out)⟩
    · rw [if_neg c4] at H
      have c4b0 : (a0_1.toList == a1_1.toList) = false := beq_eq_false_iff_ne.mpr c4
      have c4b1 : (a0_1.toList != a1_1.toList) = true := bne_iff_ne.mpr c4
      obtain rfl := Option.some.inj H
      go_enter Tryd.func25, Tryd.ntmps25
      go_wp2_with (first | ((with_reducible refine gate_dst (N := 2) rfl ?_); refine box_event ?hg (N := 2) ?hd (cs := #[.string a0_0, .string a0_1, .int .i64 a0_2, .int .i64 a0_3, .int .i64 a0_4, .bool a0_5]) (t := 42) ?hr ?_; (case hd => rfl); (case hg => rfl); (case hr => first | (go_simp; done) | (go_simp; rfl)); intro gb468 hg w34 hbox hb; have n0_ := Aside0.mk (below_step (by repeat (first | (with_reducible first | exact HB.out | apply below_alloc | apply pw_below_drewN | apply below_drew1) | exact HB.out)) hb); have n1_ := Aside0.mk (hbox); have n2_ := Aside0.mk ((by rw [hg]; exact (below_size (by repeat (first | (with_reducible first | exact HB.out | apply below_alloc | apply pw_below_drewN | apply below_drew1) | exact HB.out))) : w.heap.size ≤ gb468)); have n3_ := Aside0.mk ((by rw [hg]; exact (below_size (by repeat (first | (with_reducible first | exact HB.out | apply below_alloc | apply pw_below_drewN | apply below_drew1) | exact HB.out))) : w.heap.size ≤ gb468)); clear HB; have HB := n0_; have BK468 := n1_; have GW468 := n2_; have GE468 := n3_; clear n0_ n1_ n2_ n3_; clear hb hbox hg) | ((with_reducible refine gate_dst (N := 3) rfl ?_); refine box_event ?hg (N := 3) ?hd (cs := #[.string a1_0, .string a1_1, .int .i64 a1_2, .int .i64 a1_3, .int .i64 a1_4, .bool a1_5]) (t := 42) ?hr ?_; (case hd => rfl); (case hg => rfl); (case hr => first | (go_simp; done) | (go_simp; rfl)); intro gb469 hg w35 hbox hb; have n0_ := Aside0.mk (blk_below (g := gb468) (o := .cells #[.string a0_0, .string a0_1, .int .i64 a0_2, .int .i64 a0_3, .int .i64 a0_4, .bool a0_5] 42 (0, 0)) (by (with_reducible repeat (first | refine blk_drewN ?_ _ | refine blk_drew ?_ | refine blk_alloc ?_ _)); exact BK468.out) hb); have n1_ := Aside0.mk (below_step (by repeat (first | (with_reducible first | exact HB.out | apply below_alloc | apply pw_below_drewN | apply below_drew1 | refine below_set ?_ GE468.out) | exact HB.out)) hb); have n2_ := Aside0.mk (hbox); have n3_ := Aside0.mk ((by rw [hg]; exact (below_size (by repeat (first | (with_reducible first | exact HB.out | apply below_alloc | apply pw_below_drewN | apply below_drew1 | refine below_set ?_ GE468.out) | exact HB.out))) : w.heap.size ≤ gb469)); have n4_ := Aside0.mk ((by rw [hg]; exact (below_size (by repeat (first | (with_reducible first | exact HB.out | apply below_alloc | apply pw_below_drewN | apply below_drew1 | refine below_set ?_ GE468.out) | exact HB.out))) : w.heap.size ≤ gb469)); have n5_ := Aside0.mk ((by rw [hg]; exact Nat.ne_of_lt (blk_lt (g := gb468) (o := .cells #[.string a0_0, .string a0_1, .int .i64 a0_2, .int .i64 a0_3, .int .i64 a0_4, .bool a0_5] 42 (0, 0)) (by (with_reducible repeat (first | refine blk_drewN ?_ _ | refine blk_drew ?_ | refine blk_alloc ?_ _)); exact BK468.out)) : gb468 ≠ gb469)); have n6_ := Aside0.mk ((by rw [hg]; exact Nat.ne_of_gt (blk_lt (g := gb468) (o := .cells #[.string a0_0, .string a0_1, .int .i64 a0_2, .int .i64 a0_3, .int .i64 a0_4, .bool a0_5] 42 (0, 0)) (by (with_reducible repeat (first | refine blk_drewN ?_ _ | refine blk_drew ?_ | refine blk_alloc ?_ _)); exact BK468.out)) : gb469 ≠ gb468)); clear BK468; clear HB; have BK468 := n0_; have HB := n1_; have BK469 := n2_; have GW469 := n3_; have GE469 := n4_; have NB468_469 := n5_; have NB469_468 := n6_; clear n0_ n1_ n2_ n3_ n4_ n5_ n6_; clear hb hbox hg; have hnb36 := NB468_469.out; have hnc36 := NB469_468.out; have hcz37_0 : w35.cell? ⟨gb468, 0, none⟩ = some (.string a0_0) := (blk_cell BK468.out 0).trans rfl; have hcz37_1 : w35.cell? ⟨gb468, 1, none⟩ = some (.string a0_1) := (blk_cell BK468.out 1).trans rfl; have hcz37_2 : w35.cell? ⟨gb468, 2, none⟩ = some (.int .i64 a0_2) := (blk_cell BK468.out 2).trans rfl; have hcz37_3 : w35.cell? ⟨gb468, 3, none⟩ = some (.int .i64 a0_3) := (blk_cell BK468.out 3).trans rfl; have hcz37_4 : w35.cell? ⟨gb468, 4, none⟩ = some (.int .i64 a0_4) := (blk_cell BK468.out 4).trans rfl; have hcz37_5 : w35.cell? ⟨gb468, 5, none⟩ = some (.bool a0_5) := (blk_cell BK468.out 5).trans rfl; have hfz37_0 := blk_frozen BK468.out 0; have hfz37_1 := blk_frozen BK468.out 1; have hfz37_2 := blk_frozen BK468.out 2; have hfz37_3 := blk_frozen BK468.out 3; have hfz37_4 := blk_frozen BK468.out 4; have hfz37_5 := blk_frozen BK468.out 5; have hcz38_0 : w35.cell? ⟨gb469, 0, none⟩ = some (.string a1_0) := (blk_cell BK469.out 0).trans rfl; have hcz38_1 : w35.cell? ⟨gb469, 1, none⟩ = some (.string a1_1) := (blk_cell BK469.out 1).trans rfl; have hcz38_2 : w35.cell? ⟨gb469, 2, none⟩ = some (.int .i64 a1_2) := (blk_cell BK469.out 2).trans rfl; have hcz38_3 : w35.cell? ⟨gb469, 3, none⟩ = some (.int .i64 a1_3) := (blk_cell BK469.out 3).trans rfl; have hcz38_4 : w35.cell? ⟨gb469, 4, none⟩ = some (.int .i64 a1_4) := (blk_cell BK469.out 4).trans rfl; have hcz38_5 : w35.cell? ⟨gb469, 5, none⟩ = some (.bool a1_5) := (blk_cell BK469.out 5).trans rfl; have hfz38_0 := blk_frozen BK469.out 0; have hfz38_1 := blk_frozen BK469.out 1; have hfz38_2 := blk_frozen BK469.out 2; have hfz38_3 := blk_frozen BK469.out 3; have hfz38_4 := blk_frozen BK469.out 4; have hfz38_5 := blk_frozen BK469.out 5))
      go_ret
      exact ⟨by first | rfl | (simp [errW_none, errW_some] <;> rfl) | (simp [*, errW_none, errW_some] <;> rfl), by repeat (first | (with_reducible first | exact HB.out | apply below_alloc | apply pw_below_drewN | apply below_drew1 | refine below_set ?_ GE468.out | refine below_set ?_ GE469.out) | exact HB.out)⟩
  · rw [if_neg c3] at H
    have c3b0 : (a0_0.toList == a1_0.toList) = false := beq_eq_false_iff_ne.mpr c3
    have c3b1 : (a0_0.toList != a1_0.toList) = true := bne_iff_ne.mpr c3
    obtain rfl := Option.some.inj H
    go_enter Tryd.func25, Tryd.ntmps25
    go_wp2_with (first | ((with_reducible refine gate_dst (N := 2) rfl ?_); refine box_event ?hg (N := 2) ?hd (cs := #[.string a0_0, .string a0_1, .int .i64 a0_2, .int .i64 a0_3, .int .i64 a0_4, .bool a0_5]) (t := 42) ?hr ?_; (case hd => rfl); (case hg => rfl); (case hr => first | (go_simp; done) | (go_simp; rfl)); intro gb468 hg w39 hbox hb; have n0_ := Aside0.mk (below_step (by repeat (first | (with_reducible first | exact HB.out | apply below_alloc | apply pw_below_drewN | apply below_drew1) | exact HB.out)) hb); have n1_ := Aside0.mk (hbox); have n2_ := Aside0.mk ((by rw [hg]; exact (below_size (by repeat (first | (with_reducible first | exact HB.out | apply below_alloc | apply pw_below_drewN | apply below_drew1) | exact HB.out))) : w.heap.size ≤ gb468)); have n3_ := Aside0.mk ((by rw [hg]; exact (below_size (by repeat (first | (with_reducible first | exact HB.out | apply below_alloc | apply pw_below_drewN | apply below_drew1) | exact HB.out))) : w.heap.size ≤ gb468)); clear HB; have HB := n0_; have BK468 := n1_; have GW468 := n2_; have GE468 := n3_; clear n0_ n1_ n2_ n3_; clear hb hbox hg) | ((with_reducible refine gate_dst (N := 3) rfl ?_); refine box_event ?hg (N := 3) ?hd (cs := #[.string a1_0, .string a1_1, .int .i64 a1_2, .int .i64 a1_3, .int .i64 a1_4, .bool a1_5]) (t := 42) ?hr ?_; (case hd => rfl); (case hg => rfl); (case hr => first | (go_simp; done) | (go_simp; rfl)); intro gb469 hg w40 hbox hb; have n0_ := Aside0.mk (blk_below (g := gb468) (o := .cells #[.string a0_0, .string a0_1, .int .i64 a0_2, .int .i64 a0_3, .int .i64 a0_4, .bool a0_5] 42 (0, 0)) (by (with_reducible repeat (first | refine blk_drewN ?_ _ | refine blk_drew ?_ | refine blk_alloc ?_ _)); exact BK468.out) hb); have n1_ := Aside0.mk (below_step (by repeat (first | (with_reducible first | exact HB.out | apply below_alloc | apply pw_below_drewN | apply below_drew1 | refine below_set ?_ GE468.out) | exact HB.out)) hb); have n2_ := Aside0.mk (hbox); have n3_ := Aside0.mk ((by rw [hg]; exact (below_size (by repeat (first | (with_reducible first | exact HB.out | apply below_alloc | apply pw_below_drewN | apply below_drew1 | refine below_set ?_ GE468.out) | exact HB.out))) : w.heap.size ≤ gb469)); have n4_ := Aside0.mk ((by rw [hg]; exact (below_size (by repeat (first | (with_reducible first | exact HB.out | apply below_alloc | apply pw_below_drewN | apply below_drew1 | refine below_set ?_ GE468.out) | exact HB.out))) : w.heap.size ≤ gb469)); have n5_ := Aside0.mk ((by rw [hg]; exact Nat.ne_of_lt (blk_lt (g := gb468) (o := .cells #[.string a0_0, .string a0_1, .int .i64 a0_2, .int .i64 a0_3, .int .i64 a0_4, .bool a0_5] 42 (0, 0)) (by (with_reducible repeat (first | refine blk_drewN ?_ _ | refine blk_drew ?_ | refine blk_alloc ?_ _)); exact BK468.out)) : gb468 ≠ gb469)); have n6_ := Aside0.mk ((by rw [hg]; exact Nat.ne_of_gt (blk_lt (g := gb468) (o := .cells #[.string a0_0, .string a0_1, .int .i64 a0_2, .int .i64 a0_3, .int .i64 a0_4, .bool a0_5] 42 (0, 0)) (by (with_reducible repeat (first | refine blk_drewN ?_ _ | refine blk_drew ?_ | refine blk_alloc ?_ _)); exact BK468.out)) : gb469 ≠ gb468)); clear BK468; clear HB; have BK468 := n0_; have HB := n1_; have BK469 := n2_; have GW469 := n3_; have GE469 := n4_; have NB468_469 := n5_; have NB469_468 := n6_; clear n0_ n1_ n2_ n3_ n4_ n5_ n6_; clear hb hbox hg; have hnb41 := NB468_469.out; have hnc41 := NB469_468.out; have hcz42_0 : w40.cell? ⟨gb468, 0, none⟩ = some (.string a0_0) := (blk_cell BK468.out 0).trans rfl; have hcz42_1 : w40.cell? ⟨gb468, 1, none⟩ = some (.string a0_1) := (blk_cell BK468.out 1).trans rfl; have hcz42_2 : w40.cell? ⟨gb468, 2, none⟩ = some (.int .i64 a0_2) := (blk_cell BK468.out 2).trans rfl; have hcz42_3 : w40.cell? ⟨gb468, 3, none⟩ = some (.int .i64 a0_3) := (blk_cell BK468.out 3).trans rfl; have hcz42_4 : w40.cell? ⟨gb468, 4, none⟩ = some (.int .i64 a0_4) := (blk_cell BK468.out 4).trans rfl; have hcz42_5 : w40.cell? ⟨gb468, 5, none⟩ = some (.bool a0_5) := (blk_cell BK468.out 5).trans rfl; have hfz42_0 := blk_frozen BK468.out 0; have hfz42_1 := blk_frozen BK468.out 1; have hfz42_2 := blk_frozen BK468.out 2; have hfz42_3 := blk_frozen BK468.out 3; have hfz42_4 := blk_frozen BK468.out 4; have hfz42_5 := blk_frozen BK468.out 5; have hcz43_0 : w40.cell? ⟨gb469, 0, none⟩ = some (.string a1_0) := (blk_cell BK469.out 0).trans rfl; have hcz43_1 : w40.cell? ⟨gb469, 1, none⟩ = some (.string a1_1) := (blk_cell BK469.out 1).trans rfl; have hcz43_2 : w40.cell? ⟨gb469, 2, none⟩ = some (.int .i64 a1_2) := (blk_cell BK469.out 2).trans rfl; have hcz43_3 : w40.cell? ⟨gb469, 3, none⟩ = some (.int .i64 a1_3) := (blk_cell BK469.out 3).trans rfl; have hcz43_4 : w40.cell? ⟨gb469, 4, none⟩ = some (.int .i64 a1_4) := (blk_cell BK469.out 4).trans rfl; have hcz43_5 : w40.cell? ⟨gb469, 5, none⟩ = some (.bool a1_5) := (blk_cell BK469.out 5).trans rfl; have hfz43_0 := blk_frozen BK469.out 0; have hfz43_1 := blk_frozen BK469.out 1; have hfz43_2 := blk_frozen BK469.out 2; have hfz43_3 := blk_frozen BK469.out 3; have hfz43_4 := blk_frozen BK469.out 4; have hfz43_5 := blk_frozen BK469.out 5))
    go_ret
    exact ⟨by first | rfl | (simp [errW_none, errW_some] <;> rfl) | (simp [*, errW_none, errW_some] <;> rfl), by repeat (first | (with_reducible first | exact HB.out | apply below_alloc | apply pw_below_drewN | apply below_drew1 | refine below_set ?_ GE468.out | refine below_set ?_ GE469.out) | exact HB.out)⟩

end Go.Proofs.YteghpdmlpefnfaaDoor.Q

namespace Go.Proofs.YteghpdmlpefnfaaDoor.Q
open Go.RowKit Go.Proofs.YteghpdmlpefnfaaDoorW.PrintWords Go.Proofs.YteghpdmlpefnfaaDoorW.PrintLast Go.Proofs.YteghpdmlpefnfaaDoorW.PrintMore
attribute [local go_sem] max2_int min2_int max_two min_two max_three min_three max_four min_four   -- for this text's walks alone
set_option linter.unusedVariables false
set_option linter.unusedSimpArgs false

/-! ### laws_FnExactOrderAt: function 6 -/
def laws_FnExactOrderAt.j0 : Nat → List (S68) → List (S71) → Bool → Option (Bool)
  | 0, _, _, _ => none
  | k + 1, x0, x8, x42 => if x42 = true then (some false) else ((laws_toPairS.f k x0).bind fun t494 => ((laws_eqPairS.f k x8 t494).bind fun t497 => (if t497 = true then (some true) else (some false))))
def laws_FnExactOrderAt.f (k : Nat) (l0 : List (S68)) (a1 : ByteArray) : Option (Bool) := if (a1.size : Int) > 1048576 then (some true) else ((laws_szPairS.f k l0 1048576).bind fun t470 => (if t470 < 0 then (some true) else ((laws_toPairS.f k l0).bind fun t471 => ((spec_OrderAt.f k t471 a1).bind fun bt474 => ((laws_toPairS.f k l0).bind fun t482 => ((impl_OrderAt.f k t482 a1).bind fun bt485 => ((laws_eqOrder.f bt485.1 bt485.2.1 bt485.2.2.1 bt485.2.2.2.1 bt485.2.2.2.2.1 bt485.2.2.2.2.2.1 bt474.1 bt474.2.1 bt474.2.2.1 bt474.2.2.2.1 bt474.2.2.2.2.1 bt474.2.2.2.2.2.1).bind fun t493 => (if t493 = true then (laws_FnExactOrderAt.j0 k l0 t482 (bt485.2.2.2.2.2.2 != bt474.2.2.2.2.2.2)) else (laws_FnExactOrderAt.j0 k l0 t482 true)))))))))
set_option maxHeartbeats 8000000 in
set_option maxRecDepth 100000 in
theorem laws_FnExactOrderAt.calls (k : Nat) (A0 : Option Addr) (c0 : Nat) (l0 : List (S68)) (a1 : ByteArray) (r : Bool) (w : World) (hr0 : Kd.C k68 w A0 l0.length l0) (hc0 : l0.length ≤ c0) (hT0 : TabsOK w) (h : laws_FnExactOrderAt.f k l0 a1 = some r) :
    Calls Tryd.prog 6 #[.slice A0 l0.length c0, .string a1] w fun e w' => e = .returned (.bool r) ∧ Below w.heap.size w w' := by
  have HT0 := Aside0.mk hT0
  clear hT0
  have hu42 := Tryd.underlying42
  have HR0 := Aside0.mk hr0
  have HC0 := Aside0.mk hc0
  clear hr0 hc0
  have HB := Aside0.mk (Below.refl w.heap.size w)
  have H : (if (a1.size : Int) > 1048576 then (some true) else ((laws_szPairS.f k l0 1048576).bind fun t470 => (if t470 < 0 then (some true) else ((laws_toPairS.f k l0).bind fun t471 => ((spec_OrderAt.f k t471 a1).bind fun bt474 => ((laws_toPairS.f k l0).bind fun t482 => ((impl_OrderAt.f k t482 a1).bind fun bt485 => ((laws_eqOrder.f bt485.1 bt485.2.1 bt485.2.2.1 bt485.2.2.2.1 bt485.2.2.2.2.1 bt485.2.2.2.2.2.1 bt474.1 bt474.2.1 bt474.2.2.1 bt474.2.2.2.1 bt474.2.2.2.2.1 bt474.2.2.2.2.2.1).bind fun t493 => (if t493 = true then (laws_FnExactOrderAt.j0 k l0 t482 (bt485.2.2.2.2.2.2 != bt474.2.2.2.2.2.2)) else (laws_FnExactOrderAt.j0 k l0 t482 true)))))))))) = some r := h
  clear h
  by_cases c3 : (a1.size : Int) > 1048576
  · rw [if_pos c3] at H
    have c3b0 : decide (1048576 < (a1.size : Int)) = true := decide_eq_true c3
    have c3b1 : decide (1048576 < a1.size) = true := decide_eq_true (by omega)
    clear c3
    obtain rfl := Option.some.inj H
    go_enter Tryd.func6, Tryd.ntmps6
    go_wp2
    go_ret
    exact ⟨by first | rfl | (simp [errW_none, errW_some] <;> rfl) | (simp [*, errW_none, errW_some] <;> rfl), by repeat (first | (with_reducible first | exact HB.out | apply below_alloc | apply pw_below_drewN | apply below_drew1) | exact HB.out)⟩
  · rw [if_neg c3] at H
    have c3b0 : decide (1048576 < (a1.size : Int)) = false := decide_eq_false c3
    have c3b1 : decide (1048576 < a1.size) = false := decide_eq_false (by omega)
    clear c3
    replace H := Option.bind_eq_some_iff.mp H
    obtain ⟨t470, A40, H⟩ := H
    replace H : (if t470 < 0 then (some true) else ((laws_toPairS.f k l0).bind fun t471 => ((spec_OrderAt.f k t471 a1).bind fun bt474 => ((laws_toPairS.f k l0).bind fun t482 => ((impl_OrderAt.f k t482 a1).bind fun bt485 => ((laws_eqOrder.f bt485.1 bt485.2.1 bt485.2.2.1 bt485.2.2.2.1 bt485.2.2.2.2.1 bt485.2.2.2.2.2.1 bt474.1 bt474.2.1 bt474.2.2.1 bt474.2.2.2.1 bt474.2.2.2.2.1 bt474.2.2.2.2.2.1).bind fun t493 => (if t493 = true then (laws_FnExactOrderAt.j0 k l0 t482 (bt485.2.2.2.2.2.2 != bt474.2.2.2.2.2.2)) else (laws_FnExactOrderAt.j0 k l0 t482 true)))))))) = some r := H
    have A4 := Aside0.mk A40
    clear A40
    by_cases c5 : t470 < 0
    · rw [if_pos c5] at H
      have c5b0 : decide (t470 < 0) = true := decide_eq_true c5
      clear c5
      obtain rfl := Option.some.inj H
      go_enter Tryd.func6, Tryd.ntmps6
      go_wp2_with (first | ((with_reducible refine gate_callee (f := 17) rfl ?_); refine goesL_ (some 16) rfl rfl Tryd.func17 (by kernel_rfl) rfl #[.slice A0 l0.length c0, .int .i64 1048576] rfl (by (try simp only [List.map_toArray, List.map_cons, List.map_nil]); first | done | rfl | (simp only [List.length_drop, List.length_take]; rfl)) ?_; (with_reducible refine (laws_szPairS.calls k _ _ l0 1048576 t470 _ ?side1 ?side2 A4.out).mono ?_); (case side1 => repeat (first | exact HR0.out | (with_reducible refine Kd.C_alloc ?_ _) | (with_reducible refine Kd.C_drewN ?_ _) | (with_reducible refine Kd.C_drew ?_))); (case side2 => exact HC0.out); rintro e w6 ⟨rfl, hb⟩; refine ⟨_, rfl, ?_⟩; have n0_ := Aside0.mk (below_step (by repeat (first | (with_reducible first | exact HB.out | apply below_alloc | apply pw_below_drewN | apply below_drew1) | exact HB.out)) hb); clear HB; have HB := n0_; clear n0_; (try clear hb); (try clear hb2); (try clear hk); (try clear hi)))
      go_ret
      exact ⟨by first | rfl | (simp [errW_none, errW_some] <;> rfl) | (simp [*, errW_none, errW_some] <;> rfl), by repeat (first | (with_reducible first | exact HB.out | apply below_alloc | apply pw_below_drewN | apply below_drew1) | exact HB.out)⟩
    · rw [if_neg c5] at H
      have c5b0 : decide (t470 < 0) = false := decide_eq_false c5
      clear c5
      replace H := Option.bind_eq_some_iff.mp H
      obtain ⟨t471, A70, H⟩ := H
      replace H : ((spec_OrderAt.f k t471 a1).bind fun bt474 => ((laws_toPairS.f k l0).bind fun t482 => ((impl_OrderAt.f k t482 a1).bind fun bt485 => ((laws_eqOrder.f bt485.1 bt485.2.1 bt485.2.2.1 bt485.2.2.2.1 bt485.2.2.2.2.1 bt485.2.2.2.2.2.1 bt474.1 bt474.2.1 bt474.2.2.1 bt474.2.2.2.1 bt474.2.2.2.2.1 bt474.2.2.2.2.2.1).bind fun t493 => (if t493 = true then (laws_FnExactOrderAt.j0 k l0 t482 (bt485.2.2.2.2.2.2 != bt474.2.2.2.2.2.2)) else (laws_FnExactOrderAt.j0 k l0 t482 true)))))) = some r := H
      have A7 := Aside0.mk A70
      clear A70
      replace H := Option.bind_eq_some_iff.mp H
      obtain ⟨⟨t474, t475, t476, t477, t478, t479, t480⟩, A80, H⟩ := H
      replace H : ((laws_toPairS.f k l0).bind fun t482 => ((impl_OrderAt.f k t482 a1).bind fun bt485 => ((laws_eqOrder.f bt485.1 bt485.2.1 bt485.2.2.1 bt485.2.2.2.1 bt485.2.2.2.2.1 bt485.2.2.2.2.2.1 t474 t475 t476 t477 t478 t479).bind fun t493 => (if t493 = true then (laws_FnExactOrderAt.j0 k l0 t482 (bt485.2.2.2.2.2.2 != t480)) else (laws_FnExactOrderAt.j0 k l0 t482 true))))) = some r := H
      have A8 := Aside0.mk A80
      clear A80
      replace H := Option.bind_eq_some_iff.mp H
      obtain ⟨t482, A90, H⟩ := H
      replace H : ((impl_OrderAt.f k t482 a1).bind fun bt485 => ((laws_eqOrder.f bt485.1 bt485.2.1 bt485.2.2.1 bt485.2.2.2.1 bt485.2.2.2.2.1 bt485.2.2.2.2.2.1 t474 t475 t476 t477 t478 t479).bind fun t493 => (if t493 = true then (laws_FnExactOrderAt.j0 k l0 t482 (bt485.2.2.2.2.2.2 != t480)) else (laws_FnExactOrderAt.j0 k l0 t482 true)))) = some r := H
      have A9 := Aside0.mk A90
      clear A90
      replace H := Option.bind_eq_some_iff.mp H
      obtain ⟨⟨t485, t486, t487, t488, t489, t490, t491⟩, A100, H⟩ := H
      replace H : ((laws_eqOrder.f t485 t486 t487 t488 t489 t490 t474 t475 t476 t477 t478 t479).bind fun t493 => (if t493 = true then (laws_FnExactOrderAt.j0 k l0 t482 (t491 != t480)) else (laws_FnExactOrderAt.j0 k l0 t482 true))) = some r := H
      have A10 := Aside0.mk A100
      clear A100
      have HC11 := Aside0.mk H
      clear H
      go_enter Tryd.func6, Tryd.ntmps6
      go_upto_region 10 with (first | ((with_reducible refine gate_callee (f := 17) rfl ?_); refine goesL_ (some 16) rfl rfl Tryd.func17 (by kernel_rfl) rfl #[.slice A0 l0.length c0, .int .i64 1048576] rfl (by (try simp only [List.map_toArray, List.map_cons, List.map_nil]); first | done | rfl | (simp only [List.length_drop, List.length_take]; rfl)) ?_; (with_reducible refine (laws_szPairS.calls k _ _ l0 1048576 t470 _ ?side1 ?side2 A4.out).mono ?_); (case side1 => repeat (first | exact HR0.out | (with_reducible refine Kd.C_alloc ?_ _) | (with_reducible refine Kd.C_drewN ?_ _) | (with_reducible refine Kd.C_drew ?_))); (case side2 => exact HC0.out); rintro e w12 ⟨rfl, hb⟩; refine ⟨_, rfl, ?_⟩; have n0_ := Aside0.mk (below_step (by repeat (first | (with_reducible first | exact HB.out | apply below_alloc | apply pw_below_drewN | apply below_drew1) | exact HB.out)) hb); clear HB; have HB := n0_; clear n0_; (try clear hb); (try clear hb2); (try clear hk); (try clear hi)) | ((with_reducible refine gate_callee (f := 19) rfl ?_); refine goesL_ (some 21) rfl rfl Tryd.func19 (by kernel_rfl) rfl #[.slice A0 l0.length c0] rfl (by (try simp only [List.map_toArray, List.map_cons, List.map_nil]); first | done | rfl | (simp only [List.length_drop, List.length_take]; rfl)) ?_; (with_reducible refine (laws_toPairS.calls k _ _ l0 t471 _ ?side1 ?side2 A7.out).mono ?_); (case side1 => repeat (first | exact (Kd.C_below HR0.out HB.out) | (with_reducible refine Kd.C_alloc ?_ _) | (with_reducible refine Kd.C_drewN ?_ _) | (with_reducible refine Kd.C_drew ?_))); (case side2 => exact HC0.out); rintro e w13 ⟨v472, rfl, ho0, hb⟩; refine ⟨_, rfl, ?_⟩; have n0_ := Aside0.mk (Kd.R_lower ho0 (below_size (by repeat (first | (with_reducible first | exact HB.out | apply below_alloc | apply pw_below_drewN | apply below_drew1) | exact HB.out)))); have n1_ := Aside0.mk (below_step (by repeat (first | (with_reducible first | exact HB.out | apply below_alloc | apply pw_below_drewN | apply below_drew1) | exact HB.out)) hb); clear HB; have HO473 := n0_; have HB := n1_; clear n0_ n1_; (try clear hb); (try clear hb2); (try clear hk); (try clear hi); (try clear ho0); obtain ⟨Ao14, co14, eo14⟩ := Kd.R_slice HO473.out; subst eo14) | ((with_reducible refine gate_callee (f := 23) rfl ?_); refine goesL_ (some 23) rfl rfl Tryd.func23 (by kernel_rfl) rfl #[.slice Ao14 t471.length co14, .string a1] rfl (by (try simp only [List.map_toArray, List.map_cons, List.map_nil]); first | done | rfl | (simp only [List.length_drop, List.length_take]; rfl)) ?_; (with_reducible refine (spec_OrderAt.calls k _ _ t471 a1 t474 t475 t476 t477 t478 t479 t480 _ ?side1 ?side2 A8.out).mono ?_); (case side1 => repeat (first | exact (Kd.R_reads' HO473.out).2.2 | (with_reducible refine Kd.C_alloc ?_ _) | (with_reducible refine Kd.C_drewN ?_ _) | (with_reducible refine Kd.C_drew ?_))); (case side2 => exact (Kd.R_reads' HO473.out).2.1); rintro e w15 ⟨rfl, hb⟩; refine ⟨_, rfl, ?_⟩; have n0_ := Aside0.mk (Kd.R_below (by (with_reducible repeat (first | apply Kd.R_alloc | apply Kd.R_drewN | apply Kd.R_drew)); exact HO473.out) hb); have n1_ := Aside0.mk (below_step (by repeat (first | (with_reducible first | exact HB.out | apply below_alloc | apply pw_below_drewN | apply below_drew1) | exact HB.out)) hb); clear HO473; clear HB; have HO473 := n0_; have HB := n1_; clear n0_ n1_; (try clear hb); (try clear hb2); (try clear hk); (try clear hi)) | ((with_reducible refine gate_dst (N := 6) rfl ?_); refine box_event ?hg (N := 6) ?hd (cs := #[.string (⟨#[]⟩ : ByteArray), .string (⟨#[]⟩ : ByteArray), .int .i64 0, .int .i64 0, .int .i64 0, .bool false]) (t := 42) ?hr ?_; (case hd => rfl); (case hg => rfl); (case hr => first | (go_simp; done) | (go_simp; rfl)); intro gb481 hg w16 hbox hb; have n0_ := Aside0.mk (Kd.R_below (by (with_reducible repeat (first | apply Kd.R_alloc | apply Kd.R_drewN | apply Kd.R_drew)); exact HO473.out) hb); have n1_ := Aside0.mk (below_step (by repeat (first | (with_reducible first | exact HB.out | apply below_alloc | apply pw_below_drewN | apply below_drew1) | exact HB.out)) hb); have n2_ := Aside0.mk (hbox); have n3_ := Aside0.mk ((by rw [hg]; exact (below_size (by repeat (first | (with_reducible first | exact HB.out | apply below_alloc | apply pw_below_drewN | apply below_drew1) | exact HB.out))) : w.heap.size ≤ gb481)); have n4_ := Aside0.mk ((by rw [hg]; exact (below_size (by repeat (first | (with_reducible first | exact HB.out | apply below_alloc | apply pw_below_drewN | apply below_drew1) | exact HB.out))) : w.heap.size ≤ gb481)); clear HO473; clear HB; have HO473 := n0_; have HB := n1_; have BK481 := n2_; have GW481 := n3_; have GE481 := n4_; clear n0_ n1_ n2_ n3_ n4_; clear hb hbox hg; have hcz17_0 : w16.cell? ⟨gb481, 0, none⟩ = some (.string (⟨#[]⟩ : ByteArray)) := (blk_cell BK481.out 0).trans rfl; have hcz17_1 : w16.cell? ⟨gb481, 1, none⟩ = some (.string (⟨#[]⟩ : ByteArray)) := (blk_cell BK481.out 1).trans rfl; have hcz17_2 : w16.cell? ⟨gb481, 2, none⟩ = some (.int .i64 0) := (blk_cell BK481.out 2).trans rfl; have hcz17_3 : w16.cell? ⟨gb481, 3, none⟩ = some (.int .i64 0) := (blk_cell BK481.out 3).trans rfl; have hcz17_4 : w16.cell? ⟨gb481, 4, none⟩ = some (.int .i64 0) := (blk_cell BK481.out 4).trans rfl; have hcz17_5 : w16.cell? ⟨gb481, 5, none⟩ = some (.bool false) := (blk_cell BK481.out 5).trans rfl; have hfz17_0 := blk_frozen BK481.out 0; have hfz17_1 := blk_frozen BK481.out 1; have hfz17_2 := blk_frozen BK481.out 2; have hfz17_3 := blk_frozen BK481.out 3; have hfz17_4 := blk_frozen BK481.out 4; have hfz17_5 := blk_frozen BK481.out 5) | ((with_reducible refine gate_callee (f := 19) rfl ?_); refine goesL_ (some 27) rfl rfl Tryd.func19 (by kernel_rfl) rfl #[.slice A0 l0.length c0] rfl (by (try simp only [List.map_toArray, List.map_cons, List.map_nil]); first | done | rfl | (simp only [List.length_drop, List.length_take]; rfl)) ?_; (with_reducible refine (laws_toPairS.calls k _ _ l0 t482 _ ?side1 ?side2 A9.out).mono ?_); (case side1 => exact Kd.C_below HR0.out (by repeat (first | (with_reducible first | exact HB.out | apply below_alloc | apply pw_below_drewN | apply below_drew1 | refine below_set ?_ GE481.out) | exact HB.out))); (case side2 => exact HC0.out); rintro e w18 ⟨v483, rfl, ho0, hb⟩; refine ⟨_, rfl, ?_⟩; have n0_ := Aside0.mk (Kd.R_elder' (by (with_reducible repeat (first | apply Kd.R_alloc | apply Kd.R_drewN | apply Kd.R_drew)); exact (Kd.R_mono (Kd.R_far (p := ⟨gb481, 5, none⟩) (Kd.R_far (p := ⟨gb481, 4, none⟩) (Kd.R_far (p := ⟨gb481, 3, none⟩) (Kd.R_far (p := ⟨gb481, 2, none⟩) (Kd.R_far (p := ⟨gb481, 1, none⟩) (Kd.R_far (p := ⟨gb481, 0, none⟩) (Kd.R_types HO473.out BK481.out (by decide)) (fun _ hk => hk.2) (.string t474)) (fun _ hk => hk.2) (.string t475)) (fun _ hk => hk.2) (.int .i64 t476)) (fun _ hk => hk.2) (.int .i64 t477)) (fun _ hk => hk.2) (.int .i64 t478)) (fun _ hk => hk.2) (.bool t479)) (fun _ h_ => h_.1))) (Kd.R_base ho0) hb); have n1_ := Aside0.mk (Kd.R_lower (Kd.R_new' ho0 (Kd.R_lt (by (with_reducible repeat (first | apply Kd.R_alloc | apply Kd.R_drewN | apply Kd.R_drew)); exact (Kd.R_mono (Kd.R_far (p := ⟨gb481, 5, none⟩) (Kd.R_far (p := ⟨gb481, 4, none⟩) (Kd.R_far (p := ⟨gb481, 3, none⟩) (Kd.R_far (p := ⟨gb481, 2, none⟩) (Kd.R_far (p := ⟨gb481, 1, none⟩) (Kd.R_far (p := ⟨gb481, 0, none⟩) (Kd.R_types HO473.out BK481.out (by decide)) (fun _ hk => hk.2) (.string t474)) (fun _ hk => hk.2) (.string t475)) (fun _ hk => hk.2) (.int .i64 t476)) (fun _ hk => hk.2) (.int .i64 t477)) (fun _ hk => hk.2) (.int .i64 t478)) (fun _ hk => hk.2) (.bool t479)) (fun _ h_ => h_.1))))) (below_size (by repeat (first | (with_reducible first | exact HB.out | apply below_alloc | apply pw_below_drewN | apply below_drew1 | refine below_set ?_ GE481.out) | exact HB.out)))); have n2_ := Aside0.mk (blk_below (g := gb481) (o := .cells #[.string t474, .string t475, .int .i64 t476, .int .i64 t477, .int .i64 t478, .bool t479] 42 (0, 0)) (by (with_reducible repeat (first | refine blk_drewN ?_ _ | refine blk_drew ?_ | refine blk_alloc ?_ _)); refine blk_put (cs := #[.string t474, .string t475, .int .i64 t476, .int .i64 t477, .int .i64 t478, .bool false]) ?_ 5 _ rfl; (with_reducible repeat (first | refine blk_drewN ?_ _ | refine blk_drew ?_ | refine blk_alloc ?_ _)); refine blk_put (cs := #[.string t474, .string t475, .int .i64 t476, .int .i64 t477, .int .i64 0, .bool false]) ?_ 4 _ rfl; (with_reducible repeat (first | refine blk_drewN ?_ _ | refine blk_drew ?_ | refine blk_alloc ?_ _)); refine blk_put (cs := #[.string t474, .string t475, .int .i64 t476, .int .i64 0, .int .i64 0, .bool false]) ?_ 3 _ rfl; (with_reducible repeat (first | refine blk_drewN ?_ _ | refine blk_drew ?_ | refine blk_alloc ?_ _)); refine blk_put (cs := #[.string t474, .string t475, .int .i64 0, .int .i64 0, .int .i64 0, .bool false]) ?_ 2 _ rfl; (with_reducible repeat (first | refine blk_drewN ?_ _ | refine blk_drew ?_ | refine blk_alloc ?_ _)); refine blk_put (cs := #[.string t474, .string (⟨#[]⟩ : ByteArray), .int .i64 0, .int .i64 0, .int .i64 0, .bool false]) ?_ 1 _ rfl; (with_reducible repeat (first | refine blk_drewN ?_ _ | refine blk_drew ?_ | refine blk_alloc ?_ _)); refine blk_put (cs := #[.string (⟨#[]⟩ : ByteArray), .string (⟨#[]⟩ : ByteArray), .int .i64 0, .int .i64 0, .int .i64 0, .bool false]) ?_ 0 _ rfl; (with_reducible repeat (first | refine blk_drewN ?_ _ | refine blk_drew ?_ | refine blk_alloc ?_ _)); exact BK481.out) hb); have n3_ := Aside0.mk (below_step (by repeat (first | (with_reducible first | exact HB.out | apply below_alloc | apply pw_below_drewN | apply below_drew1 | refine below_set ?_ GE481.out) | exact HB.out)) hb); clear HO473; clear BK481; clear HB; have HO473 := n0_; have HO484 := n1_; have BK481 := n2_; have HB := n3_; clear n0_ n1_ n2_ n3_; (try clear hb); (try clear hb2); (try clear hk); (try clear hi); (try clear ho0); obtain ⟨Ao19, co19, eo19⟩ := Kd.R_slice HO484.out; subst eo19) | ((with_reducible refine gate_callee (f := 24) rfl ?_); refine goesL_ (some 31) rfl rfl Tryd.func24 (by kernel_rfl) rfl #[.slice Ao19 t482.length co19, .string a1] rfl (by (try simp only [List.map_toArray, List.map_cons, List.map_nil]); first | done | rfl | (simp only [List.length_drop, List.length_take]; rfl)) ?_; (with_reducible refine (impl_OrderAt.calls k _ _ t482 a1 t485 t486 t487 t488 t489 t490 t491 _ ?side1 ?side2 (HT0.out.below (by repeat (first | (with_reducible first | exact HB.out | apply below_alloc | apply pw_below_drewN | apply below_drew1 | refine below_set ?_ GE481.out | refine below_set ?_ GE492.out) | exact HB.out))) A10.out).mono ?_); (case side1 => repeat (first | exact (Kd.R_reads' HO484.out).2.2 | (with_reducible refine Kd.C_alloc ?_ _) | (with_reducible refine Kd.C_drewN ?_ _) | (with_reducible refine Kd.C_drew ?_))); (case side2 => exact (Kd.R_reads' HO484.out).2.1); rintro e w20 ⟨rfl, hb⟩; refine ⟨_, rfl, ?_⟩; have n0_ := Aside0.mk (Kd.R_below (by (with_reducible repeat (first | apply Kd.R_alloc | apply Kd.R_drewN | apply Kd.R_drew)); exact HO473.out) hb); have n1_ := Aside0.mk (Kd.R_below (by (with_reducible repeat (first | apply Kd.R_alloc | apply Kd.R_drewN | apply Kd.R_drew)); exact HO484.out) hb); have n2_ := Aside0.mk (blk_below (g := gb481) (o := .cells #[.string t474, .string t475, .int .i64 t476, .int .i64 t477, .int .i64 t478, .bool t479] 42 (0, 0)) (by (with_reducible repeat (first | refine blk_drewN ?_ _ | refine blk_drew ?_ | refine blk_alloc ?_ _)); exact BK481.out) hb); have n3_ := Aside0.mk (below_step (by repeat (first | (with_reducible first | exact HB.out | apply below_alloc | apply pw_below_drewN | apply below_drew1 | refine below_set ?_ GE481.out) | exact HB.out)) hb); clear HO473; clear HO484; clear BK481; clear HB; have HO473 := n0_; have HO484 := n1_; have BK481 := n2_; have HB := n3_; clear n0_ n1_ n2_ n3_; (try clear hb); (try clear hb2); (try clear hk); (try clear hi)) | ((with_reducible refine gate_dst (N := 9) rfl ?_); refine box_event ?hg (N := 9) ?hd (cs := #[.string (⟨#[]⟩ : ByteArray), .string (⟨#[]⟩ : ByteArray), .int .i64 0, .int .i64 0, .int .i64 0, .bool false]) (t := 42) ?hr ?_; (case hd => rfl); (case hg => rfl); (case hr => first | (go_simp; done) | (go_simp; rfl)); intro gb492 hg w21 hbox hb; have n0_ := Aside0.mk (Kd.R_below (by (with_reducible repeat (first | apply Kd.R_alloc | apply Kd.R_drewN | apply Kd.R_drew)); exact HO473.out) hb); have n1_ := Aside0.mk (Kd.R_below (by (with_reducible repeat (first | apply Kd.R_alloc | apply Kd.R_drewN | apply Kd.R_drew)); exact HO484.out) hb); have n2_ := Aside0.mk (blk_below (g := gb481) (o := .cells #[.string t474, .string t475, .int .i64 t476, .int .i64 t477, .int .i64 t478, .bool t479] 42 (0, 0)) (by (with_reducible repeat (first | refine blk_drewN ?_ _ | refine blk_drew ?_ | refine blk_alloc ?_ _)); exact BK481.out) hb); have n3_ := Aside0.mk (below_step (by repeat (first | (with_reducible first | exact HB.out | apply below_alloc | apply pw_below_drewN | apply below_drew1 | refine below_set ?_ GE481.out) | exact HB.out)) hb); have n4_ := Aside0.mk (hbox); have n5_ := Aside0.mk ((by rw [hg]; exact (below_size (by repeat (first | (with_reducible first | exact HB.out | apply below_alloc | apply pw_below_drewN | apply below_drew1 | refine below_set ?_ GE481.out) | exact HB.out))) : w.heap.size ≤ gb492)); have n6_ := Aside0.mk ((by rw [hg]; exact (below_size (by repeat (first | (with_reducible first | exact HB.out | apply below_alloc | apply pw_below_drewN | apply below_drew1 | refine below_set ?_ GE481.out) | exact HB.out))) : w.heap.size ≤ gb492)); have n7_ := Aside0.mk ((by rw [hg]; exact Nat.ne_of_lt (blk_lt (g := gb481) (o := .cells #[.string t474, .string t475, .int .i64 t476, .int .i64 t477, .int .i64 t478, .bool t479] 42 (0, 0)) (by (with_reducible repeat (first | refine blk_drewN ?_ _ | refine blk_drew ?_ | refine blk_alloc ?_ _)); exact BK481.out)) : gb481 ≠ gb492)); have n8_ := Aside0.mk ((by rw [hg]; exact Nat.ne_of_gt (blk_lt (g := gb481) (o := .cells #[.string t474, .string t475, .int .i64 t476, .int .i64 t477, .int .i64 t478, .bool t479] 42 (0, 0)) (by (with_reducible repeat (first | refine blk_drewN ?_ _ | refine blk_drew ?_ | refine blk_alloc ?_ _)); exact BK481.out)) : gb492 ≠ gb481)); clear HO473; clear HO484; clear BK481; clear HB; have HO473 := n0_; have HO484 := n1_; have BK481 := n2_; have HB := n3_; have BK492 := n4_; have GW492 := n5_; have GE492 := n6_; have NB481_492 := n7_; have NB492_481 := n8_; clear n0_ n1_ n2_ n3_ n4_ n5_ n6_ n7_ n8_; clear hb hbox hg; have hnb22 := NB492_481.out; have hnc22 := NB481_492.out; have hcz23_0 : w21.cell? ⟨gb492, 0, none⟩ = some (.string (⟨#[]⟩ : ByteArray)) := (blk_cell BK492.out 0).trans rfl; have hcz23_1 : w21.cell? ⟨gb492, 1, none⟩ = some (.string (⟨#[]⟩ : ByteArray)) := (blk_cell BK492.out 1).trans rfl; have hcz23_2 : w21.cell? ⟨gb492, 2, none⟩ = some (.int .i64 0) := (blk_cell BK492.out 2).trans rfl; have hcz23_3 : w21.cell? ⟨gb492, 3, none⟩ = some (.int .i64 0) := (blk_cell BK492.out 3).trans rfl; have hcz23_4 : w21.cell? ⟨gb492, 4, none⟩ = some (.int .i64 0) := (blk_cell BK492.out 4).trans rfl; have hcz23_5 : w21.cell? ⟨gb492, 5, none⟩ = some (.bool false) := (blk_cell BK492.out 5).trans rfl; have hfz23_0 := blk_frozen BK492.out 0; have hfz23_1 := blk_frozen BK492.out 1; have hfz23_2 := blk_frozen BK492.out 2; have hfz23_3 := blk_frozen BK492.out 3; have hfz23_4 := blk_frozen BK492.out 4; have hfz23_5 := blk_frozen BK492.out 5))
      (try simp only [Act.put, List.setIfInBounds_toArray, List.set_cons_zero, List.set_cons_succ])
      go_cut [42] (fun v42 wc => ∃ (kq : Nat) (x42_10 : Bool), v42 = .bool x42_10 ∧ Aside0 (laws_FnExactOrderAt.j0 kq l0 t482 x42_10 = some r) ∧ Aside0 (kq ≤ k) ∧ Aside0 (Kd.R k71 71 wc w.heap.size (fun _ => True) (.slice Ao19 t482.length co19) t482) ∧ Aside0 (wc.heap[gb481]? = some (.cells #[.string t474, .string t475, .int .i64 t476, .int .i64 t477, .int .i64 t478, .bool t479] 42 (0, 0))) ∧ Aside0 (wc.heap[gb492]? = some (.cells #[.string t485, .string t486, .int .i64 t487, .int .i64 t488, .int .i64 t489, .bool t490] 42 (0, 0))) ∧ Aside0 (Below w.heap.size w wc))
      case first =>
        have H := HC11.out
        clear HC11
        replace H := Option.bind_eq_some_iff.mp H
        obtain ⟨t493, A240, H⟩ := H
        replace H : (if t493 = true then (laws_FnExactOrderAt.j0 k l0 t482 (t491 != t480)) else (laws_FnExactOrderAt.j0 k l0 t482 true)) = some r := H
        have A24 := Aside0.mk A240
        clear A240
        by_cases c25 : t493 = true
        · subst c25
          have H1 : (laws_FnExactOrderAt.j0 k l0 t482 (t491 != t480)) = some r := by rw [if_pos rfl] at H; exact H
          clear H
          have H := H1
          clear H1
          have H' := Aside0.mk H
          clear H
          have hnb26 := NB492_481.out
          have hnc26 := NB481_492.out
          have hcz27_0 : w21.cell? ⟨gb492, 0, none⟩ = some (.string (⟨#[]⟩ : ByteArray)) := (blk_cell BK492.out 0).trans rfl
          have hcz27_1 : w21.cell? ⟨gb492, 1, none⟩ = some (.string (⟨#[]⟩ : ByteArray)) := (blk_cell BK492.out 1).trans rfl
          have hcz27_2 : w21.cell? ⟨gb492, 2, none⟩ = some (.int .i64 0) := (blk_cell BK492.out 2).trans rfl
          have hcz27_3 : w21.cell? ⟨gb492, 3, none⟩ = some (.int .i64 0) := (blk_cell BK492.out 3).trans rfl
          have hcz27_4 : w21.cell? ⟨gb492, 4, none⟩ = some (.int .i64 0) := (blk_cell BK492.out 4).trans rfl
          have hcz27_5 : w21.cell? ⟨gb492, 5, none⟩ = some (.bool false) := (blk_cell BK492.out 5).trans rfl
          have hfz27_0 := blk_frozen BK492.out 0
          have hfz27_1 := blk_frozen BK492.out 1
          have hfz27_2 := blk_frozen BK492.out 2
          have hfz27_3 := blk_frozen BK492.out 3
          have hfz27_4 := blk_frozen BK492.out 4
          have hfz27_5 := blk_frozen BK492.out 5
          have hcz28_0 : w21.cell? ⟨gb481, 0, none⟩ = some (.string t474) := (blk_cell BK481.out 0).trans rfl
          have hcz28_1 : w21.cell? ⟨gb481, 1, none⟩ = some (.string t475) := (blk_cell BK481.out 1).trans rfl
          have hcz28_2 : w21.cell? ⟨gb481, 2, none⟩ = some (.int .i64 t476) := (blk_cell BK481.out 2).trans rfl
          have hcz28_3 : w21.cell? ⟨gb481, 3, none⟩ = some (.int .i64 t477) := (blk_cell BK481.out 3).trans rfl
          have hcz28_4 : w21.cell? ⟨gb481, 4, none⟩ = some (.int .i64 t478) := (blk_cell BK481.out 4).trans rfl
          have hcz28_5 : w21.cell? ⟨gb481, 5, none⟩ = some (.bool t479) := (blk_cell BK481.out 5).trans rfl
          have hfz28_0 := blk_frozen BK481.out 0
          have hfz28_1 := blk_frozen BK481.out 1
          have hfz28_2 := blk_frozen BK481.out 2
          have hfz28_3 := blk_frozen BK481.out 3
          have hfz28_4 := blk_frozen BK481.out 4
          have hfz28_5 := blk_frozen BK481.out 5
          go_wp2_with (first | ((with_reducible refine gate_callee (f := 25) rfl ?_); refine goesL_ (some 36) rfl rfl Tryd.func25 (by kernel_rfl) rfl #[.agg #[.string t485, .string t486, .int .i64 t487, .int .i64 t488, .int .i64 t489, .bool t490], .agg #[.string t474, .string t475, .int .i64 t476, .int .i64 t477, .int .i64 t478, .bool t479]] rfl (by (try simp only [List.map_toArray, List.map_cons, List.map_nil]); first | done | rfl | (simp only [List.length_drop, List.length_take]; rfl)) ?_; (with_reducible refine (laws_eqOrder.calls t485 t486 t487 t488 t489 t490 t474 t475 t476 t477 t478 t479 true _ A24.out).mono ?_); rintro e w29 ⟨rfl, hb⟩; refine ⟨_, rfl, ?_⟩; have n0_ := Aside0.mk (Kd.R_below (by (with_reducible repeat (first | apply Kd.R_alloc | apply Kd.R_drewN | apply Kd.R_drew)); exact (Kd.R_mono (Kd.R_far (p := ⟨gb492, 5, none⟩) (Kd.R_far (p := ⟨gb492, 4, none⟩) (Kd.R_far (p := ⟨gb492, 3, none⟩) (Kd.R_far (p := ⟨gb492, 2, none⟩) (Kd.R_far (p := ⟨gb492, 1, none⟩) (Kd.R_far (p := ⟨gb492, 0, none⟩) (Kd.R_types HO473.out BK492.out (by decide)) (fun _ hk => hk.2) (.string t485)) (fun _ hk => hk.2) (.string t486)) (fun _ hk => hk.2) (.int .i64 t487)) (fun _ hk => hk.2) (.int .i64 t488)) (fun _ hk => hk.2) (.int .i64 t489)) (fun _ hk => hk.2) (.bool t490)) (fun _ h_ => h_.1))) hb); have n1_ := Aside0.mk (Kd.R_below (by (with_reducible repeat (first | apply Kd.R_alloc | apply Kd.R_drewN | apply Kd.R_drew)); exact (Kd.R_mono (Kd.R_far (p := ⟨gb492, 5, none⟩) (Kd.R_far (p := ⟨gb492, 4, none⟩) (Kd.R_far (p := ⟨gb492, 3, none⟩) (Kd.R_far (p := ⟨gb492, 2, none⟩) (Kd.R_far (p := ⟨gb492, 1, none⟩) (Kd.R_far (p := ⟨gb492, 0, none⟩) (Kd.R_types HO484.out BK492.out (by decide)) (fun _ hk => hk.2) (.string t485)) (fun _ hk => hk.2) (.string t486)) (fun _ hk => hk.2) (.int .i64 t487)) (fun _ hk => hk.2) (.int .i64 t488)) (fun _ hk => hk.2) (.int .i64 t489)) (fun _ hk => hk.2) (.bool t490)) (fun _ h_ => h_.1))) hb); have n2_ := Aside0.mk (blk_below (g := gb481) (o := .cells #[.string t474, .string t475, .int .i64 t476, .int .i64 t477, .int .i64 t478, .bool t479] 42 (0, 0)) (by (with_reducible repeat (first | refine blk_drewN ?_ _ | refine blk_drew ?_ | refine blk_alloc ?_ _)); refine blk_far ?_ NB481_492.out _; (with_reducible repeat (first | refine blk_drewN ?_ _ | refine blk_drew ?_ | refine blk_alloc ?_ _)); refine blk_far ?_ NB481_492.out _; (with_reducible repeat (first | refine blk_drewN ?_ _ | refine blk_drew ?_ | refine blk_alloc ?_ _)); refine blk_far ?_ NB481_492.out _; (with_reducible repeat (first | refine blk_drewN ?_ _ | refine blk_drew ?_ | refine blk_alloc ?_ _)); refine blk_far ?_ NB481_492.out _; (with_reducible repeat (first | refine blk_drewN ?_ _ | refine blk_drew ?_ | refine blk_alloc ?_ _)); refine blk_far ?_ NB481_492.out _; (with_reducible repeat (first | refine blk_drewN ?_ _ | refine blk_drew ?_ | refine blk_alloc ?_ _)); refine blk_far ?_ NB481_492.out _; (with_reducible repeat (first | refine blk_drewN ?_ _ | refine blk_drew ?_ | refine blk_alloc ?_ _)); exact BK481.out) hb); have n3_ := Aside0.mk (blk_below (g := gb492) (o := .cells #[.string t485, .string t486, .int .i64 t487, .int .i64 t488, .int .i64 t489, .bool t490] 42 (0, 0)) (by (with_reducible repeat (first | refine blk_drewN ?_ _ | refine blk_drew ?_ | refine blk_alloc ?_ _)); refine blk_put (cs := #[.string t485, .string t486, .int .i64 t487, .int .i64 t488, .int .i64 t489, .bool false]) ?_ 5 _ rfl; (with_reducible repeat (first | refine blk_drewN ?_ _ | refine blk_drew ?_ | refine blk_alloc ?_ _)); refine blk_put (cs := #[.string t485, .string t486, .int .i64 t487, .int .i64 t488, .int .i64 0, .bool false]) ?_ 4 _ rfl; (with_reducible repeat (first | refine blk_drewN ?_ _ | refine blk_drew ?_ | refine blk_alloc ?_ _)); refine blk_put (cs := #[.string t485, .string t486, .int .i64 t487, .int .i64 0, .int .i64 0, .bool false]) ?_ 3 _ rfl; (with_reducible repeat (first | refine blk_drewN ?_ _ | refine blk_drew ?_ | refine blk_alloc ?_ _)); refine blk_put (cs := #[.string t485, .string t486, .int .i64 0, .int .i64 0, .int .i64 0, .bool false]) ?_ 2 _ rfl; (with_reducible repeat (first | refine blk_drewN ?_ _ | refine blk_drew ?_ | refine blk_alloc ?_ _)); refine blk_put (cs := #[.string t485, .string (⟨#[]⟩ : ByteArray), .int .i64 0, .int .i64 0, .int .i64 0, .bool false]) ?_ 1 _ rfl; (with_reducible repeat (first | refine blk_drewN ?_ _ | refine blk_drew ?_ | refine blk_alloc ?_ _)); refine blk_put (cs := #[.string (⟨#[]⟩ : ByteArray), .string (⟨#[]⟩ : ByteArray), .int .i64 0, .int .i64 0, .int .i64 0, .bool false]) ?_ 0 _ rfl; (with_reducible repeat (first | refine blk_drewN ?_ _ | refine blk_drew ?_ | refine blk_alloc ?_ _)); exact BK492.out) hb); have n4_ := Aside0.mk (below_step (by repeat (first | (with_reducible first | exact HB.out | apply below_alloc | apply pw_below_drewN | apply below_drew1 | refine below_set ?_ GE481.out | refine below_set ?_ GE492.out) | exact HB.out)) hb); clear HO473; clear HO484; clear BK481; clear BK492; clear HB; have HO473 := n0_; have HO484 := n1_; have BK481 := n2_; have BK492 := n3_; have HB := n4_; clear n0_ n1_ n2_ n3_ n4_; (try clear hb); (try clear hb2); (try clear hk); (try clear hi)))
          go_meet
          case rel => exact ⟨_, ((t491 != t480)), (by first | rfl | (simp; done) | (simp [*]; done)), H', ⟨by first | omega | exact Nat.le_refl _⟩, ⟨by (with_reducible repeat (first | apply Kd.R_alloc | apply Kd.R_drewN | apply Kd.R_drew)); exact Kd.R_mono HO484.out (fun _ hk => trivial)⟩, ⟨by (with_reducible repeat (first | refine blk_drewN ?_ _ | refine blk_drew ?_ | refine blk_alloc ?_ _)); exact BK481.out⟩, ⟨by (with_reducible repeat (first | refine blk_drewN ?_ _ | refine blk_drew ?_ | refine blk_alloc ?_ _)); exact BK492.out⟩, ⟨by repeat (first | (with_reducible first | exact HB.out | apply below_alloc | apply pw_below_drewN | apply below_drew1 | refine below_set ?_ GE481.out | refine below_set ?_ GE492.out) | exact HB.out)⟩⟩
        · replace c25 := Bool.eq_false_iff.mpr c25
          subst c25
          have H1 : (laws_FnExactOrderAt.j0 k l0 t482 true) = some r := by rw [if_neg (show ¬ (false = true) by decide)] at H; exact H
          clear H
          have H := H1
          clear H1
          have H' := Aside0.mk H
          clear H
          have hnb30 := NB492_481.out
          have hnc30 := NB481_492.out
          have hcz31_0 : w21.cell? ⟨gb492, 0, none⟩ = some (.string (⟨#[]⟩ : ByteArray)) := (blk_cell BK492.out 0).trans rfl
          have hcz31_1 : w21.cell? ⟨gb492, 1, none⟩ = some (.string (⟨#[]⟩ : ByteArray)) := (blk_cell BK492.out 1).trans rfl
          have hcz31_2 : w21.cell? ⟨gb492, 2, none⟩ = some (.int .i64 0) := (blk_cell BK492.out 2).trans rfl
          have hcz31_3 : w21.cell? ⟨gb492, 3, none⟩ = some (.int .i64 0) := (blk_cell BK492.out 3).trans rfl
          have hcz31_4 : w21.cell? ⟨gb492, 4, none⟩ = some (.int .i64 0) := (blk_cell BK492.out 4).trans rfl
          have hcz31_5 : w21.cell? ⟨gb492, 5, none⟩ = some (.bool false) := (blk_cell BK492.out 5).trans rfl
          have hfz31_0 := blk_frozen BK492.out 0
          have hfz31_1 := blk_frozen BK492.out 1
          have hfz31_2 := blk_frozen BK492.out 2
          have hfz31_3 := blk_frozen BK492.out 3
          have hfz31_4 := blk_frozen BK492.out 4
          have hfz31_5 := blk_frozen BK492.out 5
          have hcz32_0 : w21.cell? ⟨gb481, 0, none⟩ = some (.string t474) := (blk_cell BK481.out 0).trans rfl
          have hcz32_1 : w21.cell? ⟨gb481, 1, none⟩ = some (.string t475) := (blk_cell BK481.out 1).trans rfl
          have hcz32_2 : w21.cell? ⟨gb481, 2, none⟩ = some (.int .i64 t476) := (blk_cell BK481.out 2).trans rfl
          have hcz32_3 : w21.cell? ⟨gb481, 3, none⟩ = some (.int .i64 t477) := (blk_cell BK481.out 3).trans rfl
          have hcz32_4 : w21.cell? ⟨gb481, 4, none⟩ = some (.int .i64 t478) := (blk_cell BK481.out 4).trans rfl
          have hcz32_5 : w21.cell? ⟨gb481, 5, none⟩ = some (.bool t479) := (blk_cell BK481.out 5).trans rfl
          have hfz32_0 := blk_frozen BK481.out 0
          have hfz32_1 := blk_frozen BK481.out 1
          have hfz32_2 := blk_frozen BK481.out 2
          have hfz32_3 := blk_frozen BK481.out 3
          have hfz32_4 := blk_frozen BK481.out 4
          have hfz32_5 := blk_frozen BK481.out 5
          go_wp2_with (first | ((with_reducible refine gate_callee (f := 25) rfl ?_); refine goesL_ (some 36) rfl rfl Tryd.func25 (by kernel_rfl) rfl #[.agg #[.string t485, .string t486, .int .i64 t487, .int .i64 t488, .int .i64 t489, .bool t490], .agg #[.string t474, .string t475, .int .i64 t476, .int .i64 t477, .int .i64 t478, .bool t479]] rfl (by (try simp only [List.map_toArray, List.map_cons, List.map_nil]); first | done | rfl | (simp only [List.length_drop, List.length_take]; rfl)) ?_; (with_reducible refine (laws_eqOrder.calls t485 t486 t487 t488 t489 t490 t474 t475 t476 t477 t478 t479 false _ A24.out).mono ?_); rintro e w33 ⟨rfl, hb⟩; refine ⟨_, rfl, ?_⟩; have n0_ := Aside0.mk (Kd.R_below (by (with_reducible repeat (first | apply Kd.R_alloc | apply Kd.R_drewN | apply Kd.R_drew)); exact (Kd.R_mono (Kd.R_far (p := ⟨gb492, 5, none⟩) (Kd.R_far (p := ⟨gb492, 4, none⟩) (Kd.R_far (p := ⟨gb492, 3, none⟩) (Kd.R_far (p := ⟨gb492, 2, none⟩) (Kd.R_far (p := ⟨gb492, 1, none⟩) (Kd.R_far (p := ⟨gb492, 0, none⟩) (Kd.R_types HO473.out BK492.out (by decide)) (fun _ hk => hk.2) (.string t485)) (fun _ hk => hk.2) (.string t486)) (fun _ hk => hk.2) (.int .i64 t487)) (fun _ hk => hk.2) (.int .i64 t488)) (fun _ hk => hk.2) (.int .i64 t489)) (fun _ hk => hk.2) (.bool t490)) (fun _ h_ => h_.1))) hb); have n1_ := Aside0.mk (Kd.R_below (by (with_reducible repeat (first | apply Kd.R_alloc | apply Kd.R_drewN | apply Kd.R_drew)); exact (Kd.R_mono (Kd.R_far (p := ⟨gb492, 5, none⟩) (Kd.R_far (p := ⟨gb492, 4, none⟩) (Kd.R_far (p := ⟨gb492, 3, none⟩) (Kd.R_far (p := ⟨gb492, 2, none⟩) (Kd.R_far (p := ⟨gb492, 1, none⟩) (Kd.R_far (p := ⟨gb492, 0, none⟩) (Kd.R_types HO484.out BK492.out (by decide)) (fun _ hk => hk.2) (.string t485)) (fun _ hk => hk.2) (.string t486)) (fun _ hk => hk.2) (.int .i64 t487)) (fun _ hk => hk.2) (.int .i64 t488)) (fun _ hk => hk.2) (.int .i64 t489)) (fun _ hk => hk.2) (.bool t490)) (fun _ h_ => h_.1))) hb); have n2_ := Aside0.mk (blk_below (g := gb481) (o := .cells #[.string t474, .string t475, .int .i64 t476, .int .i64 t477, .int .i64 t478, .bool t479] 42 (0, 0)) (by (with_reducible repeat (first | refine blk_drewN ?_ _ | refine blk_drew ?_ | refine blk_alloc ?_ _)); refine blk_far ?_ NB481_492.out _; (with_reducible repeat (first | refine blk_drewN ?_ _ | refine blk_drew ?_ | refine blk_alloc ?_ _)); refine blk_far ?_ NB481_492.out _; (with_reducible repeat (first | refine blk_drewN ?_ _ | refine blk_drew ?_ | refine blk_alloc ?_ _)); refine blk_far ?_ NB481_492.out _; (with_reducible repeat (first | refine blk_drewN ?_ _ | refine blk_drew ?_ | refine blk_alloc ?_ _)); refine blk_far ?_ NB481_492.out _; (with_reducible repeat (first | refine blk_drewN ?_ _ | refine blk_drew ?_ | refine blk_alloc ?_ _)); refine blk_far ?_ NB481_492.out _; (with_reducible repeat (first | refine blk_drewN ?_ _ | refine blk_drew ?_ | refine blk_alloc ?_ _)); refine blk_far ?_ NB481_492.out _; (with_reducible repeat (first | refine blk_drewN ?_ _ | refine blk_drew ?_ | refine blk_alloc ?_ _)); exact BK481.out) hb); have n3_ := Aside0.mk (blk_below (g := gb492) (o := .cells #[.string t485, .string t486, .int .i64 t487, .int .i64 t488, .int .i64 t489, .bool t490] 42 (0, 0)) (by (with_reducible repeat (first | refine blk_drewN ?_ _ | refine blk_drew ?_ | refine blk_alloc ?_ _)); refine blk_put (cs := #[.string t485, .string t486, .int .i64 t487, .int .i64 t488, .int .i64 t489, .bool false]) ?_ 5 _ rfl; (with_reducible repeat (first | refine blk_drewN ?_ _ | refine blk_drew ?_ | refine blk_alloc ?_ _)); refine blk_put (cs := #[.string t485, .string t486, .int .i64 t487, .int .i64 t488, .int .i64 0, .bool false]) ?_ 4 _ rfl; (with_reducible repeat (first | refine blk_drewN ?_ _ | refine blk_drew ?_ | refine blk_alloc ?_ _)); refine blk_put (cs := #[.string t485, .string t486, .int .i64 t487, .int .i64 0, .int .i64 0, .bool false]) ?_ 3 _ rfl; (with_reducible repeat (first | refine blk_drewN ?_ _ | refine blk_drew ?_ | refine blk_alloc ?_ _)); refine blk_put (cs := #[.string t485, .string t486, .int .i64 0, .int .i64 0, .int .i64 0, .bool false]) ?_ 2 _ rfl; (with_reducible repeat (first | refine blk_drewN ?_ _ | refine blk_drew ?_ | refine blk_alloc ?_ _)); refine blk_put (cs := #[.string t485, .string (⟨#[]⟩ : ByteArray), .int .i64 0, .int .i64 0, .int .i64 0, .bool false]) ?_ 1 _ rfl; (with_reducible repeat (first | refine blk_drewN ?_ _ | refine blk_drew ?_ | refine blk_alloc ?_ _)); refine blk_put (cs := #[.string (⟨#[]⟩ : ByteArray), .string (⟨#[]⟩ : ByteArray), .int .i64 0, .int .i64 0, .int .i64 0, .bool false]) ?_ 0 _ rfl; (with_reducible repeat (first | refine blk_drewN ?_ _ | refine blk_drew ?_ | refine blk_alloc ?_ _)); exact BK492.out) hb); have n4_ := Aside0.mk (below_step (by repeat (first | (with_reducible first | exact HB.out | apply below_alloc | apply pw_below_drewN | apply below_drew1 | refine below_set ?_ GE481.out | refine below_set ?_ GE492.out) | exact HB.out)) hb); clear HO473; clear HO484; clear BK481; clear BK492; clear HB; have HO473 := n0_; have HO484 := n1_; have BK481 := n2_; have BK492 := n3_; have HB := n4_; clear n0_ n1_ n2_ n3_ n4_; (try clear hb); (try clear hb2); (try clear hk); (try clear hi)))
          go_meet
          case rel => exact ⟨_, (true), (by first | rfl | (simp; done) | (simp [*]; done)), H', ⟨by first | omega | exact Nat.le_refl _⟩, ⟨by (with_reducible repeat (first | apply Kd.R_alloc | apply Kd.R_drewN | apply Kd.R_drew)); exact Kd.R_mono HO484.out (fun _ hk => trivial)⟩, ⟨by (with_reducible repeat (first | refine blk_drewN ?_ _ | refine blk_drew ?_ | refine blk_alloc ?_ _)); exact BK481.out⟩, ⟨by (with_reducible repeat (first | refine blk_drewN ?_ _ | refine blk_drew ?_ | refine blk_alloc ?_ _)); exact BK492.out⟩, ⟨by repeat (first | (with_reducible first | exact HB.out | apply below_alloc | apply pw_below_drewN | apply below_drew1 | refine below_set ?_ GE481.out | refine below_set ?_ GE492.out) | exact HB.out)⟩⟩
      case rest =>
        clear HC11
        try clear c1
        try clear c2
        try clear p2
        try clear c3
        try clear c3b0
        try clear c3b1
        try clear c5
        try clear c5b0
        try clear c6
        try clear c17
        try clear c19
        try clear c22
        try clear c23
        try clear c24
        try clear c25
        try clear c26
        try clear c30
        try clear hcz17_0
        try clear hcz17_1
        try clear hcz17_2
        try clear hcz17_3
        try clear hcz17_4
        try clear hcz17_5
        try clear hcz23_0
        try clear hcz23_1
        try clear hcz23_2
        try clear hcz23_3
        try clear hcz23_4
        try clear hcz23_5
        try clear hcz27_0
        try clear hcz27_1
        try clear hcz27_2
        try clear hcz27_3
        try clear hcz27_4
        try clear hcz27_5
        try clear hcz28_0
        try clear hcz28_1
        try clear hcz28_2
        try clear hcz28_3
        try clear hcz28_4
        try clear hcz28_5
        try clear hcz31_0
        try clear hcz31_1
        try clear hcz31_2
        try clear hcz31_3
        try clear hcz31_4
        try clear hcz31_5
        try clear hcz32_0
        try clear hcz32_1
        try clear hcz32_2
        try clear hcz32_3
        try clear hcz32_4
        try clear hcz32_5
        try clear hfz17_0
        try clear hfz17_1
        try clear hfz17_2
        try clear hfz17_3
        try clear hfz17_4
        try clear hfz17_5
        try clear hfz23_0
        try clear hfz23_1
        try clear hfz23_2
        try clear hfz23_3
        try clear hfz23_4
        try clear hfz23_5
        try clear hfz27_0
        try clear hfz27_1
        try clear hfz27_2
        try clear hfz27_3
        try clear hfz27_4
        try clear hfz27_5
        try clear hfz28_0
        try clear hfz28_1
        try clear hfz28_2
        try clear hfz28_3
        try clear hfz28_4
        try clear hfz28_5
        try clear hfz31_0
        try clear hfz31_1
        try clear hfz31_2
        try clear hfz31_3
        try clear hfz31_4
        try clear hfz31_5
        try clear hfz32_0
        try clear hfz32_1
        try clear hfz32_2
        try clear hfz32_3
        try clear hfz32_4
        try clear hfz32_5
        obtain ⟨kq, x42_10, rfl, HA, HJ10, HO_8, BK481, BK492, HB⟩ := hcut
        cases kq with
        | zero => exact absurd HA.out (by simp [laws_FnExactOrderAt.j0])
        | succ kj10 =>
          have H := HA.out
          clear HA
          simp only [laws_FnExactOrderAt.j0] at H
          by_cases c34 : x42_10 = true
          · subst c34
            have H1 : (some false) = some r := by rw [if_pos rfl] at H; exact H
            clear H
            have H := H1
            clear H1
            obtain rfl := Option.some.inj H
            go_wp2
            go_ret
            exact ⟨by first | rfl | (simp [errW_none, errW_some] <;> rfl) | (simp [*, errW_none, errW_some] <;> rfl), by repeat (first | (with_reducible first | exact HB.out | apply below_alloc | apply pw_below_drewN | apply below_drew1 | refine below_set ?_ GE481.out | refine below_set ?_ GE492.out) | exact HB.out)⟩
          · replace c34 := Bool.eq_false_iff.mpr c34
            subst c34
            have H1 : ((laws_toPairS.f kj10 l0).bind fun t494 => ((laws_eqPairS.f kj10 t482 t494).bind fun t497 => (if t497 = true then (some true) else (some false)))) = some r := by rw [if_neg (show ¬ (false = true) by decide)] at H; exact H
            clear H
            have H := H1
            clear H1
            replace H := Option.bind_eq_some_iff.mp H
            obtain ⟨t494, A350, H⟩ := H
            replace H : ((laws_eqPairS.f kj10 t482 t494).bind fun t497 => (if t497 = true then (some true) else (some false))) = some r := H
            have A35 := Aside0.mk A350
            clear A350
            replace H := Option.bind_eq_some_iff.mp H
            obtain ⟨t497, A360, H⟩ := H
            replace H : (if t497 = true then (some true) else (some false)) = some r := H
            have A36 := Aside0.mk A360
            clear A360
            by_cases c37 : t497 = true
            · subst c37
              have H1 : (some true) = some r := by rw [if_pos rfl] at H; exact H
              clear H
              have H := H1
              clear H1
              obtain rfl := Option.some.inj H
              go_wp2_with (first | ((with_reducible refine gate_callee (f := 19) rfl ?_); refine goesL_ (some 45) rfl rfl Tryd.func19 (by kernel_rfl) rfl #[.slice A0 l0.length c0] rfl (by (try simp only [List.map_toArray, List.map_cons, List.map_nil]); first | done | rfl | (simp only [List.length_drop, List.length_take]; rfl)) ?_; (with_reducible refine (laws_toPairS.calls kj10 _ _ l0 t494 _ ?side1 ?side2 A35.out).mono ?_); (case side1 => repeat (first | exact (Kd.C_below HR0.out HB.out) | (with_reducible refine Kd.C_alloc ?_ _) | (with_reducible refine Kd.C_drewN ?_ _) | (with_reducible refine Kd.C_drew ?_))); (case side2 => exact HC0.out); rintro e w38 ⟨v495, rfl, ho0, hb⟩; refine ⟨_, rfl, ?_⟩; have n0_ := Aside0.mk (Kd.R_elder' (by (with_reducible repeat (first | apply Kd.R_alloc | apply Kd.R_drewN | apply Kd.R_drew)); exact HO_8.out) (Kd.R_base ho0) hb); have n1_ := Aside0.mk (Kd.R_lower (Kd.R_new' ho0 (Kd.R_lt (by (with_reducible repeat (first | apply Kd.R_alloc | apply Kd.R_drewN | apply Kd.R_drew)); exact HO_8.out))) (below_size (by repeat (first | (with_reducible first | exact HB.out | apply below_alloc | apply pw_below_drewN | apply below_drew1 | refine below_set ?_ GE481.out | refine below_set ?_ GE492.out) | exact HB.out)))); have n2_ := Aside0.mk (blk_below (g := gb481) (o := .cells #[.string t474, .string t475, .int .i64 t476, .int .i64 t477, .int .i64 t478, .bool t479] 42 (0, 0)) (by (with_reducible repeat (first | refine blk_drewN ?_ _ | refine blk_drew ?_ | refine blk_alloc ?_ _)); exact BK481.out) hb); have n3_ := Aside0.mk (blk_below (g := gb492) (o := .cells #[.string t485, .string t486, .int .i64 t487, .int .i64 t488, .int .i64 t489, .bool t490] 42 (0, 0)) (by (with_reducible repeat (first | refine blk_drewN ?_ _ | refine blk_drew ?_ | refine blk_alloc ?_ _)); exact BK492.out) hb); have n4_ := Aside0.mk (below_step (by repeat (first | (with_reducible first | exact HB.out | apply below_alloc | apply pw_below_drewN | apply below_drew1 | refine below_set ?_ GE481.out | refine below_set ?_ GE492.out) | exact HB.out)) hb); clear HO_8; clear BK481; clear BK492; clear HB; have HO_8 := n0_; have HO496 := n1_; have BK481 := n2_; have BK492 := n3_; have HB := n4_; clear n0_ n1_ n2_ n3_ n4_; (try clear hb); (try clear hb2); (try clear hk); (try clear hi); (try clear ho0); obtain ⟨Ao39, co39, eo39⟩ := Kd.R_slice HO496.out; subst eo39) | ((with_reducible refine gate_callee (f := 22) rfl ?_); refine goesL_ (some 46) rfl rfl Tryd.func22 (by kernel_rfl) rfl #[.slice Ao19 t482.length co19, .slice Ao39 t494.length co39] rfl (by (try simp only [List.map_toArray, List.map_cons, List.map_nil]); first | done | rfl | (simp only [List.length_drop, List.length_take]; rfl)) ?_; (with_reducible refine (laws_eqPairS.calls kj10 _ _ t482 _ _ t494 true _ ?side1 ?side2 ?side3 ?side4 A36.out).mono ?_); (case side1 => repeat (first | exact (Kd.R_reads' HO_8.out).2.2 | (with_reducible refine Kd.C_alloc ?_ _) | (with_reducible refine Kd.C_drewN ?_ _) | (with_reducible refine Kd.C_drew ?_))); (case side2 => exact (Kd.R_reads' HO_8.out).2.1); (case side3 => repeat (first | exact (Kd.R_reads' HO496.out).2.2 | (with_reducible refine Kd.C_alloc ?_ _) | (with_reducible refine Kd.C_drewN ?_ _) | (with_reducible refine Kd.C_drew ?_))); (case side4 => exact (Kd.R_reads' HO496.out).2.1); rintro e w40 ⟨rfl, hb⟩; refine ⟨_, rfl, ?_⟩; have n0_ := Aside0.mk (Kd.R_below (by (with_reducible repeat (first | apply Kd.R_alloc | apply Kd.R_drewN | apply Kd.R_drew)); exact HO_8.out) hb); have n1_ := Aside0.mk (Kd.R_below (by (with_reducible repeat (first | apply Kd.R_alloc | apply Kd.R_drewN | apply Kd.R_drew)); exact HO496.out) hb); have n2_ := Aside0.mk (blk_below (g := gb481) (o := .cells #[.string t474, .string t475, .int .i64 t476, .int .i64 t477, .int .i64 t478, .bool t479] 42 (0, 0)) (by (with_reducible repeat (first | refine blk_drewN ?_ _ | refine blk_drew ?_ | refine blk_alloc ?_ _)); exact BK481.out) hb); have n3_ := Aside0.mk (blk_below (g := gb492) (o := .cells #[.string t485, .string t486, .int .i64 t487, .int .i64 t488, .int .i64 t489, .bool t490] 42 (0, 0)) (by (with_reducible repeat (first | refine blk_drewN ?_ _ | refine blk_drew ?_ | refine blk_alloc ?_ _)); exact BK492.out) hb); have n4_ := Aside0.mk (below_step (by repeat (first | (with_reducible first | exact HB.out | apply below_alloc | apply pw_below_drewN | apply below_drew1 | refine below_set ?_ GE481.out | refine below_set ?_ GE492.out) | exact HB.out)) hb); clear HO_8; clear HO496; clear BK481; clear BK492; clear HB; have HO_8 := n0_; have HO496 := n1_; have BK481 := n2_; have BK492 := n3_; have HB := n4_; clear n0_ n1_ n2_ n3_ n4_; (try clear hb); (try clear hb2); (try clear hk); (try clear hi)))
              go_ret
              exact ⟨by first | rfl | (simp [errW_none, errW_some] <;> rfl) | (simp [*, errW_none, errW_some] <;> rfl), by repeat (first | (with_reducible first | exact HB.out | apply below_alloc | apply pw_below_drewN | apply below_drew1 | refine below_set ?_ GE481.out | refine below_set ?_ GE492.out) | exact HB.out)⟩
            · replace c37 := Bool.eq_false_iff.mpr c37
              subst c37
              have H1 : (some false) = some r := by rw [if_neg (show ¬ (false = true) by decide)] at H; exact H
              clear H
              have H := H1
              clear H1
              obtain rfl := Option.some.inj H
              go_wp2_with (first | ((with_reducible refine gate_callee (f := 19) rfl ?_); refine goesL_ (some 45) rfl rfl Tryd.func19 (by kernel_rfl) rfl #[.slice A0 l0.length c0] rfl (by (try simp only [List.map_toArray, List.map_cons, List.map_nil]); first | done | rfl | (simp only [List.length_drop, List.length_take]; rfl)) ?_; (with_reducible refine (laws_toPairS.calls kj10 _ _ l0 t494 _ ?side1 ?side2 A35.out).mono ?_); (case side1 => repeat (first | exact (Kd.C_below HR0.out HB.out) | (with_reducible refine Kd.C_alloc ?_ _) | (with_reducible refine Kd.C_drewN ?_ _) | (with_reducible refine Kd.C_drew ?_))); (case side2 => exact HC0.out); rintro e w41 ⟨v495, rfl, ho0, hb⟩; refine ⟨_, rfl, ?_⟩; have n0_ := Aside0.mk (Kd.R_elder' (by (with_reducible repeat (first | apply Kd.R_alloc | apply Kd.R_drewN | apply Kd.R_drew)); exact HO_8.out) (Kd.R_base ho0) hb); have n1_ := Aside0.mk (Kd.R_lower (Kd.R_new' ho0 (Kd.R_lt (by (with_reducible repeat (first | apply Kd.R_alloc | apply Kd.R_drewN | apply Kd.R_drew)); exact HO_8.out))) (below_size (by repeat (first | (with_reducible first | exact HB.out | apply below_alloc | apply pw_below_drewN | apply below_drew1 | refine below_set ?_ GE481.out | refine below_set ?_ GE492.out) | exact HB.out)))); have n2_ := Aside0.mk (blk_below (g := gb481) (o := .cells #[.string t474, .string t475, .int .i64 t476, .int .i64 t477, .int .i64 t478, .bool t479] 42 (0, 0)) (by (with_reducible repeat (first | refine blk_drewN ?_ _ | refine blk_drew ?_ | refine blk_alloc ?_ _)); exact BK481.out) hb); have n3_ := Aside0.mk (blk_below (g := gb492) (o := .cells #[.string t485, .string t486, .int .i64 t487, .int .i64 t488, .int .i64 t489, .bool t490] 42 (0, 0)) (by (with_reducible repeat (first | refine blk_drewN ?_ _ | refine blk_drew ?_ | refine blk_alloc ?_ _)); exact BK492.out) hb); have n4_ := Aside0.mk (below_step (by repeat (first | (with_reducible first | exact HB.out | apply below_alloc | apply pw_below_drewN | apply below_drew1 | refine below_set ?_ GE481.out | refine below_set ?_ GE492.out) | exact HB.out)) hb); clear HO_8; clear BK481; clear BK492; clear HB; have HO_8 := n0_; have HO496 := n1_; have BK481 := n2_; have BK492 := n3_; have HB := n4_; clear n0_ n1_ n2_ n3_ n4_; (try clear hb); (try clear hb2); (try clear hk); (try clear hi); (try clear ho0); obtain ⟨Ao42, co42, eo42⟩ := Kd.R_slice HO496.out; subst eo42) | ((with_reducible refine gate_callee (f := 22) rfl ?_); refine goesL_ (some 46) rfl rfl Tryd.func22 (by kernel_rfl) rfl #[.slice Ao19 t482.length co19, .slice Ao42 t494.length co42] rfl (by (try simp only [List.map_toArray, List.map_cons, List.map_nil]); first | done | rfl | (simp only [List.length_drop, List.length_take]; rfl)) ?_; (with_reducible refine (laws_eqPairS.calls kj10 _ _ t482 _ _ t494 false _ ?side1 ?side2 ?side3 ?side4 A36.out).mono ?_); (case side1 => repeat (first | exact (Kd.R_reads' HO_8.out).2.2 | (with_reducible refine Kd.C_alloc ?_ _) | (with_reducible refine Kd.C_drewN ?_ _) | (with_reducible refine Kd.C_drew ?_))); (case side2 => exact (Kd.R_reads' HO_8.out).2.1); (case side3 => repeat (first | exact (Kd.R_reads' HO496.out).2.2 | (with_reducible refine Kd.C_alloc ?_ _) | (with_reducible refine Kd.C_drewN ?_ _) | (with_reducible refine Kd.C_drew ?_))); (case side4 => exact (Kd.R_reads' HO496.out).2.1); rintro e w43 ⟨rfl, hb⟩; refine ⟨_, rfl, ?_⟩; have n0_ := Aside0.mk (Kd.R_below (by (with_reducible repeat (first | apply Kd.R_alloc | apply Kd.R_drewN | apply Kd.R_drew)); exact HO_8.out) hb); have n1_ := Aside0.mk (Kd.R_below (by (with_reducible repeat (first | apply Kd.R_alloc | apply Kd.R_drewN | apply Kd.R_drew)); exact HO496.out) hb); have n2_ := Aside0.mk (blk_below (g := gb481) (o := .cells #[.string t474, .string t475, .int .i64 t476, .int .i64 t477, .int .i64 t478, .bool t479] 42 (0, 0)) (by (with_reducible repeat (first | refine blk_drewN ?_ _ | refine blk_drew ?_ | refine blk_alloc ?_ _)); exact BK481.out) hb); have n3_ := Aside0.mk (blk_below (g := gb492) (o := .cells #[.string t485, .string t486, .int .i64 t487, .int .i64 t488, .int .i64 t489, .bool t490] 42 (0, 0)) (by (with_reducible repeat (first | refine blk_drewN ?_ _ | refine blk_drew ?_ | refine blk_alloc ?_ _)); exact BK492.out) hb); have n4_ := Aside0.mk (below_step (by repeat (first | (with_reducible first | exact HB.out | apply below_alloc | apply pw_below_drewN | apply below_drew1 | refine below_set ?_ GE481.out | refine below_set ?_ GE492.out) | exact HB.out)) hb); clear HO_8; clear HO496; clear BK481; clear BK492; clear HB; have HO_8 := n0_; have HO496 := n1_; have BK481 := n2_; have BK492 := n3_; have HB := n4_; clear n0_ n1_ n2_ n3_ n4_; (try clear hb); (try clear hb2); (try clear hk); (try clear hi)))
              go_ret
              exact ⟨by first | rfl | (simp [errW_none, errW_some] <;> rfl) | (simp [*, errW_none, errW_some] <;> rfl), by repeat (first | (with_reducible first | exact HB.out | apply below_alloc | apply pw_below_drewN | apply below_drew1 | refine below_set ?_ GE481.out | refine below_set ?_ GE492.out) | exact HB.out)⟩

end Go.Proofs.YteghpdmlpefnfaaDoor.Q

namespace Go.Proofs.YteghpdmlpefnfaaDoor.Q
open Go.RowKit Go.Proofs.YteghpdmlpefnfaaDoorW.PrintWords Go.Proofs.YteghpdmlpefnfaaDoorW.PrintLast Go.Proofs.YteghpdmlpefnfaaDoorW.PrintMore
attribute [local go_sem] max2_int min2_int max_two min_two max_three min_three max_four min_four   -- for this text's walks alone
set_option linter.unusedVariables false
set_option linter.unusedSimpArgs false

/-! ### spec_l00Digits: function 63 -/
def spec_l00Digits.f : Nat → Int → Option (ByteArray)
  | 0, _ => none
  | k + 1, a0 => if a0 = (-9223372036854775808) then (some (⟨#[45, 57, 50, 50, 51, 51, 55, 50, 48, 51, 54, 56, 53, 52, 55, 55, 53, 56, 48, 56]⟩ : ByteArray)) else (if a0 < 0 then ((spec_l00Digits.f k (wrap64 (-a0))).bind fun t107 => (if 1 + t107.size ≤ 9223372036854775807 then (some ((⟨#[45]⟩ : ByteArray) ++ t107)) else (none))) else (if a0 < 10 then (some (strOfNums (([(wrap64 (48 + a0)) % 256] : List Int)))) else ((spec_l00Digits.f k (wrap64 (Int.tdiv a0 10))).bind fun t111 => ((some (([(wrap64 (48 + (Int.tmod a0 10))) % 256] : List Int) : List Int)).bind fun y112 => (if t111.size + (strOfNums y112).size ≤ 9223372036854775807 then (some (t111 ++ (strOfNums y112))) else (none))))))
def spec_l00Digits.T7 : Bool × List (List Nat × List Nat) := (true, [([], []), ([0], [0]), ([1], [1]), ([], []), ([3], [3]), ([4], [4]), ([5], [5]), ([6], [6]), ([7], [7]), ([2, 8], [2, 8]), ([9, 2, 0, 1, 2, 3, 4, 5, 6, 7, 8, 9], [9])])
def spec_l00Digits.B7 : List Nat := [0, 1, 3, 0, 8, 24, 56, 120, 248, 511, 1023]
theorem spec_l00Digits.tab7 : rtab .any (opsOf Tryd.f63 7) = spec_l00Digits.T7 := by kernel_rfl
theorem spec_l00Digits.bits7 : waitsOk spec_l00Digits.T7.2 spec_l00Digits.B7 = true := by kernel_rfl
set_option maxHeartbeats 8000000 in
set_option maxRecDepth 100000 in
theorem spec_l00Digits.calls (k : Nat) : ∀ (a0 : Int) (r : ByteArray) (w : World) (h : spec_l00Digits.f k a0 = some r),
    Calls Tryd.prog 63 #[.int .i64 a0] w fun e w' => e = .returned (.string r) ∧ Below w.heap.size w w' := by
  induction k using Nat.strongRecOn with
  | _ k ih =>
  intro a0 r w h
  cases k with
  | zero => exact absurd h (by simp [spec_l00Digits.f])
  | succ k =>
  simp only [spec_l00Digits.f] at h
  have HB := Aside0.mk (Below.refl w.heap.size w)
  have H : (if a0 = (-9223372036854775808) then (some (⟨#[45, 57, 50, 50, 51, 51, 55, 50, 48, 51, 54, 56, 53, 52, 55, 55, 53, 56, 48, 56]⟩ : ByteArray)) else (if a0 < 0 then ((spec_l00Digits.f k (wrap64 (-a0))).bind fun t107 => (if 1 + t107.size ≤ 9223372036854775807 then (some ((⟨#[45]⟩ : ByteArray) ++ t107)) else (none))) else (if a0 < 10 then (some (strOfNums (([(wrap64 (48 + a0)) % 256] : List Int)))) else ((spec_l00Digits.f k (wrap64 (Int.tdiv a0 10))).bind fun t111 => ((some (([(wrap64 (48 + (Int.tmod a0 10))) % 256] : List Int) : List Int)).bind fun y112 => (if t111.size + (strOfNums y112).size ≤ 9223372036854775807 then (some (t111 ++ (strOfNums y112))) else (none))))))) = some r := h
  clear h
  by_cases c2 : a0 = (-9223372036854775808)
  · rw [if_pos c2] at H
    have c2b0 : (a0 == (-9223372036854775808)) = true := beq_iff_eq.mpr c2
    have c2b1 : (a0 != (-9223372036854775808)) = false := bne_eq_false_iff_eq.mpr c2
    clear c2
    obtain rfl := Option.some.inj H
    go_enter Tryd.func63, Tryd.ntmps63
    go_wp2
    go_ret
    exact ⟨by first | rfl | (simp [errW_none, errW_some] <;> rfl) | (simp [*, errW_none, errW_some] <;> rfl), by repeat (first | (with_reducible first | exact HB.out | apply below_alloc | apply pw_below_drewN | apply below_drew1) | exact HB.out)⟩
  · rw [if_neg c2] at H
    have c2b0 : (a0 == (-9223372036854775808)) = false := beq_eq_false_iff_ne.mpr c2
    have c2b1 : (a0 != (-9223372036854775808)) = true := bne_iff_ne.mpr c2
    by_cases c3 : a0 < 0
    · rw [if_pos c3] at H
      have c3b0 : decide (a0 < 0) = true := decide_eq_true c3
      clear c3
      replace H := Option.bind_eq_some_iff.mp H
      obtain ⟨t107, A40, H⟩ := H
      replace H : (if 1 + t107.size ≤ 9223372036854775807 then (some ((⟨#[45]⟩ : ByteArray) ++ t107)) else (none)) = some r := H
      have A4 := Aside0.mk A40
      clear A40
      by_cases c5 : 1 + t107.size ≤ 9223372036854775807
      · rw [if_pos c5] at H
        have c5b0 := eq_true c5
        have c5b1 : decide (1 + t107.size ≤ 9223372036854775807) = true := decide_eq_true c5
        try have c5b2 : (9223372036854775807 < 1 + t107.size) = False := eq_false (Nat.not_lt.2 c5)
        obtain rfl := Option.some.inj H
        go_enter Tryd.func63, Tryd.ntmps63
        go_wp2_with (first | ((with_reducible refine gate_callee (f := 63) rfl ?_); refine goesL_ (some 9) rfl rfl Tryd.func63 (by kernel_rfl) rfl #[.int .i64 (wrap64 (-a0))] rfl (by (try simp only [List.map_toArray, List.map_cons, List.map_nil]); first | done | rfl | (simp only [List.length_drop, List.length_take]; rfl)) ?_; (with_reducible refine (ih k (by omega) (wrap64 (-a0)) t107 _ A4.out).mono ?_); rintro e w6 ⟨rfl, hb⟩; refine ⟨_, rfl, ?_⟩; have n0_ := Aside0.mk (below_step (by repeat (first | (with_reducible first | exact HB.out | apply below_alloc | apply pw_below_drewN | apply below_drew1) | exact HB.out)) hb); clear HB; have HB := n0_; clear n0_; (try clear hb); (try clear hb2); (try clear hk); (try clear hi)))
        go_ret
        exact ⟨by first | rfl | (simp [errW_none, errW_some] <;> rfl) | (simp [*, errW_none, errW_some] <;> rfl), by repeat (first | (with_reducible first | exact HB.out | apply below_alloc | apply pw_below_drewN | apply below_drew1) | exact HB.out)⟩
      · rw [if_neg c5] at H
        exact absurd H (by simp)
    · rw [if_neg c3] at H
      have c3b0 : decide (a0 < 0) = false := decide_eq_false c3
      clear c3
      by_cases c7 : a0 < 10
      · rw [if_pos c7] at H
        have c7b0 : decide (a0 < 10) = true := decide_eq_true c7
        clear c7
        obtain ⟨y108, hy108⟩ : ∃ y_ : List Int, y_ = (([(wrap64 (48 + a0)) % 256] : List Int)) := ⟨_, rfl⟩
        replace H : (some (strOfNums y108)) = some r := by first | (rw [hy108]; with_reducible exact H) | (have H2_ := (Option.bind_some _ _).symm.trans H; rw [hy108]; with_reducible exact H2_) | (have H2_ := (Option.bind_some _ _).symm.trans H; with_reducible exact H2_) | with_reducible exact H | (rw [hy108]; exact H) | exact H
        have Ny108 := Aside0.mk hy108
        clear hy108
        obtain rfl := Option.some.inj H
        go_enter Tryd.func63, Tryd.ntmps63
        go_wp2_with (first | ((with_reducible refine gate_dst (N := 16) rfl ?_); refine Kd.R_lit (Kd.int .u8) _ 5 ?hg (N := 16) ?hd (xs := ([(wrap64 (48 + a0)) % 256] : List Int)) (inner := [.int .u8 ((wrap64 (48 + a0)) % 256)]) (ok := fun _ => True) (okp := fun _ => True) ?hr ?hp (fun _ hk => hk) trivial (Below.refl _ _) (Nat.le_refl _) (by simp) ?_; (case hd => rfl); (case hg => rfl); (case hr => first | (go_simp; done) | (go_simp; rfl)); (case hp => exact (Reps.one (show Kd.M (Kd.int .u8) _ _ _ ((wrap64 (48 + a0)) % 256) [.int .u8 ((wrap64 (48 + a0)) % 256)] from rfl) (Reps.none _ _))); intro v109 w8 ho9 hb hg_ hnew_; clear hg_ hnew_; (first | rw [← Ny108.out] at ho9 | (simp only [Int.reduceToNat] at ho9; rw [← Ny108.out] at ho9)); have n0_ := Aside0.mk (Kd.R_lower ho9 (below_size (by repeat (first | (with_reducible first | exact HB.out | apply below_alloc | apply pw_below_drewN | apply below_drew1) | exact HB.out)))); have n1_ := Aside0.mk (below_step (by repeat (first | (with_reducible first | exact HB.out | apply below_alloc | apply pw_below_drewN | apply below_drew1) | exact HB.out)) hb); clear HB; have HO110 := n0_; have HB := n1_; clear n0_ n1_; clear hb ho9; have hcv10 := own_string (P := Tryd.prog) Tryd.underlying25 Tryd.underlying5 Tryd.underlying9 (Kd.own_of_R HO110.out)))
        go_ret
        exact ⟨by first | rfl | (simp [errW_none, errW_some] <;> rfl) | (simp [*, errW_none, errW_some] <;> rfl), by repeat (first | (with_reducible first | exact HB.out | apply below_alloc | apply pw_below_drewN | apply below_drew1) | exact HB.out)⟩
      · rw [if_neg c7] at H
        have c7b0 : decide (a0 < 10) = false := decide_eq_false c7
        clear c7
        replace H := Option.bind_eq_some_iff.mp H
        obtain ⟨t111, A110, H⟩ := H
        replace H : ((some (([(wrap64 (48 + (Int.tmod a0 10))) % 256] : List Int) : List Int)).bind fun y112 => (if t111.size + (strOfNums y112).size ≤ 9223372036854775807 then (some (t111 ++ (strOfNums y112))) else (none))) = some r := H
        have A11 := Aside0.mk A110
        clear A110
        obtain ⟨y112, hy112⟩ : ∃ y_ : List Int, y_ = (([(wrap64 (48 + (Int.tmod a0 10))) % 256] : List Int)) := ⟨_, rfl⟩
        replace H : (if t111.size + (strOfNums y112).size ≤ 9223372036854775807 then (some (t111 ++ (strOfNums y112))) else (none)) = some r := by first | (rw [hy112]; with_reducible exact H) | (have H2_ := (Option.bind_some _ _).symm.trans H; rw [hy112]; with_reducible exact H2_) | (have H2_ := (Option.bind_some _ _).symm.trans H; with_reducible exact H2_) | with_reducible exact H | (rw [hy112]; exact H) | exact H
        have Ny112 := Aside0.mk hy112
        clear hy112
        by_cases c12 : t111.size + (strOfNums y112).size ≤ 9223372036854775807
        · rw [if_pos c12] at H
          have c12b0 := eq_true c12
          have c12b1 : decide (t111.size + (strOfNums y112).size ≤ 9223372036854775807) = true := decide_eq_true c12
          try have c12b2 : (9223372036854775807 < t111.size + (strOfNums y112).size) = False := eq_false (Nat.not_lt.2 c12)
          obtain rfl := Option.some.inj H
          go_enter Tryd.func63, Tryd.ntmps63
          try go_wp2
          have n0_ := Aside0.mk (below_drew1 HB.out)
          clear HB
          have HB := n0_
          clear n0_
          refine start_ (n := 11) (S := fun w' => True) (ds := []) #[false, false, false, false, false, false, false, false, false, false, false] (by kernel_rfl) rfl rfl trivial (fun hHeld => ?_); refine with_tabW spec_l00Digits.tab7 spec_l00Digits.bits7 (fun HT_ HW_ => ?_)
          generalize w.drew = w13 at HB hHeld ⊢
          refine pure_ (i := 0) (N := some 18) (v := ?_) (a' := ?_) #[true, false, false, false, false, false, false, false, false, false, false] rfl rfl (any_of HT_.out (by kernel_rfl)) (fun _ _ _ h => h) (Or.inl ⟨by rfl, ?_⟩) ?_ ?_
          rotate_left
          · intro w'
            go_simp
            with_reducible rfl
          rotate_left
          · simp only [Act.put, List.setIfInBounds_toArray, List.set_cons_zero, List.set_cons_succ, i64_w, i32_w]
            rfl
          refine pure_ (i := 1) (N := some 19) (v := ?_) (a' := ?_) #[true, true, false, false, false, false, false, false, false, false, false] rfl rfl (any_of HT_.out (by kernel_rfl)) (fun _ _ _ h => h) (Or.inl ⟨by rfl, ?_⟩) ?_ ?_
          rotate_left
          · intro w'
            go_simp
            with_reducible rfl
          rotate_left
          · simp only [Act.put, List.setIfInBounds_toArray, List.set_cons_zero, List.set_cons_succ, i64_w, i32_w]
            rfl
          refine pure_ (i := 3) (N := some 21) (v := ?_) (a' := ?_) #[true, true, false, true, false, false, false, false, false, false, false] rfl rfl (any_of HT_.out (by kernel_rfl)) (fun _ _ _ h => h) (Or.inl ⟨by rfl, ?_⟩) ?_ ?_
          rotate_left
          · intro w'
            go_simp
            with_reducible rfl
          rotate_left
          · simp only [Act.put, List.setIfInBounds_toArray, List.set_cons_zero, List.set_cons_succ, i64_w, i32_w]
            rfl
          refine pure_ (i := 4) (N := some 22) (v := ?_) (a' := ?_) #[true, true, false, true, true, false, false, false, false, false, false] rfl rfl (any_of HT_.out (by kernel_rfl)) (fun _ _ _ h => h) (Or.inl ⟨by rfl, ?_⟩) ?_ ?_
          rotate_left
          · intro w'
            go_simp
            with_reducible rfl
          rotate_left
          · simp only [Act.put, List.setIfInBounds_toArray, List.set_cons_zero, List.set_cons_succ, i64_w, i32_w]
            rfl
          refine pure_ (i := 5) (N := some 23) (v := ?_) (a' := ?_) #[true, true, false, true, true, true, false, false, false, false, false] rfl rfl (any_of HT_.out (by kernel_rfl)) (fun _ _ _ h => h) (Or.inl ⟨by rfl, ?_⟩) ?_ ?_
          rotate_left
          · intro w'
            go_simp
            with_reducible rfl
          rotate_left
          · simp only [Act.put, List.setIfInBounds_toArray, List.set_cons_zero, List.set_cons_succ, i64_w, i32_w]
            rfl
          refine pure_ (i := 6) (N := some 24) (v := ?_) (a' := ?_) #[true, true, false, true, true, true, true, false, false, false, false] rfl rfl (any_of HT_.out (by kernel_rfl)) (fun _ _ _ h => h) (Or.inl ⟨by rfl, ?_⟩) ?_ ?_
          rotate_left
          · intro w'
            go_simp
            with_reducible rfl
          rotate_left
          · simp only [Act.put, List.setIfInBounds_toArray, List.set_cons_zero, List.set_cons_succ, i64_w, i32_w]
            rfl
          refine join_ (σ := Value) 2 #[true, true, true, true, true, true, true, true, true, false, false] (fun s_ => [(20, .string t111), (25, s_), (26, .string (strOfNums y112))]) (fun s_ w' => (Kd.R (Kd.int .u8) 5 w' w.heap.size (fun _ => True) s_ y112) ∧ (Below w.heap.size w w')) ?_ ?_
          rotate_left
          · intro hCont
            refine two_ (i := 2) (j := 7) (Ni := some 20) (Nj := some 25) #[true, true, true, true, true, true, true, false, false, false, false] #[true, true, false, true, true, true, true, true, false, false, false] rfl rfl rfl rfl (two_of HT_.out (by kernel_rfl)) (by decide) (by decide) (fun K hK => ?_) (fun K hK => ?_)
            · skip
              refine goes_ Tryd.func63 (by kernel_rfl) rfl #[.int .i64 (wrap64 (Int.tdiv a0 10))] (by rfl) rfl rfl (by (try simp only [List.map_toArray, List.map_cons, List.map_nil]); first | done | rfl | (simp only [List.length_drop, List.length_take]; rfl)) ?_
              with_reducible refine (ih k (by omega) (wrap64 (Int.tdiv a0 10)) t111 _ A11.out).mono ?_
              rintro e w14 ⟨rfl, hb⟩
              refine ⟨_, rfl, ?_⟩
              have n0_ := Aside0.mk (below_step (by repeat (first | (with_reducible first | exact HB.out | apply below_alloc | apply pw_below_drewN | apply below_drew1) | exact HB.out)) hb)
              clear HB
              have HB := n0_
              clear n0_
              (try clear hb)
              (try clear hb2)
              (try clear hk)
              (try clear hi)
              refine hK.out _ _ trivial (fun hHeld => ?_)
              clear hK K
              refine norm_ (a' := ?_) ?_ ?_
              rotate_left
              · show Act.put _ (some 20) _ = _
                simp only [Act.put, List.setIfInBounds_toArray, List.set_cons_zero, List.set_cons_succ, i64_w, i32_w]
                rfl
              refine one_ (i := 7) (N := some 25) #[true, true, true, true, true, true, true, true, false, false, false] rfl rfl (one_of HT_.out (by kernel_rfl)) (by decide) (fun K hK => ?_)
              refine Kd.R_lit_step (Kd.int .u8) _ 5 ?hg (N := 25) ?hd (xs := ([(wrap64 (48 + (Int.tmod a0 10))) % 256] : List Int)) (inner := [.int .u8 ((wrap64 (48 + (Int.tmod a0 10))) % 256)]) (ok := fun _ => True) (okp := fun _ => True) ?hr ?hp (fun _ hk => hk) trivial (Below.refl _ _) (Nat.le_refl _) (by simp) ?_; (case hd => rfl); (case hg => rfl); (case hr => first | (go_simp; done) | (go_simp; rfl)); (case hp => exact (Reps.one (show Kd.M (Kd.int .u8) _ _ _ ((wrap64 (48 + (Int.tmod a0 10))) % 256) [.int .u8 ((wrap64 (48 + (Int.tmod a0 10))) % 256)] from rfl) (Reps.none _ _)))
              intro v113 w15 ho16 hb hg_ hnew_
              clear hg_ hnew_
              (first | rw [← Ny112.out] at ho16 | (simp only [Int.reduceToNat] at ho16; rw [← Ny112.out] at ho16))
              have n0_ := Aside0.mk (Kd.R_lower ho16 (below_size (by repeat (first | (with_reducible first | exact HB.out | apply below_alloc | apply pw_below_drewN | apply below_drew1) | exact HB.out))))
              have n1_ := Aside0.mk (below_step (by repeat (first | (with_reducible first | exact HB.out | apply below_alloc | apply pw_below_drewN | apply below_drew1) | exact HB.out)) hb)
              clear HB
              have HO114 := n0_
              have HB := n1_
              clear n0_ n1_
              clear hb ho16
              refine hK.out _ _ trivial (fun hHeld => ?_)
              clear hK K
              refine norm_ (a' := ?_) ?_ ?_
              rotate_left
              · show Act.put _ (some 25) _ = _
                simp only [Act.put, List.setIfInBounds_toArray, List.set_cons_zero, List.set_cons_succ, i64_w, i32_w]
                rfl
              refine one_ (i := 8) (N := some 26) #[true, true, true, true, true, true, true, true, true, false, false] rfl rfl (one_of HT_.out (by kernel_rfl)) (by decide) (fun K hK => ?_)
              have hcv17 := own_string (P := Tryd.prog) Tryd.underlying25 Tryd.underlying5 Tryd.underlying9 (Kd.own_of_R HO114.out)
              refine value_ (w1 := ?_) (v := ?_) (by rfl) rfl ?_ ?_
              rotate_left 2
              · go_simp
                constructor
                · rfl
                · rfl
              clear hcv17
              refine hK.out _ _ trivial (fun hHeld => ?_)
              clear hK K
              refine norm_ (a' := ?_) ?_ ?_
              rotate_left
              · show Act.put _ (some 26) _ = _
                simp only [Act.put, List.setIfInBounds_toArray, List.set_cons_zero, List.set_cons_succ, i64_w, i32_w]
                rfl
              exact norm_ (by simp only [putAll, Act.put, List.setIfInBounds_toArray, List.set_cons_zero, List.set_cons_succ]) (hCont (v113) _ ⟨(by (with_reducible repeat (first | apply Kd.R_alloc | apply Kd.R_drewN | apply Kd.R_drew)); exact HO114.out), (by repeat (first | (with_reducible first | exact HB.out | apply below_alloc | apply pw_below_drewN | apply below_drew1) | exact HB.out))⟩)
            · skip
              refine Kd.R_lit_step (Kd.int .u8) _ 5 ?hg (N := 25) ?hd (xs := ([(wrap64 (48 + (Int.tmod a0 10))) % 256] : List Int)) (inner := [.int .u8 ((wrap64 (48 + (Int.tmod a0 10))) % 256)]) (ok := fun _ => True) (okp := fun _ => True) ?hr ?hp (fun _ hk => hk) trivial (Below.refl _ _) (Nat.le_refl _) (by simp) ?_; (case hd => rfl); (case hg => rfl); (case hr => first | (go_simp; done) | (go_simp; rfl)); (case hp => exact (Reps.one (show Kd.M (Kd.int .u8) _ _ _ ((wrap64 (48 + (Int.tmod a0 10))) % 256) [.int .u8 ((wrap64 (48 + (Int.tmod a0 10))) % 256)] from rfl) (Reps.none _ _)))
              intro v113 w14 ho15 hb hg_ hnew_
              clear hg_ hnew_
              (first | rw [← Ny112.out] at ho15 | (simp only [Int.reduceToNat] at ho15; rw [← Ny112.out] at ho15))
              have n0_ := Aside0.mk (Kd.R_lower ho15 (below_size (by repeat (first | (with_reducible first | exact HB.out | apply below_alloc | apply pw_below_drewN | apply below_drew1) | exact HB.out))))
              have n1_ := Aside0.mk (below_step (by repeat (first | (with_reducible first | exact HB.out | apply below_alloc | apply pw_below_drewN | apply below_drew1) | exact HB.out)) hb)
              clear HB
              have HO114 := n0_
              have HB := n1_
              clear n0_ n1_
              clear hb ho15
              refine hK.out _ _ trivial (fun hHeld => ?_)
              clear hK K
              refine norm_ (a' := ?_) ?_ ?_
              rotate_left
              · show Act.put _ (some 25) _ = _
                simp only [Act.put, List.setIfInBounds_toArray, List.set_cons_zero, List.set_cons_succ, i64_w, i32_w]
                rfl
              refine two_ (i := 2) (j := 8) (Ni := some 20) (Nj := some 26) #[true, true, true, true, true, true, true, true, false, false, false] #[true, true, false, true, true, true, true, true, true, false, false] rfl rfl rfl rfl (two_of HT_.out (by kernel_rfl)) (by decide) (by decide) (fun K hK => ?_) (fun K hK => ?_)
              · skip
                refine goes_ Tryd.func63 (by kernel_rfl) rfl #[.int .i64 (wrap64 (Int.tdiv a0 10))] (by rfl) rfl rfl (by (try simp only [List.map_toArray, List.map_cons, List.map_nil]); first | done | rfl | (simp only [List.length_drop, List.length_take]; rfl)) ?_
                with_reducible refine (ih k (by omega) (wrap64 (Int.tdiv a0 10)) t111 _ A11.out).mono ?_
                rintro e w16 ⟨rfl, hb⟩
                refine ⟨_, rfl, ?_⟩
                have n0_ := Aside0.mk (Kd.R_below (by (with_reducible repeat (first | apply Kd.R_alloc | apply Kd.R_drewN | apply Kd.R_drew)); exact HO114.out) hb)
                have n1_ := Aside0.mk (below_step (by repeat (first | (with_reducible first | exact HB.out | apply below_alloc | apply pw_below_drewN | apply below_drew1) | exact HB.out)) hb)
                clear HO114
                clear HB
                have HO114 := n0_
                have HB := n1_
                clear n0_ n1_
                (try clear hb)
                (try clear hb2)
                (try clear hk)
                (try clear hi)
                refine hK.out _ _ trivial (fun hHeld => ?_)
                clear hK K
                refine norm_ (a' := ?_) ?_ ?_
                rotate_left
                · show Act.put _ (some 20) _ = _
                  simp only [Act.put, List.setIfInBounds_toArray, List.set_cons_zero, List.set_cons_succ, i64_w, i32_w]
                  rfl
                refine one_ (i := 8) (N := some 26) #[true, true, true, true, true, true, true, true, true, false, false] rfl rfl (one_of HT_.out (by kernel_rfl)) (by decide) (fun K hK => ?_)
                have hcv17 := own_string (P := Tryd.prog) Tryd.underlying25 Tryd.underlying5 Tryd.underlying9 (Kd.own_of_R HO114.out)
                refine value_ (w1 := ?_) (v := ?_) (by rfl) rfl ?_ ?_
                rotate_left 2
                · go_simp
                  constructor
                  · rfl
                  · rfl
                clear hcv17
                refine hK.out _ _ trivial (fun hHeld => ?_)
                clear hK K
                refine norm_ (a' := ?_) ?_ ?_
                rotate_left
                · show Act.put _ (some 26) _ = _
                  simp only [Act.put, List.setIfInBounds_toArray, List.set_cons_zero, List.set_cons_succ, i64_w, i32_w]
                  rfl
                exact norm_ (by simp only [putAll, Act.put, List.setIfInBounds_toArray, List.set_cons_zero, List.set_cons_succ]) (hCont (v113) _ ⟨(by (with_reducible repeat (first | apply Kd.R_alloc | apply Kd.R_drewN | apply Kd.R_drew)); exact HO114.out), (by repeat (first | (with_reducible first | exact HB.out | apply below_alloc | apply pw_below_drewN | apply below_drew1) | exact HB.out))⟩)
              · skip
                have hcv16 := own_string (P := Tryd.prog) Tryd.underlying25 Tryd.underlying5 Tryd.underlying9 (Kd.own_of_R HO114.out)
                refine value_ (w1 := ?_) (v := ?_) (by rfl) rfl ?_ ?_
                rotate_left 2
                · go_simp
                  constructor
                  · rfl
                  · rfl
                clear hcv16
                refine hK.out _ _ trivial (fun hHeld => ?_)
                clear hK K
                refine norm_ (a' := ?_) ?_ ?_
                rotate_left
                · show Act.put _ (some 26) _ = _
                  simp only [Act.put, List.setIfInBounds_toArray, List.set_cons_zero, List.set_cons_succ, i64_w, i32_w]
                  rfl
                refine one_ (i := 2) (N := some 20) #[true, true, true, true, true, true, true, true, true, false, false] rfl rfl (one_of HT_.out (by kernel_rfl)) (by decide) (fun K hK => ?_)
                refine goes_ Tryd.func63 (by kernel_rfl) rfl #[.int .i64 (wrap64 (Int.tdiv a0 10))] (by rfl) rfl rfl (by (try simp only [List.map_toArray, List.map_cons, List.map_nil]); first | done | rfl | (simp only [List.length_drop, List.length_take]; rfl)) ?_
                with_reducible refine (ih k (by omega) (wrap64 (Int.tdiv a0 10)) t111 _ A11.out).mono ?_
                rintro e w17 ⟨rfl, hb⟩
                refine ⟨_, rfl, ?_⟩
                have n0_ := Aside0.mk (Kd.R_below (by (with_reducible repeat (first | apply Kd.R_alloc | apply Kd.R_drewN | apply Kd.R_drew)); exact HO114.out) hb)
                have n1_ := Aside0.mk (below_step (by repeat (first | (with_reducible first | exact HB.out | apply below_alloc | apply pw_below_drewN | apply below_drew1) | exact HB.out)) hb)
                clear HO114
                clear HB
                have HO114 := n0_
                have HB := n1_
                clear n0_ n1_
                (try clear hb)
                (try clear hb2)
                (try clear hk)
                (try clear hi)
                refine hK.out _ _ trivial (fun hHeld => ?_)
                clear hK K
                refine norm_ (a' := ?_) ?_ ?_
                rotate_left
                · show Act.put _ (some 20) _ = _
                  simp only [Act.put, List.setIfInBounds_toArray, List.set_cons_zero, List.set_cons_succ, i64_w, i32_w]
                  rfl
                exact norm_ (by simp only [putAll, Act.put, List.setIfInBounds_toArray, List.set_cons_zero, List.set_cons_succ]) (hCont (v113) _ ⟨(by (with_reducible repeat (first | apply Kd.R_alloc | apply Kd.R_drewN | apply Kd.R_drew)); exact HO114.out), (by repeat (first | (with_reducible first | exact HB.out | apply below_alloc | apply pw_below_drewN | apply below_drew1) | exact HB.out))⟩)
          rintro v113 w18 ⟨h0_, h1_⟩
          have n0_ : Aside0 (Kd.R (Kd.int .u8) 5 w18 w.heap.size (fun _ => True) v113 y112) := ⟨h0_⟩
          have n1_ : Aside0 (Below w.heap.size w w18) := ⟨h1_⟩
          clear HB
          clear h0_ h1_
          have HO114 := n0_
          have HB := n1_
          clear n0_ n1_
          have hHeld := trivial
          refine norm_ (a' := ?_) ?_ ?_
          rotate_left
          · simp only [putAll, Act.put, List.setIfInBounds_toArray, List.set_cons_zero, List.set_cons_succ]
            rfl
          refine pure_ (i := 9) (N := some 27) (v := ?_) (a' := ?_) #[true, true, true, true, true, true, true, true, true, true, false] rfl rfl (any_of HT_.out (by kernel_rfl)) (fun _ _ _ h => h) (Or.inl ⟨by rfl, ?_⟩) ?_ ?_
          rotate_left
          · intro w'
            go_simp
            with_reducible rfl
          rotate_left
          · simp only [Act.put, List.setIfInBounds_toArray, List.set_cons_zero, List.set_cons_succ, i64_w, i32_w]
            rfl
          refine pure_ (i := 10) (N := some 2) (v := ?_) (a' := ?_) #[true, true, true, true, true, true, true, true, true, true, true] rfl rfl (any_of HT_.out (by kernel_rfl)) (fun _ _ _ h => h) (Or.inl ⟨by rfl, ?_⟩) ?_ ?_
          rotate_left
          · intro w'
            go_simp
            with_reducible rfl
          rotate_left
          · simp only [Act.put, List.setIfInBounds_toArray, List.set_cons_zero, List.set_cons_succ, i64_w, i32_w]
            rfl
          refine done_ (done_of HT_.out (by kernel_rfl)) ?_
          try go_wp2
          go_ret
          exact ⟨by first | rfl | (simp [errW_none, errW_some] <;> rfl) | (simp [*, errW_none, errW_some] <;> rfl), by repeat (first | (with_reducible first | exact HB.out | apply below_alloc | apply pw_below_drewN | apply below_drew1) | exact HB.out)⟩
        · rw [if_neg c12] at H
          exact absurd H (by simp)

end Go.Proofs.YteghpdmlpefnfaaDoor.Q

/- Plain arithmetic: products of two amounts in halves of nine digits; long division digit by digit. No program. -/
namespace Go.Proofs.YteghpdmlpefnfaaDoor.U
open Go Go.RowKit
set_option linter.unusedVariables false
set_option linter.unusedSimpArgs false

theorem wid {n : Int} (h0 : -9223372036854775808 ≤ n) (h1 : n ≤ 9223372036854775807) : wrap64 n = n := IntWalk.wrap64_in n ⟨h0, h1⟩
theorem tdiv_nn {a b : Int} (h : 0 ≤ a) : Int.tdiv a b = a / b := Int.tdiv_eq_ediv_of_nonneg h
theorem tmod_nn {a b : Int} (h : 0 ≤ a) : Int.tmod a b = a % b := Int.tmod_eq_emod_of_nonneg h
theorem u64w (n : Int) : IntKind.u64.wrap n = n % 18446744073709551616 := by simp [IntKind.wrap, IntKind.bits, IntKind.signed]
theorem u64id {n : Int} (h0 : 0 ≤ n) (h1 : n < 18446744073709551616) : IntKind.u64.wrap n = n := by rw [u64w]; exact Int.emod_eq_of_lt h0 h1

theorem mul_bd {x y X Y : Int} (hx : 0 ≤ x) (hx' : x ≤ X) (hy : 0 ≤ y) (hy' : y ≤ Y) : 0 ≤ x * y ∧ x * y ≤ X * Y :=
  ⟨Int.mul_nonneg hx hy, Int.mul_le_mul hx' hy' hy (Int.le_trans hx hx')⟩

theorem wide_eq (a b : Int) (ha : 0 ≤ a) (ha' : a ≤ 1000000000000000000) (hb : 0 ≤ b) (hb' : b ≤ 1000000000000000000) :
    a * b = (a / 1000000000) * (b / 1000000000) * 1000000000000000000 + ((a / 1000000000) * (b % 1000000000) + (a % 1000000000) * (b / 1000000000)) * 1000000000 + (a % 1000000000) * (b % 1000000000) := by
  have e1 : a = (a / 1000000000) * 1000000000 + a % 1000000000 := by omega
  have e2 : b = (b / 1000000000) * 1000000000 + b % 1000000000 := by omega
  generalize a / 1000000000 = x at *
  generalize a % 1000000000 = y at *
  generalize b / 1000000000 = z at *
  generalize b % 1000000000 = u at *
  subst e1 e2
  grind

/-- One digit more of a long division. -/
theorem digit_step (c T out rest low : Int) (hc : 1 ≤ c) (hT : 1 ≤ T) (hr : 0 ≤ rest) (hl : 0 ≤ low) :
    (out * 10 + (10 * rest + low / T % 10) / c) * T + ((10 * rest + low / T % 10) % c * T + low % T) / c = out * (10 * T) + (rest * (10 * T) + low % (10 * T)) / c := by
  have e1 : low % (10 * T) = low / T % 10 * T + low % T := by
    have h1 : low / (10 * T) = low / T / 10 := by rw [Int.mul_comm, Int.ediv_ediv_of_nonneg (by omega)]
    have h2 := Int.mul_ediv_add_emod low (10 * T)
    have h3 := Int.mul_ediv_add_emod low T
    have h4 := Int.mul_ediv_add_emod (low / T) 10
    rw [h1] at h2
    generalize low / T / 10 = p at *
    generalize low / T % 10 = d at *
    generalize low / T = m at *
    subst h4
    generalize low % T = e at *
    generalize low % (10 * T) = f at *
    grind
  have h5 := Int.mul_ediv_add_emod (10 * rest + low / T % 10) c
  generalize low / T % 10 = d at *
  generalize (10 * rest + d) / c = q at *
  generalize (10 * rest + d) % c = s at *
  have e2 : rest * (10 * T) + low % (10 * T) = c * (q * T) + (s * T + low % T) := by
    rw [e1]
    generalize low % T = e at *
    grind
  rw [e2, Int.mul_add_ediv_left _ _ (by omega)]
  grind

/-- Knuth's step: a digit that is guessed too great is told by the lower half. -/
theorem knuth_lower (Y yn1 yn0 u v q : Int) (hY : Y = yn1 * 4294967296 + yn0) (h0 : 0 ≤ yn0) (hv : 0 ≤ v) (hv' : v < 4294967296) (hq : 0 ≤ q) (h : q * Y ≤ u * 4294967296 + v) : q * yn1 ≤ u := by
  have h1 : q * Y = q * yn1 * 4294967296 + q * yn0 := by subst hY; grind
  have h2 : 0 ≤ q * yn0 := Int.mul_nonneg hq h0
  omega

end Go.Proofs.YteghpdmlpefnfaaDoor.U

/- A number's digits: the reference's are the library's. -/
namespace Go.Proofs.YteghpdmlpefnfaaDoor.U
open Go Go.RowKit Go.Proofs.YteghpdmlpefnfaaDoor.Q Go.Proofs.YteghpdmlpefnfaaDoorW.PrintWords Go.Proofs.YteghpdmlpefnfaaDoorW.PrintLast Go.Proofs.YteghpdmlpefnfaaDoorW.PrintMore
set_option linter.unusedVariables false
set_option linter.unusedSimpArgs false

def digV (u : Nat) : ByteArray := ⟨(Lib.decDigits u).toArray⟩
theorem one_digit (u : Nat) (h : u < 10) : strOfNums [(wrap64 (48 + (u : Int))) % 256] = ⟨#[UInt8.ofNat (48 + u)]⟩ := by
  rw [wid (by omega) (by omega)]
  have : ((48 + (u : Int)) % 256) = ((48 + u : Nat) : Int) := by omega
  rw [this]
  rfl
theorem digits_ev (u : Nat) (hu : u ≤ 1000000000000000000) : Ev (fun k => spec_l00Digits.f k (u : Int)) (digV u) := by
  induction u using Nat.strongRecOn with
  | _ u ih =>
    by_cases h : u < 10
    · refine Ev.step (fun k => ?_) (Ev.now _)
      rw [spec_l00Digits.f, if_neg (by omega), if_neg (by omega), if_pos (by omega), one_digit u h, digV, Lib.decDigits_one h]
    · have e1 : wrap64 (Int.tdiv (u : Int) 10) = ((u / 10 : Nat) : Int) := by rw [tdiv_nn (by omega), wid (by omega) (by omega)]; omega
      have e2 : Int.tmod (u : Int) 10 = ((u % 10 : Nat) : Int) := by rw [tmod_nn (by omega)]; omega
      have hs : (digV (u / 10)).size ≤ u := by
        show (Lib.decDigits (u / 10)).toArray.size ≤ u
        rw [List.size_toArray, Lib.decDigits_length]
        have hn : ∀ v : Nat, 1 ≤ v → Lib.nDigits v ≤ v := by
          intro v
          induction v using Nat.strongRecOn with
          | _ v ihv =>
            intro h1
            rw [Lib.nDigits]
            split
            · exact h1
            · have := ihv (v / 10) (by omega) (by omega); omega
        have := hn (u / 10) (by omega)
        omega
      refine Ev.step (f := fun k => (spec_l00Digits.f k ((u / 10 : Nat) : Int)).bind fun t => if t.size + 1 ≤ 9223372036854775807 then some (t ++ (⟨#[UInt8.ofNat (48 + u % 10)]⟩ : ByteArray)) else none) (fun k => ?_) ?_
      · rw [spec_l00Digits.f, if_neg (by omega), if_neg (by omega), if_neg (by omega), e1, e2]
        simp only [Option.bind_some, one_digit (u % 10) (by omega)]
        rfl
      · refine Ev.bind (ih (u / 10) (by omega) (by omega)) ?_
        simp only [if_pos (show (digV (u / 10)).size + 1 ≤ 9223372036854775807 by omega)]
        have : digV (u / 10) ++ (⟨#[UInt8.ofNat (48 + u % 10)]⟩ : ByteArray) = digV u := by
          unfold digV
          conv => rhs; rw [Lib.decDigits, dif_neg h]
          apply ByteArray.ext
          simp
        rw [this]
        exact Ev.now _
theorem itoa_eq (n : Int) (h : 0 ≤ n) : (⟨(Lib.itoa n).toArray⟩ : ByteArray) = digV n.toNat := by
  unfold Lib.itoa digV
  rw [if_neg (by omega)]
end Go.Proofs.YteghpdmlpefnfaaDoor.U

/- Amounts: the number that a text tells, as the program and as the reference read it. -/
namespace Go.Proofs.YteghpdmlpefnfaaDoor.U
open Go Go.RowKit Go.Proofs.YteghpdmlpefnfaaDoor.Q Go.Proofs.YteghpdmlpefnfaaDoorW.PrintWords Go.Proofs.YteghpdmlpefnfaaDoorW.PrintLast Go.Proofs.YteghpdmlpefnfaaDoorW.PrintMore
set_option linter.unusedVariables false
set_option linter.unusedSimpArgs false

theorem nd_small (j v : Nat) (h : v < 10 ^ (j + 1)) : Lib.nDigits v ≤ j + 1 := by
  induction j generalizing v with
  | zero => rw [Lib.nDigits, dif_pos (by simpa using h)]; omega
  | succ j ih =>
    rw [Lib.nDigits]
    split
    · omega
    · have := ih (v / 10) (by rw [Nat.pow_succ] at h; omega); omega
theorem digV_size (v : Nat) (h : v ≤ 1000000000000000000) : (digV v).size ≤ 19 := by
  show (Lib.decDigits v).toArray.size ≤ 19
  rw [List.size_toArray, Lib.decDigits_length]
  exact nd_small 18 v (by omega)
theorem dec_big {v : Nat} (h : ¬ v < 10) : Lib.decDigits v = Lib.decDigits (v / 10) ++ [UInt8.ofNat (48 + v % 10)] := by
  conv => lhs; rw [Lib.decDigits, dif_neg h]
theorem chr_nat (d : Nat) (h : d < 10) : (UInt8.ofNat (48 + d)).toNat = 48 + d := by
  rw [UInt8.toNat_ofNat']; omega

/-- Digits, one behind the other, onto what those ahead tell. -/
def telD (x : Nat) : List UInt8 → Option Nat
  | [] => some x
  | c :: r => if c.toNat < 48 ∨ 57 < c.toNat then none else if (1000000000000000000 - (c.toNat - 48)) / 10 < x then none else telD (x * 10 + (c.toNat - 48)) r
theorem telD_append (l r : List UInt8) : ∀ x, telD x (l ++ r) = (telD x l).bind fun y => telD y r := by
  induction l with
  | nil => intro x; rfl
  | cons c l ih =>
    intro x
    simp only [List.cons_append, telD]
    split
    · rfl
    · split
      · rfl
      · exact ih _
theorem telD_one (x d : Nat) (hd : d < 10) (h : x * 10 + d ≤ 1000000000000000000) : telD x [UInt8.ofNat (48 + d)] = some (x * 10 + d) := by
  simp only [telD, chr_nat d hd]
  rw [if_neg (by omega), if_neg (by omega)]
  congr 1; omega
theorem telD_dec (v : Nat) (h : v ≤ 1000000000000000000) : telD 0 (Lib.decDigits v) = some v := by
  induction v using Nat.strongRecOn with
  | _ v ih =>
    by_cases hv : v < 10
    · rw [Lib.decDigits_one hv, telD_one 0 v hv (by omega)]; congr 1; omega
    · rw [dec_big hv, telD_append, ih (v / 10) (by omega) (by omega)]
      show telD (v / 10) _ = _
      rw [telD_one _ _ (by omega) (by omega)]; congr 1; omega
/-- No needless naught ahead. -/
def plainB (l : List UInt8) : Bool := decide (l ≠ []) && (decide (l.length = 1) || decide (l.head? ≠ some 48))
theorem snoc_cases {α : Type} (l : List α) : l = [] ∨ ∃ (i : List α) (c : α), l = i ++ [c] := by
  rcases List.eq_nil_or_concat l with h | ⟨i, c, h⟩
  · exact .inl h
  · exact .inr ⟨i, c, by rw [h, List.concat_eq_append]⟩
theorem telD_snoc {l : List UInt8} {c : UInt8} {n : Nat} (h : telD 0 (l ++ [c]) = some n) :
    ∃ m, telD 0 l = some m ∧ 48 ≤ c.toNat ∧ c.toNat ≤ 57 ∧ n = m * 10 + (c.toNat - 48) ∧ n ≤ 1000000000000000000 := by
  rw [telD_append] at h
  obtain ⟨m, h1, h2⟩ := Option.bind_eq_some_iff.mp h
  refine ⟨m, h1, ?_⟩
  simp only [telD] at h2
  split at h2
  · cases h2
  · split at h2
    · cases h2
    · injection h2 with h2
      omega
theorem dec_of_telD (k : Nat) : ∀ (l : List UInt8) (n : Nat), l.length = k → plainB l = true → telD 0 l = some n → l = Lib.decDigits n ∧ n ≤ 1000000000000000000 := by
  induction k with
  | zero =>
    intro l n hl hp h
    have : l = [] := List.length_eq_zero_iff.1 hl
    subst this
    simp [plainB] at hp
  | succ k ih =>
    intro l n hl hp h
    rcases snoc_cases l with rfl | ⟨i, c, rfl⟩
    · simp at hl
    obtain ⟨m, h1, h2, h3, h4, h5⟩ := telD_snoc h
    refine ⟨?_, h5⟩
    by_cases hi : i = []
    · subst hi
      simp only [telD, Option.some.injEq] at h1
      subst h1
      rw [Lib.decDigits_one (by omega), h4]
      simp only [List.nil_append, List.cons.injEq, and_true]
      apply UInt8.toNat_inj.1
      rw [chr_nat _ (by omega)]; omega
    · have hne : i.head? ≠ some 48 := by
        simp only [plainB, Bool.and_eq_true, Bool.or_eq_true, decide_eq_true_iff] at hp
        rcases hp.2 with hp | hp
        · rw [List.length_append, List.length_singleton] at hp
          exact absurd (List.length_eq_zero_iff.1 (by omega)) hi
        · cases i with
          | nil => exact absurd rfl hi
          | cons a i => simpa using hp
      obtain ⟨e, _⟩ := ih i m (by rw [List.length_append, List.length_singleton] at hl; omega) (by simp only [plainB, Bool.and_eq_true, Bool.or_eq_true, decide_eq_true_iff]; exact ⟨hi, .inr hne⟩) h1
      have hm : m ≠ 0 := by
        rintro rfl
        rw [e, Lib.decDigits_one (by omega)] at hne
        exact hne rfl
      rw [dec_big (v := n) (by omega)]
      have e1 : n / 10 = m := by omega
      have e2 : n % 10 = c.toNat - 48 := by omega
      rw [e1, e2, ← e]
      congr 2
      apply UInt8.toNat_inj.1
      rw [chr_nat _ (by omega)]; omega
theorem dec_head (v : Nat) : ∃ d r, d < 10 ∧ Lib.decDigits v = UInt8.ofNat (48 + d) :: r := by
  induction v using Nat.strongRecOn with
  | _ v ih =>
    by_cases hv : v < 10
    · exact ⟨v, [], hv, Lib.decDigits_one hv⟩
    · obtain ⟨d, r, hd, e⟩ := ih (v / 10) (by omega)
      exact ⟨d, r ++ [UInt8.ofNat (48 + v % 10)], hd, by rw [dec_big hv, e]; rfl⟩
theorem dec_plain (v : Nat) : plainB (Lib.decDigits v) = true := by
  have hne : Lib.decDigits v ≠ [] := fun e => by
    have h := Lib.decDigits_length v
    rw [e] at h
    have := Lib.nDigits_pos v
    simp at h; omega
  have hd : Lib.nDigits v = 1 ∨ (Lib.decDigits v).head? ≠ some 48 := by
    induction v using Nat.strongRecOn with
    | _ v ih =>
      by_cases hv : v < 10
      · exact .inl (Lib.nDigits_small hv)
      · right
        obtain ⟨d, r, hd, e⟩ := dec_head (v / 10)
        by_cases hv2 : v / 10 < 10
        · rw [dec_big hv, Lib.decDigits_one hv2]
          simp only [List.cons_append, List.head?_cons, ne_eq, Option.some.injEq]
          intro e
          have := congrArg UInt8.toNat e
          rw [chr_nat _ hv2] at this
          have e48 : (48 : UInt8).toNat = 48 := rfl
          omega
        · rcases ih (v / 10) (by omega) (by rw [e]; simp) with h | h
          · rw [Lib.nDigits_big hv2] at h
            have := Lib.nDigits_pos (v / 10 / 10)
            omega
          · rw [e] at h
            rw [dec_big hv, e]
            exact h
  simp only [plainB, Bool.and_eq_true, Bool.or_eq_true, decide_eq_true_iff]
  refine ⟨hne, ?_⟩
  rcases hd with h | h
  · left; rw [Lib.decDigits_length, h]
  · exact .inr h
/-- The amount of a text, where it tells one. -/
def amtO (a : ByteArray) : Option Nat := if plainB a.data.toList = true then telD 0 a.data.toList else none
theorem amtO_iff (a : ByteArray) (n : Nat) : amtO a = some n ↔ a = digV n ∧ n ≤ 1000000000000000000 := by
  unfold amtO
  constructor
  · intro h
    split at h
    · rename_i hp
      obtain ⟨e, hn⟩ := dec_of_telD _ _ n rfl hp h
      refine ⟨?_, hn⟩
      apply ByteArray.ext
      apply Array.toList_inj.mp
      rw [e]
      rfl
    · cases h
  · rintro ⟨rfl, hn⟩
    have e : (digV n).data.toList = Lib.decDigits n := rfl
    rw [e, if_pos (dec_plain n)]
    exact telD_dec n hn
def amtV (a : ByteArray) : Int := match amtO a with | some n => (n : Int) | none => -1
theorem amtV_digV (n : Nat) (h : n ≤ 1000000000000000000) : amtV (digV n) = n := by
  unfold amtV
  rw [(amtO_iff _ n).2 ⟨rfl, h⟩]
theorem amtV_eq {a : ByteArray} (h : 0 ≤ amtV a) : a = digV (amtV a).toNat ∧ amtV a ≤ 1000000000000000000 := by
  unfold amtV at *
  cases e : amtO a with
  | none => rw [e] at h; simp at h
  | some n =>
    obtain ⟨h1, h2⟩ := (amtO_iff a n).1 e
    exact ⟨by simpa using h1, by simp only; omega⟩
theorem amtV_low (a : ByteArray) : -1 ≤ amtV a := by
  unfold amtV
  split <;> omega

/-! ### the program's -/
theorem parse_append (l r : List UInt8) : ∀ x, Lib.parseUint10 x (l ++ r) = match Lib.parseUint10 x l with | .ok u => Lib.parseUint10 u r | .syntax => .syntax | .range => .range := by
  induction l with
  | nil => intro x; rfl
  | cons c l ih =>
    intro x
    simp only [List.cons_append, Lib.parseUint10]
    split
    · split
      · rfl
      · split
        · rfl
        · exact ih _
    · rfl
theorem parse_one (x d : Nat) (hd : d < 10) (h : x * 10 + d < 9223372036854775808) : Lib.parseUint10 x [UInt8.ofNat (48 + d)] = .ok (x * 10 + d) := by
  simp only [Lib.parseUint10, chr_nat d hd]
  rw [if_pos (by omega), if_neg (by omega), if_neg (by omega)]
  congr 1; omega
theorem parse_dec (v : Nat) (h : v < 9223372036854775808) : Lib.parseUint10 0 (Lib.decDigits v) = .ok v := by
  induction v using Nat.strongRecOn with
  | _ v ih =>
    by_cases hv : v < 10
    · rw [Lib.decDigits_one hv, parse_one 0 v hv (by omega)]; congr 1; omega
    · rw [dec_big hv, parse_append, ih (v / 10) (by omega) (by omega)]
      show Lib.parseUint10 (v / 10) _ = _
      rw [parse_one _ _ (by omega) (by omega)]; congr 1; omega
theorem atoi_dec (v : Nat) (h : v < 9223372036854775808) : Lib.atoiAll (Lib.decDigits v) = .ok (v : Int) := by
  obtain ⟨d, r, hd, e⟩ := dec_head v
  have h1 := parse_dec v h
  rw [e] at h1 ⊢
  rw [Lib.atoiAll_plain _ _ (by rw [chr_nat d hd]; omega) (by rw [chr_nat d hd]; omega)]
  unfold Lib.parseMag
  rw [if_neg (by simp), h1]
  simp only [Lib.signless]
  rw [if_neg (by omega)]
theorem toList_eq_iff (a b : ByteArray) : a.toList = b.toList ↔ a = b := by
  constructor
  · intro h
    rw [ByteArray.toList_eq, ByteArray.toList_eq] at h
    exact ByteArray.ext (Array.toList_inj.mp h)
  · rintro rfl; rfl
theorem readAmount_eq (a : ByteArray) (hs : a.size ≤ 281474976710656) : impl_readAmount.f a = some (if 0 ≤ amtV a then (amtV a, true) else (0, false)) := by
  unfold impl_readAmount.f
  rw [if_pos hs]
  by_cases h : 0 ≤ amtV a
  · obtain ⟨e, hn⟩ := amtV_eq h
    rw [if_pos h]
    generalize amtV a = n at *
    have e1 : Lib.atoiAll a.data.toList = .ok n := by
      have := atoi_dec n.toNat (by omega)
      rw [e]
      rw [show ((n.toNat : Nat) : Int) = n by omega] at this
      exact this
    rw [e1]
    simp only [if_pos h, if_pos hn]
    rw [itoa_eq n h, ← e, if_pos rfl]
  · rw [if_neg h]
    cases hh : Lib.atoiAll a.data.toList with
    | «syntax» => rfl
    | range => rfl
    | ok v =>
      simp only
      by_cases h0 : 0 ≤ v
      · rw [if_pos h0]
        by_cases h1 : v ≤ 1000000000000000000
        · rw [if_pos h1, itoa_eq v h0]
          by_cases h2 : (digV v.toNat).toList = a.toList
          · exfalso
            have e := (toList_eq_iff _ _).1 h2
            apply h
            rw [← e, amtV_digV _ (by omega)]
            omega
          · rw [if_neg h2]
        · rw [if_neg h1]
      · rw [if_neg h0]

/-! ### the reference's -/
theorem bt_get (a : ByteArray) (i : Nat) (h : i < a.size) : bt a (i : Int) = ((a.data.toList[i]'(by rw [Array.length_toList]; exact h)).toNat : Int) := by
  unfold bt
  rw [dif_pos (by simpa using h)]
  simp
  rfl
def telI (x : Nat) (l : List UInt8) : Int := match telD x l with | some n => (n : Int) | none => -1
theorem l02Of_go (a : ByteArray) (hs : a.size ≤ 19) : ∀ (d i x : Nat), i + d = a.size → x ≤ 1000000000000000000 → Ev (fun k => spec_l02Of.l0 k a (x : Int) (i : Int)) (telI x (a.data.toList.drop i)) := by
  intro d
  induction d with
  | zero =>
    intro i x hi hx
    refine Ev.step (fun k => ?_) (Ev.now _)
    rw [spec_l02Of.l0, if_neg (by omega), List.drop_of_length_le (by rw [Array.length_toList]; show a.size ≤ i; omega)]
    rfl
  | succ d ih =>
    intro i x hi hx
    have hlt : i < a.size := by omega
    have hb := bt_get a i hlt
    have hl : i < a.data.toList.length := by rw [Array.length_toList]; exact hlt
    rw [List.drop_eq_getElem_cons hl]
    generalize a.data.toList[i] = c at *
    have hc := UInt8.toNat_lt c
    unfold telI
    simp only [telD]
    by_cases h1 : c.toNat < 48 ∨ 57 < c.toNat
    · rw [if_pos h1]
      refine Ev.step (f := fun k => spec_l02Of.j2 k a (x : Int) (i : Int) true) (fun k => ?_) (Ev.step (fun k => by rw [spec_l02Of.j2, if_pos rfl]) (Ev.now _))
      rw [spec_l02Of.l0, if_pos (by omega), if_pos (by omega), hb]
      by_cases h2 : c.toNat < 48
      · rw [if_pos (by omega)]
      · rw [if_neg (by omega), decide_eq_true (by omega)]
    · rw [if_neg h1]
      refine Ev.step (f := fun k => spec_l02Of.j2 k a (x : Int) (i : Int) false) (fun k => ?_) ?_
      · rw [spec_l02Of.l0, if_pos (by omega), if_pos (by omega), hb, if_neg (by omega), decide_eq_false (by omega)]
      · have e1 : ((c.toNat : Int) - 48) % 256 = ((c.toNat - 48 : Nat) : Int) := by omega
        by_cases h3 : (1000000000000000000 - (c.toNat - 48)) / 10 < x
        · rw [if_pos h3]
          refine Ev.step (fun k => ?_) (Ev.now _)
          rw [spec_l02Of.j2, if_neg (by decide), if_pos (by omega), if_pos (by omega), hb, e1, if_pos (by omega)]
        · rw [if_neg h3]
          have := ih (i + 1) (x * 10 + (c.toNat - 48)) (by omega) (by omega)
          refine Ev.step (fun k => ?_) this
          rw [spec_l02Of.j2, if_neg (by decide), if_pos (by omega), if_pos (by omega), hb, e1, if_neg (by omega), wid (n := (x : Int) * 10) (by omega) (by omega), wid (n := (x : Int) * 10 + _) (by omega) (by omega), wid (n := (i : Int) + 1) (by omega) (by omega)]
          rfl
theorem l02Of_ev (a : ByteArray) (hs : a.size ≤ 9223372036854775807) : Ev (fun k => spec_l02Of.f k a) (amtV a) := by
  have hbad : amtV a = -1 → Ev (fun k => spec_l02Of.j0 k a true) (amtV a) := fun e => by
    rw [e]; exact Ev.step (fun k => by rw [spec_l02Of.j0, if_pos rfl]) (Ev.now _)
  have hln : a.data.toList.length = a.size := by rw [Array.length_toList]; rfl
  have hbig : 19 < a.size → amtV a = -1 := fun h => by
    by_cases h0 : 0 ≤ amtV a
    · obtain ⟨e, hn⟩ := amtV_eq h0
      have := digV_size (amtV a).toNat (by omega)
      rw [← e] at this
      omega
    · have := amtV_low a; omega
  have hgo : Ev (fun k => spec_l02Of.l0 k a 0 0) (telI 0 a.data.toList) ∨ 19 < a.size := by
    by_cases h : 19 < a.size
    · exact .inr h
    · exact .inl (by have := l02Of_go a (by omega) a.size 0 0 (by omega) (by omega); simpa using this)
  unfold spec_l02Of.f spec_l01In.f
  by_cases h1 : (a.size : Int) ≥ 1
  · simp only [if_pos h1, Option.bind_some]
    by_cases h2 : (a.size : Int) ≤ 19
    · simp only [decide_eq_true h2, if_true]
      have hg : Ev (fun k => spec_l02Of.l0 k a 0 0) (telI 0 a.data.toList) := by
        rcases hgo with h | h
        · exact h
        · omega
      by_cases h3 : (a.size : Int) > 1
      · simp only [if_pos h3, if_pos (show (0 : Int) < (a.size : Int) by omega)]
        have hb := bt_get a 0 (by omega)
        have hh : a.data.toList.head? = some (a.data.toList[0]'(by omega)) := by rw [List.head?_eq_getElem?, List.getElem?_eq_getElem]
        by_cases h4 : a.data.toList[0]'(by omega) = 48
        · have e : (bt a 0 == 48) = true := by rw [beq_iff_eq]; have := hb; rw [h4] at this; exact this
          simp only [e]
          refine hbad ?_
          unfold amtV amtO
          rw [if_neg]
          simp only [plainB, Bool.and_eq_true, Bool.or_eq_true, decide_eq_true_iff, hh, h4]
          rintro ⟨_, h | h⟩
          · omega
          · exact h rfl
        · have e : (bt a 0 == 48) = false := by
            rw [beq_eq_false_iff_ne]
            intro h5
            apply h4
            apply UInt8.toNat_inj.1
            have e48 : (48 : UInt8).toNat = 48 := rfl
            have := hb.symm.trans h5
            omega
          simp only [e]
          refine Ev.step (fun k => by rw [spec_l02Of.j0, if_neg (by decide)]) ?_
          have e2 : amtV a = telI 0 a.data.toList := by
            unfold amtV amtO telI
            rw [if_pos]
            simp only [plainB, Bool.and_eq_true, Bool.or_eq_true, decide_eq_true_iff, hh]
            refine ⟨fun e0 => ?_, .inr (fun e0 => h4 (Option.some.inj e0))⟩
            rw [e0] at hln; simp at hln; omega
          rw [e2]
          exact hg
      · simp only [if_neg h3]
        refine Ev.step (fun k => by rw [spec_l02Of.j0, if_neg (by decide)]) ?_
        have e2 : amtV a = telI 0 a.data.toList := by
          unfold amtV amtO telI
          rw [if_pos]
          simp only [plainB, Bool.and_eq_true, Bool.or_eq_true, decide_eq_true_iff]
          refine ⟨fun e0 => ?_, .inl (by omega)⟩
          rw [e0] at hln; simp at hln; omega
        rw [e2]
        exact hg
    · simp only [decide_eq_false h2, Bool.false_eq_true, if_false]
      exact hbad (hbig (by omega))
  · simp only [if_neg h1, Option.bind_some, Bool.false_eq_true, if_false]
    refine hbad ?_
    unfold amtV amtO
    have : a.data.toList = [] := List.length_eq_zero_iff.1 (by omega)
    rw [this]
    rfl
end Go.Proofs.YteghpdmlpefnfaaDoor.U

/- Fields: how the program writes texts in line. -/
namespace Go.Proofs.YteghpdmlpefnfaaDoor.U
open Go Go.RowKit Go.Proofs.YteghpdmlpefnfaaDoor.Q Go.Proofs.YteghpdmlpefnfaaDoorW.PrintWords Go.Proofs.YteghpdmlpefnfaaDoorW.PrintLast Go.Proofs.YteghpdmlpefnfaaDoorW.PrintMore
set_option linter.unusedVariables false
set_option linter.unusedSimpArgs false

theorem w00 : wrap64 (0 - 1) = -1 := by rw [wid (n := 0 - 1) (by decide) (by decide)]; rfl
theorem w10 : wrap64 (1 - 1) = 0 := by rw [wid (n := 1 - 1) (by decide) (by decide)]; rfl
theorem w21 : wrap64 (2 - 1) = 1 := by rw [wid (n := 2 - 1) (by decide) (by decide)]; rfl
theorem number_end (n : Int) (l : List Int) : Ev (fun k => impl_number.l0 k n l (-1)) (strOfNums l) := Ev.step (fun k => by rw [impl_number.l0, if_neg (by decide)]) (Ev.now _)
theorem number1_ev (n : Int) : Ev (fun k => impl_number.f k n 1) (strOfNums [n % 256]) := by
  unfold impl_number.f
  simp only [if_pos (show (0 : Int) ≤ 1 by omega), if_pos (show (1 : Int).toNat ≤ 281474976710656 by decide), w10, show List.replicate (1 : Int).toNat (0 : Int) = [0] from rfl]
  refine Ev.step (fun k => ?_) (number_end (n / 256) [n % 256])
  rw [impl_number.l0, if_pos (by decide), if_pos (by decide), if_pos (by decide), w00]
  rfl
theorem number2_ev (n : Int) : Ev (fun k => impl_number.f k n 2) (strOfNums [n / 256 % 256, n % 256]) := by
  unfold impl_number.f
  simp only [if_pos (show (0 : Int) ≤ 2 by omega), if_pos (show (2 : Int).toNat ≤ 281474976710656 by decide), w21, show List.replicate (2 : Int).toNat (0 : Int) = [0, 0] from rfl]
  refine Ev.step (f := fun k => impl_number.l0 k (n / 256) [0, n % 256] 0) (fun k => ?_) (Ev.step (fun k => ?_) (number_end (n / 256 / 256) [n / 256 % 256, n % 256]))
  · rw [impl_number.l0, if_pos (by decide), if_pos (by decide), if_pos (by decide), w10]
    rfl
  · rw [impl_number.l0, if_pos (by decide), if_pos (by decide), if_pos (by simp), w00]
    rfl
/-- One text behind its length. -/
def fieldV (t : ByteArray) : ByteArray := strOfNums [(t.size : Int) / 256 % 256, (t.size : Int) % 256] ++ t
def restV : List ByteArray → ByteArray
  | [] => ByteArray.empty
  | t :: ts => fieldV t ++ restV ts
def fieldsV (l : List ByteArray) : ByteArray := strOfNums [(l.length : Int) % 256] ++ restV l
theorem nums_size (l : List Int) : (strOfNums l).size = l.length := by simp [strOfNums, ByteArray.size]
theorem fields_go (l : List ByteArray) (M : Nat) (hl : l.length ≤ 1000) (hM : M ≤ 4611686018427387904) (hx : ∀ x ∈ l, x.size ≤ 1048576) : ∀ (d i : Nat) (o : ByteArray), i + d = l.length → o.size ≤ i * 1048580 + 1048580 →
    Ev (fun k => impl_fields.l0 k o l (l.length : Int) (i : Int)) (o ++ restV (l.drop i)) := by
  intro d
  induction d with
  | zero =>
    intro i o hi ho
    refine Ev.step (fun k => ?_) (Ev.now _)
    rw [impl_fields.l0, if_neg (by omega), List.drop_of_length_le (by omega)]
    simp [restV]
  | succ d ih =>
    intro i o hi ho
    have hlt : i < l.length := by omega
    have hr : rdOf ByteArray.empty l (i : Int) = l[i] := by simp [rdOf, List.getD_eq_getElem?_getD, List.getElem?_eq_getElem hlt]
    have hs := hx _ (List.getElem_mem hlt)
    refine Ev.step (f := fun k => (impl_number.f k (l[i].size : Int) 2).bind fun t => if t.size + l[i].size ≤ 9223372036854775807 then (if o.size + (t ++ l[i]).size ≤ 9223372036854775807 then impl_fields.l0 k (o ++ (t ++ l[i])) l (l.length : Int) ((i + 1 : Nat) : Int) else none) else none) (fun k => ?_) ?_
    · rw [impl_fields.l0, if_pos (by omega), if_pos (by omega), if_pos (by omega), hr, wid (n := (i : Int) + 1) (by omega) (by omega)]
      rfl
    · refine Ev.bind (number2_ev _) ?_
      have h1 : (strOfNums [(l[i].size : Int) / 256 % 256, (l[i].size : Int) % 256]).size = 2 := by rw [nums_size]; rfl
      have h2 : (strOfNums [(l[i].size : Int) / 256 % 256, (l[i].size : Int) % 256] ++ l[i]).size = 2 + l[i].size := by rw [ByteArray.size_append, h1]
      simp only [h1, h2, if_pos (show 2 + l[i].size ≤ 9223372036854775807 by omega), if_pos (show o.size + (2 + l[i].size) ≤ 9223372036854775807 by omega)]
      have h3 := ih (i + 1) (o ++ fieldV l[i]) (by omega) (by rw [ByteArray.size_append]; show o.size + (fieldV l[i]).size ≤ _; unfold fieldV; rw [h2]; omega)
      rw [List.drop_eq_getElem_cons hlt, restV]
      rw [ByteArray.append_assoc] at h3
      exact h3
theorem fields_ev (l : List ByteArray) (hl : l.length ≤ 1000) (hx : ∀ x ∈ l, x.size ≤ 1048576) : Ev (fun k => impl_fields.f k l) (fieldsV l) := by
  unfold impl_fields.f fieldsV
  refine Ev.bind (number1_ev _) ?_
  have := fields_go l 0 hl (by omega) hx l.length 0 (strOfNums [(l.length : Int) % 256]) (by omega) (by rw [nums_size]; simp)
  simpa using this
end Go.Proofs.YteghpdmlpefnfaaDoor.U

/- Fields that are read back from a text: as the program and as the reference read them. -/
namespace Go.Proofs.YteghpdmlpefnfaaDoor.U
open Go Go.RowKit Go.Proofs.YteghpdmlpefnfaaDoor.Q Go.Proofs.YteghpdmlpefnfaaDoorW.PrintWords Go.Proofs.YteghpdmlpefnfaaDoorW.PrintLast Go.Proofs.YteghpdmlpefnfaaDoorW.PrintMore
set_option linter.unusedVariables false
set_option linter.unusedSimpArgs false

theorem size_data (a : ByteArray) : a.data.toList.length = a.size := by rw [Array.length_toList]; rfl
theorem ext_list {a b : ByteArray} (h : a.data.toList = b.data.toList) : a = b := ByteArray.ext (Array.toList_inj.mp h)
theorem extract_list (a : ByteArray) (i j : Nat) : (a.extract i j).data.toList = (a.data.toList.take j).drop i := by
  rw [ByteArray.data_extract, Array.toList_extract]
  simp [List.extract_eq_take_drop, List.drop_take]
theorem bt_list (a : ByteArray) (i : Nat) (h : i < a.size) : bt a (i : Int) = ((a.data.toList.getD i 0).toNat : Int) := by
  unfold bt
  rw [dif_pos (by simpa using h), List.getD_eq_getElem?_getD, List.getElem?_eq_getElem (by rw [size_data]; exact h)]
  simp
  rfl
theorem size_ext (a : ByteArray) (i j : Nat) : (a.extract i j).size = min j a.size - i := by
  rw [← size_data, extract_list, List.length_drop, List.length_take, size_data]
theorem ext_ext (a : ByteArray) (p i j : Nat) : (a.extract p a.size).extract i j = a.extract (p + i) (p + j) := by
  apply ext_list
  rw [extract_list, extract_list, extract_list, List.take_of_length_le (i := a.size) (by rw [size_data]; exact Nat.le_refl _)]
  rw [List.take_drop, List.drop_drop]
theorem ext_cap (a : ByteArray) (i j : Nat) (h : a.size ≤ j) : a.extract i j = a.extract i a.size := by
  apply ext_list
  rw [extract_list, extract_list, List.take_of_length_le (by rw [size_data]; exact h), List.take_of_length_le (by rw [size_data]; exact Nat.le_refl _)]
theorem bt_ext (a : ByteArray) (p j i : Nat) (h : p + i < min j a.size) : bt (a.extract p j) (i : Int) = bt a ((p + i : Nat) : Int) := by
  rw [bt_list _ _ (by rw [size_ext]; omega), bt_list _ _ (by omega), extract_list]
  congr 2
  rw [List.getD_eq_getElem?_getD, List.getD_eq_getElem?_getD, List.getElem?_drop, List.getElem?_take, if_pos (by omega)]

/-- The first two bytes' number. -/
def hd2 (s : ByteArray) : Nat := (bt s 0 * 256 + bt s 1).toNat
def readN : Nat → ByteArray → Option (List ByteArray)
  | 0, s => if s.size = 0 then some [] else none
  | n + 1, s => if s.size < 2 then none else if 1000 < hd2 s then none else if s.size < 2 + hd2 s then none else (readN n (s.extract (2 + hd2 s) s.size)).map (s.extract 2 (2 + hd2 s) :: ·)
def readV (a : ByteArray) : Option (List ByteArray) := if a.size = 0 then none else if 40 < bt a 0 then none else readN (bt a 0).toNat (a.extract 1 a.size)
/-- What a reader answers. -/
def readR (x : List ByteArray) (out : List ByteArray) : Option (List ByteArray) → List ByteArray × Bool
  | some l => (out ++ l, true)
  | none => (x, false)

theorem hd2_bd (s : ByteArray) : hd2 s ≤ 65535 ∧ ((hd2 s : Nat) : Int) = bt s 0 * 256 + bt s 1 := by
  have h0 := bt_range s 0
  have h1 := bt_range s 1
  unfold hd2
  omega
theorem numberOf_ev (s : ByteArray) (h : s.size = 2) : Ev (fun k => impl_numberOf.f k s) (hd2 s : Int) := by
  have h0 := bt_range s 0
  have h1 := bt_range s 1
  rw [(hd2_bd s).2]
  unfold impl_numberOf.f
  rw [show ((s.size : Nat) : Int) = 2 by omega]
  refine Ev.step (f := fun k => impl_numberOf.l0 k s (bt s 0) 2 1) (fun k => ?_) (Ev.step (f := fun k => impl_numberOf.l0 k s (bt s 0 * 256 + bt s 1) 2 2) (fun k => ?_) (Ev.step (fun k => ?_) (Ev.now _)))
  · rw [impl_numberOf.l0, if_pos (by decide), if_pos (by decide), if_pos (by omega)]
    rw [wid (n := 0 * 256) (by decide) (by decide), wid (n := bt s 0) (by omega) (by omega), wid (by omega) (by omega), wid (n := 0 + 1) (by decide) (by decide)]
    congr 1; omega
  · rw [impl_numberOf.l0, if_pos (by decide), if_pos (by decide), if_pos (by omega)]
    rw [wid (n := bt s 0 * 256) (by omega) (by omega), wid (n := bt s 1) (by omega) (by omega), wid (by omega) (by omega), wid (n := 1 + 1) (by decide) (by decide)]
    rfl
  · rw [impl_numberOf.l0, if_neg (by decide)]
set_option maxHeartbeats 2000000 in
theorem readFields_go (N : Nat) (hN : N ≤ 40) : ∀ (d i : Nat) (out : List ByteArray) (s : ByteArray), i + d = N → out.length ≤ i → s.size ≤ 9223372036854000000 →
    ∃ x, Ev (fun k => impl_readFields.l0 k out s (N : Int) (i : Int)) (readR x out (readN d s)) := by
  intro d
  induction d with
  | zero =>
    intro i out s hi ho hs
    refine ⟨out, Ev.step (fun k => ?_) (Ev.now _)⟩
    rw [impl_readFields.l0, if_neg (by omega), readN]
    by_cases h : s.size = 0
    · have e : s.toList = [] := by rw [ByteArray.toList_eq]; exact List.length_eq_zero_iff.1 (by rw [size_data]; exact h)
      rw [if_pos h, e]
      simp [readR]
    · have e : (s.toList == []) = false := by
        rw [beq_eq_false_iff_ne]
        intro e
        rw [ByteArray.toList_eq] at e
        apply h
        rw [← size_data, e]; rfl
      rw [if_neg h, e]
      rfl
  | succ d ih =>
    intro i out s hi ho hs
    have hb := hd2_bd s
    rw [readN]
    by_cases h1 : s.size < 2
    · refine ⟨[], ?_⟩
      rw [if_pos h1]
      refine Ev.step (fun k => ?_) (Ev.now _)
      rw [impl_readFields.l0, if_pos (by omega), if_pos (by omega)]
      rfl
    rw [if_neg h1]
    have hz : (s.extract 0 2).size = 2 := by rw [size_ext]; omega
    have e2 : hd2 (s.extract 0 2) = hd2 s := by
      unfold hd2
      have a0 := bt_ext s 0 2 0 (by omega)
      have a1 := bt_ext s 0 2 1 (by omega)
      simp only [Nat.zero_add] at a0 a1
      rw [show ((0 : Nat) : Int) = 0 from rfl] at a0
      rw [show ((1 : Nat) : Int) = 1 from rfl] at a1
      rw [a0, a1]
    have hn := numberOf_ev (s.extract 0 2) hz
    rw [e2] at hn
    clear e2 hz
    generalize hd2 s = m at *
    have key : ∀ (x : List ByteArray) (r : List ByteArray × Bool), Ev (fun k => if (m : Int) > 1000 then (some (([] : List ByteArray), false)) else (if (s.size : Int) < 2 + (m : Int) then (some (([] : List ByteArray), false)) else impl_readFields.l0 k (out ++ [s.extract 2 (2 + m)]) (s.extract (2 + m) s.size) (N : Int) ((i + 1 : Nat) : Int))) r →
        Ev (fun k => impl_readFields.l0 k out s (N : Int) (i : Int)) r := by
      intro x r hr
      refine Ev.step (f := fun k => (impl_numberOf.f k (s.extract 0 2)).bind fun t => if t > 1000 then (some (([] : List ByteArray), false)) else (if (s.size : Int) < (wrap64 (2 + t)) then (some (([] : List ByteArray), false)) else (if 2 ≤ (wrap64 (2 + t)) then (if (wrap64 (2 + t)) ≤ (s.size : Int) then (if out.length < 8796093022208 then (if 0 ≤ (wrap64 (2 + t)) then (impl_readFields.l0 k (out ++ [s.extract 2 ((wrap64 (2 + t)) : Int).toNat]) (s.extract ((wrap64 (2 + t)) : Int).toNat s.size) (N : Int) (wrap64 ((i : Int) + 1))) else (none)) else (none)) else (none)) else (none)))) (fun k => ?_) (Ev.bind hn ?_)
      · rw [impl_readFields.l0, if_pos (by omega), if_neg (by omega), if_pos (by decide), if_pos (by omega)]
      · have ew : wrap64 (2 + (m : Int)) = 2 + (m : Int) := wid (by omega) (by omega)
        have ei : wrap64 ((i : Int) + 1) = ((i + 1 : Nat) : Int) := by rw [wid (by omega) (by omega)]; rfl
        rw [ew, ei]
        refine Ev.congr (fun k => ?_) hr
        by_cases c1 : (m : Int) > 1000
        · rw [if_pos c1, if_pos c1]
        rw [if_neg c1, if_neg c1]
        by_cases c2 : (s.size : Int) < 2 + (m : Int)
        · rw [if_pos c2, if_pos c2]
        rw [if_neg c2, if_neg c2, if_pos (by omega), if_pos (by omega), if_pos (by omega), if_pos (by omega)]
        rw [show (2 + (m : Int)).toNat = 2 + m by omega]
    by_cases h2 : 1000 < m
    · rw [if_pos h2]
      exact ⟨[], key [] _ (by simp only [if_pos (show (m : Int) > 1000 by omega)]; exact Ev.now _)⟩
    rw [if_neg h2]
    by_cases h3 : s.size < 2 + m
    · rw [if_pos h3]
      exact ⟨[], key [] _ (by simp only [if_neg (show ¬ (m : Int) > 1000 by omega), if_pos (show (s.size : Int) < 2 + (m : Int) by omega)]; exact Ev.now _)⟩
    rw [if_neg h3]
    obtain ⟨x, hx⟩ := ih (i + 1) (out ++ [s.extract 2 (2 + m)]) (s.extract (2 + m) s.size) (by omega) (by rw [List.length_append, List.length_singleton]; omega) (by rw [size_ext]; omega)
    refine ⟨x, key x _ ?_⟩
    simp only [if_neg (show ¬ (m : Int) > 1000 by omega), if_neg (show ¬ (s.size : Int) < 2 + (m : Int) by omega)]
    have e : readR x (out ++ [s.extract 2 (2 + m)]) (readN d (s.extract (2 + m) s.size)) = readR x out ((readN d (s.extract (2 + m) s.size)).map (s.extract 2 (2 + m) :: ·)) := by
      cases readN d (s.extract (2 + m) s.size) with
      | none => rfl
      | some l => simp [readR]
    rw [← e]
    exact hx
theorem toList_nil_iff (a : ByteArray) : a.toList = ([] : List UInt8) ↔ a.size = 0 := by
  rw [ByteArray.toList_eq]
  constructor
  · intro h; rw [← size_data, h]; rfl
  · intro h; exact List.length_eq_zero_iff.1 (by rw [size_data]; exact h)
theorem readFields_ev (a : ByteArray) (hs : a.size ≤ 9223372036854000000) : ∃ x, Ev (fun k => impl_readFields.f k a) (readR x [] (readV a)) := by
  have h0 := bt_range a 0
  unfold impl_readFields.f readV
  by_cases h1 : a.size = 0
  · refine ⟨[], ?_⟩
    simp only [if_pos ((toList_nil_iff a).2 h1), if_pos h1]
    exact Ev.step (fun k => by rw [impl_readFields.j0, if_pos rfl]; rfl) (Ev.now _)
  simp only [if_neg (mt (toList_nil_iff a).1 h1), if_neg h1, if_pos (show (0 : Int) < (a.size : Int) by omega)]
  by_cases h2 : 40 < bt a 0
  · refine ⟨[], ?_⟩
    simp only [if_pos h2, decide_eq_true (show bt a 0 > 40 from h2)]
    exact Ev.step (fun k => by rw [impl_readFields.j0, if_pos rfl]; rfl) (Ev.now _)
  simp only [if_neg h2, decide_eq_false (show ¬ bt a 0 > 40 from h2)]
  obtain ⟨x, hx⟩ := readFields_go (bt a 0).toNat (by omega) (bt a 0).toNat 0 [] (a.extract 1 a.size) (by omega) (by simp) (by rw [size_ext]; omega)
  refine ⟨x, Ev.step (fun k => ?_) hx⟩
  rw [impl_readFields.j0, if_neg (by decide), if_pos (by omega), if_pos (by omega), wid (n := bt a 0) (by omega) (by omega), show (((bt a 0).toNat : Nat) : Int) = bt a 0 by omega]
  rfl

set_option maxHeartbeats 2000000 in
theorem l02Read_go (a : ByteArray) (hs : a.size ≤ 9223372036854000000) : ∀ (d p : Nat) (out : List ByteArray), d ≤ 40 → out.length + d ≤ 40 → p ≤ a.size →
    ∃ x, Ev (fun k => spec_l02Read.l0 k a out (p : Int) (d : Int)) (readR x out (readN d (a.extract p a.size))) := by
  intro d
  induction d with
  | zero =>
    intro p out hd ho hp
    rw [readN, size_ext]
    by_cases h : p = a.size
    · rw [if_pos (by omega)]
      refine ⟨[], Ev.step (fun k => ?_) (Ev.now _)⟩
      rw [spec_l02Read.l0, if_neg (by decide), if_pos (by omega)]
      simp [readR]
    · rw [if_neg (by omega)]
      refine ⟨[], Ev.step (fun k => ?_) (Ev.now _)⟩
      rw [spec_l02Read.l0, if_neg (by decide), if_neg (by omega)]
      rfl
  | succ d ih =>
    intro p out hd ho hp
    have hsz : (a.extract p a.size).size = a.size - p := by rw [size_ext]; omega
    rw [readN, hsz]
    by_cases h1 : a.size - p < 2
    · rw [if_pos h1]
      refine ⟨[], Ev.step (fun k => ?_) (Ev.now _)⟩
      rw [spec_l02Read.l0, if_pos (by omega), wid (n := (p : Int) + 2) (by omega) (by omega), if_pos (by omega)]
      rfl
    rw [if_neg h1]
    have hb := hd2_bd (a.extract p a.size)
    have b0 := bt_ext a p a.size 0 (by omega)
    have b1 := bt_ext a p a.size 1 (by omega)
    have r0 := bt_range a (p : Int)
    have r1 := bt_range a ((p + 1 : Nat) : Int)
    have em : bt a (p : Int) * 256 + bt a ((p + 1 : Nat) : Int) = (hd2 (a.extract p a.size) : Int) := by
      rw [hb.2]
      have e0 : bt (a.extract p a.size) 0 = bt a (p : Int) := b0
      have e1 : bt (a.extract p a.size) 1 = bt a ((p + 1 : Nat) : Int) := b1
      rw [e0, e1]
    generalize hm : hd2 (a.extract p a.size) = m at *
    have ep1 : (p : Int) + 1 = ((p + 1 : Nat) : Int) := by omega
    have key : ∀ k, spec_l02Read.l0 (k + 1) a out (p : Int) ((d + 1 : Nat) : Int) = if 1000 < m then some (([] : List ByteArray), false) else if a.size < p + 2 + m then some (([] : List ByteArray), false) else spec_l02Read.l0 k a (out ++ [a.extract (p + 2) (p + 2 + m)]) ((p + 2 + m : Nat) : Int) (d : Int) := by
      intro k
      rw [spec_l02Read.l0, if_pos (by omega), wid (n := (p : Int) + 2) (by omega) (by omega), if_neg (by omega), if_pos (by omega), if_pos (by omega), wid (n := (p : Int) + 1) (by omega) (by omega), if_pos (by omega), if_pos (by omega),
        wid (n := bt a (p : Int)) (by omega) (by omega), ep1, wid (n := bt a ((p + 1 : Nat) : Int)) (by omega) (by omega), wid (n := bt a (p : Int) * 256) (by omega) (by omega), em, wid (n := (m : Int)) (by omega) (by omega)]
      by_cases c1 : 1000 < m
      · rw [if_pos (by omega), if_pos c1]
      rw [if_neg (by omega), if_neg c1, wid (n := (p : Int) + 2 + (m : Int)) (by omega) (by omega)]
      by_cases c2 : a.size < p + 2 + m
      · rw [if_pos (by omega), if_pos c2]
      rw [if_neg (by omega), if_neg c2, if_pos (by omega), if_pos (by omega), if_pos (by omega), if_pos (by omega), wid (n := 2 + (m : Int)) (by omega) (by omega), wid (n := (p : Int) + (2 + (m : Int))) (by omega) (by omega), wid (by omega) (by omega)]
      rw [show ((p : Int) + 2).toNat = p + 2 by omega, show ((p : Int) + 2 + (m : Int)).toNat = p + 2 + m by omega, show (p : Int) + (2 + (m : Int)) = ((p + 2 + m : Nat) : Int) by omega, show (((d + 1 : Nat) : Int) - 1) = (d : Int) by omega]
    by_cases h2 : 1000 < m
    · rw [if_pos h2]
      exact ⟨[], Ev.step (fun k => by rw [key k, if_pos h2]; rfl) (Ev.now _)⟩
    rw [if_neg h2]
    by_cases h3 : a.size - p < 2 + m
    · rw [if_pos h3]
      exact ⟨[], Ev.step (fun k => by rw [key k, if_neg h2, if_pos (by omega)]; rfl) (Ev.now _)⟩
    rw [if_neg h3]
    obtain ⟨x, hx⟩ := ih (p + 2 + m) (out ++ [a.extract (p + 2) (p + 2 + m)]) (by omega) (by rw [List.length_append, List.length_singleton]; omega) (by omega)
    refine ⟨x, Ev.step (f := fun k => spec_l02Read.l0 k a (out ++ [a.extract (p + 2) (p + 2 + m)]) ((p + 2 + m : Nat) : Int) (d : Int)) (fun k => by rw [key k, if_neg h2, if_neg (by omega)]) ?_⟩
    have ea : (a.extract p a.size).extract 2 (2 + m) = a.extract (p + 2) (p + 2 + m) := by rw [ext_ext, Nat.add_assoc]
    have eb : (a.extract p a.size).extract (2 + m) (a.size - p) = a.extract (p + 2 + m) a.size := by rw [ext_ext, show p + (a.size - p) = a.size by omega, Nat.add_assoc]
    rw [ea, eb]
    have e : readR x (out ++ [a.extract (p + 2) (p + 2 + m)]) (readN d (a.extract (p + 2 + m) a.size)) = readR x out ((readN d (a.extract (p + 2 + m) a.size)).map (a.extract (p + 2) (p + 2 + m) :: ·)) := by
      cases readN d (a.extract (p + 2 + m) a.size) with
      | none => rfl
      | some l => simp [readR]
    rw [← e]
    exact hx
theorem l02Read_ev (a : ByteArray) (hs : a.size ≤ 9223372036854000000) : ∃ x, Ev (fun k => spec_l02Read.f k a) (readR x [] (readV a)) := by
  have h0 := bt_range a 0
  unfold spec_l02Read.f readV
  simp only [Option.bind_some]
  by_cases h1 : a.size = 0
  · refine ⟨[], ?_⟩
    simp only [if_pos ((toList_nil_iff a).2 h1), if_pos h1]
    exact Ev.step (fun k => by rw [spec_l02Read.j0, if_pos rfl]; rfl) (Ev.now _)
  simp only [if_neg (mt (toList_nil_iff a).1 h1), if_neg h1, if_pos (show (0 : Int) < (a.size : Int) by omega)]
  by_cases h2 : 40 < bt a 0
  · refine ⟨[], ?_⟩
    simp only [if_pos h2, decide_eq_true (show bt a 0 > 40 from h2)]
    exact Ev.step (fun k => by rw [spec_l02Read.j0, if_pos rfl]; rfl) (Ev.now _)
  simp only [if_neg h2, decide_eq_false (show ¬ bt a 0 > 40 from h2)]
  obtain ⟨x, hx⟩ := l02Read_go a hs (bt a 0).toNat 1 [] (by omega) (by simp; omega) (by omega)
  refine ⟨x, Ev.step (fun k => ?_) hx⟩
  rw [spec_l02Read.j0, if_neg (by decide), if_pos (by omega), wid (n := bt a 0) (by omega) (by omega), show (((bt a 0).toNat : Nat) : Int) = bt a 0 by omega]
  rfl

/-! ### what is read is written so -/
theorem ofNat_nat (c : UInt8) (n : Int) (h : n = (c.toNat : Int)) : UInt8.ofNat n.toNat = c := by
  subst h
  simp
theorem restV_of (n : Nat) : ∀ (s : ByteArray) (l : List ByteArray), readN n s = some l → s = restV l ∧ l.length = n ∧ ∀ x ∈ l, x.size ≤ 1000 := by
  induction n with
  | zero =>
    intro s l h
    rw [readN] at h
    split at h
    · rename_i h0
      injection h with h
      subst h
      exact ⟨ext_list (List.length_eq_zero_iff.1 (by rw [size_data]; exact h0)), rfl, by simp⟩
    · cases h
  | succ n ih =>
    intro s l h
    rw [readN] at h
    split at h
    · cases h
    rename_i h1
    split at h
    · cases h
    rename_i h2
    split at h
    · cases h
    rename_i h3
    obtain ⟨l', h4, rfl⟩ := Option.map_eq_some_iff.1 h
    obtain ⟨e1, e2, e3⟩ := ih _ _ h4
    have hsz : (s.extract 2 (2 + hd2 s)).size = hd2 s := by rw [size_ext]; omega
    refine ⟨?_, by rw [List.length_cons, e2], ?_⟩
    · rw [restV, ← e1]
      have hb := hd2_bd s
      have r0 := bt_range s 0
      have r1 := bt_range s 1
      have b0 := bt_list s 0 (by omega)
      have b1 := bt_list s 1 (by omega)
      apply ext_list
      rw [ByteArray.data_append, Array.toList_append]
      unfold fieldV
      rw [ByteArray.data_append, Array.toList_append, extract_list, extract_list, hsz, List.take_of_length_le (i := s.size) (by rw [size_data]; exact Nat.le_refl _)]
      have hl := size_data s
      match hd : s.data.toList with
      | [] => rw [hd] at hl; simp at hl; omega
      | [_] => rw [hd] at hl; simp at hl; omega
      | c0 :: c1 :: r =>
        rw [hd] at b0 b1
        simp only [List.getD_cons_zero, List.getD_cons_succ] at b0 b1
        have c0b := UInt8.toNat_lt c0
        have c1b := UInt8.toNat_lt c1
        have f0 : bt s 0 = (c0.toNat : Int) := b0
        have f1 : bt s 1 = (c1.toNat : Int) := b1
        have g0 : (hd2 s : Int) / 256 % 256 = (c0.toNat : Int) := by rw [hb.2, f0, f1]; omega
        have g1 : (hd2 s : Int) % 256 = (c1.toNat : Int) := by rw [hb.2, f0, f1]; omega
        rw [g0, g1]
        have hr : (strOfNums [(c0.toNat : Int), (c1.toNat : Int)]).data.toList = [c0, c1] := by simp [strOfNums]
        rw [hr]
        rw [show 2 + hd2 s = hd2 s + 1 + 1 by omega]
        simp
    · intro x hx
      rcases List.mem_cons.1 hx with rfl | hx
      · rw [hsz]; omega
      · exact e3 x hx
theorem readV_of {a : ByteArray} {l : List ByteArray} (h : readV a = some l) : a = fieldsV l ∧ l.length ≤ 40 ∧ ∀ x ∈ l, x.size ≤ 1000 := by
  unfold readV at h
  split at h
  · cases h
  rename_i h1
  split at h
  · cases h
  rename_i h2
  obtain ⟨e1, e2, e3⟩ := restV_of _ _ _ h
  have r0 := bt_range a 0
  have b0 := bt_list a 0 (by omega)
  refine ⟨?_, by omega, e3⟩
  unfold fieldsV
  rw [← e1, e2]
  apply ext_list
  rw [ByteArray.data_append, Array.toList_append, extract_list, List.take_of_length_le (i := a.size) (by rw [size_data]; exact Nat.le_refl _)]
  have hl := size_data a
  match hd : a.data.toList with
  | [] => rw [hd] at hl; simp at hl; omega
  | c0 :: r =>
    rw [hd] at b0
    simp only [List.getD_cons_zero] at b0
    have c0b := UInt8.toNat_lt c0
    have f0 : bt a 0 = (c0.toNat : Int) := b0
    have g0 : (((bt a 0).toNat : Nat) : Int) % 256 = (c0.toNat : Int) := by rw [f0]; omega
    rw [g0]
    have hr : (strOfNums [(c0.toNat : Int)]).data.toList = [c0] := by simp [strOfNums]
    rw [hr]
    simp
end Go.Proofs.YteghpdmlpefnfaaDoor.U

/- A store is a row of pairs: its size, its copy, whether it stands, and what is found in it. -/
namespace Go.Proofs.YteghpdmlpefnfaaDoor.U
open Go Go.RowKit Go.Proofs.YteghpdmlpefnfaaDoor.Q Go.Proofs.YteghpdmlpefnfaaDoorW.PrintWords Go.Proofs.YteghpdmlpefnfaaDoorW.PrintLast Go.Proofs.YteghpdmlpefnfaaDoorW.PrintMore
set_option linter.unusedVariables false
set_option linter.unusedSimpArgs false

abbrev LP := S68
abbrev IP := S71
def toP (x : LP) : IP := ⟨x.f0, x.f1⟩
theorem rdL (l : List LP) (i : Nat) (h : i < l.length) : rd_T68 l (i : Int) = l[i] := by simp [rd_T68, List.getD_eq_getElem?_getD, List.getElem?_eq_getElem h]
theorem rdI (l : List IP) (i : Nat) (h : i < l.length) : rd_T71 l (i : Int) = l[i] := by simp [rd_T71, List.getD_eq_getElem?_getD, List.getElem?_eq_getElem h]

theorem szPair_ok (a b : ByteArray) (n : Int) (ha : a.size ≤ 9223372036854775807) (hb : b.size ≤ 9223372036854775807) (h0 : 0 ≤ n) (h1 : n ≤ 1048576) :
    ∃ z, laws_szPair.f a b n = some z ∧ (z < 0 ∨ (0 ≤ z ∧ z ≤ n ∧ a.size ≤ 1048576 ∧ b.size ≤ 1048576)) := by
  unfold laws_szPair.f
  rw [wid (n := n - (a.size : Int)) (by omega) (by omega)]
  by_cases c1 : n - (a.size : Int) < 0
  · exact ⟨-1, by rw [if_pos c1], .inl (by decide)⟩
  rw [if_neg c1, wid (n := n - (a.size : Int) - (b.size : Int)) (by omega) (by omega)]
  by_cases c2 : n - (a.size : Int) - (b.size : Int) < 0
  · exact ⟨-1, by rw [if_pos c2], .inl (by decide)⟩
  exact ⟨_, by rw [if_neg c2], .inr (by omega)⟩
/-- All pairs are short. -/
def Short (l : List LP) : Prop := l.length ≤ 1048576 ∧ ∀ x ∈ l, x.f0.size ≤ 1048576 ∧ x.f1.size ≤ 1048576
theorem szPairS_go (l : List LP) (hl : l.length ≤ 1048576) (hx : ∀ x ∈ l, x.f0.size ≤ 9223372036854775807 ∧ x.f1.size ≤ 9223372036854775807) : ∀ (d i : Nat) (n : Int), i + d = l.length → 0 ≤ n → n ≤ 1048576 →
    ∃ z, Ev (fun k => laws_szPairS.l0 k l n (i : Int)) z ∧ (z < 0 ∨ (0 ≤ z ∧ z ≤ n ∧ ∀ x ∈ l.drop i, x.f0.size ≤ 1048576 ∧ x.f1.size ≤ 1048576)) := by
  intro d
  induction d with
  | zero =>
    intro i n hi h0 h1
    refine ⟨n, Ev.step (fun k => ?_) (Ev.now _), .inr ⟨h0, Int.le_refl _, ?_⟩⟩
    · rw [laws_szPairS.l0, if_neg (by omega)]
    · rw [List.drop_of_length_le (by omega)]; simp
  | succ d ih =>
    intro i n hi h0 h1
    have hlt : i < l.length := by omega
    obtain ⟨z1, e1, hz1⟩ := szPair_ok l[i].f0 l[i].f1 n (hx _ (List.getElem_mem hlt)).1 (hx _ (List.getElem_mem hlt)).2 h0 h1
    have hstep : ∀ k, laws_szPairS.l0 (k + 1) l n (i : Int) = if z1 < 0 then some (-1) else laws_szPairS.l0 k l z1 ((i + 1 : Nat) : Int) := by
      intro k
      rw [laws_szPairS.l0, if_pos (by omega), if_pos (by omega), rdL l i hlt, e1, wid (n := (i : Int) + 1) (by omega) (by omega)]
      rfl
    by_cases hn : z1 < 0
    · exact ⟨-1, Ev.step hstep (by simp only [if_pos hn]; exact Ev.now _), .inl (by decide)⟩
    rcases hz1 with hz1 | ⟨hz0, hzn, ha, hb⟩
    · exact absurd hz1 hn
    obtain ⟨z, e2, hz⟩ := ih (i + 1) z1 (by omega) hz0 (by omega)
    refine ⟨z, Ev.step hstep (by simp only [if_neg hn]; exact e2), ?_⟩
    rcases hz with hz | ⟨hz1, hz2, hz3⟩
    · exact .inl hz
    refine .inr ⟨hz1, by omega, ?_⟩
    rw [List.drop_eq_getElem_cons hlt]
    intro x hxm
    rcases List.mem_cons.1 hxm with rfl | hxm
    · exact ⟨ha, hb⟩
    · exact hz3 x hxm
theorem szPairS_ev (l : List LP) (n : Int) (hl : l.length ≤ 9223372036854775807) (hx : ∀ x ∈ l, x.f0.size ≤ 9223372036854775807 ∧ x.f1.size ≤ 9223372036854775807) (h0 : 0 ≤ n) (h1 : n ≤ 1048576) :
    ∃ z, Ev (fun k => laws_szPairS.f k l n) z ∧ (z < 0 ∨ (0 ≤ z ∧ z ≤ n ∧ Short l)) := by
  unfold laws_szPairS.f
  rw [wid (n := n - (l.length : Int)) (by omega) (by omega)]
  by_cases c1 : n - (l.length : Int) < 0
  · exact ⟨-1, by simp only [if_pos c1]; exact Ev.now _, .inl (by decide)⟩
  simp only [if_neg c1]
  obtain ⟨z, e, hz⟩ := szPairS_go l (by omega) hx l.length 0 (n - (l.length : Int)) (by omega) (by omega) (by omega)
  refine ⟨z, e, ?_⟩
  rcases hz with hz | ⟨hz1, hz2, hz3⟩
  · exact .inl hz
  · exact .inr ⟨hz1, by omega, by omega, by simpa using hz3⟩

theorem toPairS_go (l : List LP) (hl : l.length ≤ 1048576) : ∀ (d i : Nat) (o : List IP), i + d = l.length → o.length = l.length → (∀ j, j < i → o[j]? = (l.map toP)[j]?) →
    Ev (fun k => laws_toPairS.l0 k l o (i : Int)) (l.map toP) := by
  intro d
  induction d with
  | zero =>
    intro i o hi ho hj
    have e : o = l.map toP := by
      apply List.ext_getElem?
      intro j
      by_cases h : j < i
      · exact hj j h
      · rw [List.getElem?_eq_none (by omega), List.getElem?_eq_none (by simp; omega)]
    refine Ev.step (fun k => ?_) (Ev.now _)
    rw [laws_toPairS.l0, if_neg (by omega), e]
  | succ d ih =>
    intro i o hi ho hj
    have hlt : i < l.length := by omega
    refine Ev.step (f := fun k => laws_toPairS.l0 k l (o.set i (toP l[i])) ((i + 1 : Nat) : Int)) (fun k => ?_) (ih (i + 1) (o.set i (toP l[i])) (by omega) (by simpa using ho) ?_)
    · rw [laws_toPairS.l0, if_pos (by omega), if_pos (by omega), rdL l i hlt]
      simp only [laws_toPair.f, Option.bind_some]
      rw [if_pos (by omega), wid (n := (i : Int) + 1) (by omega) (by omega)]
      rfl
    · intro j hji
      rw [List.getElem?_set]
      by_cases h : i = j
      · subst h
        rw [if_pos rfl, if_pos (by omega)]
        simp [hlt]
      · rw [if_neg h]
        exact hj j (by omega)
theorem toPairS_ev (l : List LP) (hl : l.length ≤ 1048576) : Ev (fun k => laws_toPairS.f k l) (l.map toP) := by
  unfold laws_toPairS.f
  simp only [if_pos (show (0 : Int) ≤ (l.length : Int) by omega), if_pos (show (l.length : Int).toNat ≤ 8796093022208 by omega)]
  exact toPairS_go l hl l.length 0 _ (by omega) (by simp) (by simp)
theorem eqPair_self (a b : ByteArray) : laws_eqPair.f a b a b = some true := by unfold laws_eqPair.f; rw [if_pos rfl, if_pos rfl]
theorem eqPairS_go (l : List IP) (hl : l.length ≤ 1048576) : ∀ (d i : Nat), i + d = l.length → Ev (fun k => laws_eqPairS.l0 k l l (i : Int)) true := by
  intro d
  induction d with
  | zero =>
    intro i hi
    exact Ev.step (fun k => by rw [laws_eqPairS.l0, if_neg (by omega)]) (Ev.now _)
  | succ d ih =>
    intro i hi
    refine Ev.step (f := fun k => laws_eqPairS.l0 k l l ((i + 1 : Nat) : Int)) (fun k => ?_) (ih (i + 1) (by omega))
    rw [laws_eqPairS.l0, if_pos (by omega), if_pos (by omega), if_pos (by omega), eqPair_self, wid (n := (i : Int) + 1) (by omega) (by omega)]
    rfl
theorem eqPairS_ev (l : List IP) (hl : l.length ≤ 1048576) : Ev (fun k => laws_eqPairS.f k l l) true := by
  unfold laws_eqPairS.f
  simp only [if_true]
  exact eqPairS_go l hl l.length 0 (by omega)

/-! ### whether it stands -/
def keyB (x : ByteArray) : Bool := decide (1 ≤ x.size ∧ x.size ≤ 60)
def valueB (x : ByteArray) : Bool := decide (x.size ≤ 1000)
def lessB (l : List IP) (i : Nat) : Bool := decide (i = 0) || Op.bytesLess ((rd_T71 l ((i : Int) - 1)).f0).toList ((rd_T71 l (i : Int)).f0).toList
def pairB (l : List IP) (i : Nat) : Bool := keyB (rd_T71 l (i : Int)).f0 && (valueB (rd_T71 l (i : Int)).f1 && lessB l i)
def fromB (l : List IP) : Nat → Nat → Bool
  | 0, _ => true
  | d + 1, i => pairB l i && fromB l d (i + 1)
/-- The store stands: keys and values are in their bounds, keys rise, and there are at most 400. -/
def storeB (l : List IP) : Bool := fromB l l.length 0 && decide (l.length ≤ 400)
theorem implKey_eq (x : ByteArray) : impl_isKey.f x = some (keyB x) := by
  unfold impl_isKey.f impl_within.f keyB
  by_cases h : (x.size : Int) ≥ 1
  · simp only [if_pos h, Option.bind_some]; congr 1; rw [decide_eq_decide]; omega
  · simp only [if_neg h, Option.bind_some]; congr 1; rw [eq_comm, decide_eq_false_iff_not]; omega
theorem specKey_eq (x : ByteArray) : spec_l03Key.f x = some (keyB x) := by
  unfold spec_l03Key.f spec_l01In.f keyB
  by_cases h : (x.size : Int) ≥ 1
  · simp only [if_pos h, Option.bind_some]; congr 1; rw [decide_eq_decide]; omega
  · simp only [if_neg h, Option.bind_some]; congr 1; rw [eq_comm, decide_eq_false_iff_not]; omega
theorem implValue_eq (x : ByteArray) : impl_isValue.f x = some (valueB x) := by
  unfold impl_isValue.f valueB; congr 1; rw [decide_eq_decide]; omega
theorem specPair_eq (x y : ByteArray) : spec_l03Pair.f x y = some (keyB x && valueB y) := by
  unfold spec_l03Pair.f valueB
  rw [specKey_eq]
  simp only [Option.bind_some]
  cases keyB x with
  | false => rfl
  | true => simp only [if_true, Bool.true_and]; congr 1; rw [decide_eq_decide]; omega
theorem specStore_go (l : List IP) (hl : l.length ≤ 1048576) : ∀ (d i : Nat), i + d = l.length → Ev (fun k => spec_StoreOK.l0 k l (i : Int)) (fromB l d i) := by
  intro d
  induction d with
  | zero =>
    intro i hi
    exact Ev.step (fun k => by rw [spec_StoreOK.l0, if_neg (by omega)]; rfl) (Ev.now _)
  | succ d ih =>
    intro i hi
    have hstep : ∀ k, spec_StoreOK.l0 (k + 1) l (i : Int) = if pairB l i = true then spec_StoreOK.l0 k l ((i + 1 : Nat) : Int) else some false := by
      intro k
      rw [spec_StoreOK.l0, if_pos (by omega), if_pos (by omega), specPair_eq]
      simp only [Option.bind_some, pairB, lessB]
      rw [wid (n := (i : Int) + 1) (by omega) (by omega)]
      rcases Bool.eq_false_or_eq_true (keyB (rd_T71 l (i : Int)).f0) with hk | hk
      · rcases Bool.eq_false_or_eq_true (valueB (rd_T71 l (i : Int)).f1) with hv | hv
        · simp only [hk, hv, Bool.true_and, Bool.and_self, if_true]
          by_cases h0 : i = 0
          · subst h0; simp
          · rw [if_pos (show (i : Int) > 0 by omega), wid (n := (i : Int) - 1) (by omega) (by omega), if_pos (by omega), if_pos (by omega), decide_eq_false h0, Bool.false_or]
            rfl
        · simp only [hk, hv, Bool.true_and, Bool.and_false, Bool.false_and, Bool.false_eq_true, if_false, if_true]
      · simp only [hk, Bool.false_and, Bool.false_eq_true, if_false]
    have h2 := ih (i + 1) (by omega)
    refine Ev.step hstep ?_
    rw [fromB]
    cases pairB l i with
    | false => exact Ev.now _
    | true => simp only [if_true, Bool.true_and]; exact h2
theorem specStoreOK_ev (l : List IP) (hl : l.length ≤ 1048576) : Ev (fun k => spec_StoreOK.f k l) (storeB l) := by
  unfold spec_StoreOK.f storeB
  by_cases h1 : (l.length : Int) > 4096
  · simp only [if_pos h1, decide_eq_false (show ¬ l.length ≤ 400 by omega), Bool.and_false]; exact Ev.now _
  simp only [if_neg h1]
  by_cases h2 : (l.length : Int) > 400
  · simp only [if_pos h2, decide_eq_false (show ¬ l.length ≤ 400 by omega), Bool.and_false]; exact Ev.now _
  simp only [if_neg h2, decide_eq_true (show l.length ≤ 400 by omega), Bool.and_true]
  exact specStore_go l hl l.length 0 (by omega)
theorem implStore_go (l : List IP) (hl : l.length ≤ 1048576) : ∀ (d i : Nat), i + d = l.length → Ev (fun k => impl_StoreOK.l0 k l l (l.length : Int) (i : Int)) (fromB l d i && decide (l.length ≤ 400)) := by
  intro d
  induction d with
  | zero =>
    intro i hi
    refine Ev.step (fun k => ?_) (Ev.now _)
    rw [impl_StoreOK.l0, if_neg (by omega), fromB, Bool.true_and]
    congr 1; rw [decide_eq_decide]; omega
  | succ d ih =>
    intro i hi
    have hstep : ∀ k, impl_StoreOK.l0 (k + 1) l l (l.length : Int) (i : Int) = if pairB l i = true then impl_StoreOK.l0 k l l (l.length : Int) ((i + 1 : Nat) : Int) else some false := by
      intro k
      rw [impl_StoreOK.l0, if_pos (by omega), if_pos (by omega), if_pos (by omega), implKey_eq, implValue_eq]
      simp only [Option.bind_some, pairB, lessB]
      rw [wid (n := (i : Int) + 1) (by omega) (by omega)]
      rcases Bool.eq_false_or_eq_true (keyB (rd_T71 l (i : Int)).f0) with hk | hk
      · rcases Bool.eq_false_or_eq_true (valueB (rd_T71 l (i : Int)).f1) with hv | hv
        · simp only [hk, hv, Bool.true_and, Bool.and_self, if_true]
          by_cases h0 : i = 0
          · subst h0; simp
          · rw [if_pos (show (i : Int) > 0 by omega), wid (n := (i : Int) - 1) (by omega) (by omega), if_pos (by omega), if_pos (by omega), decide_eq_false h0, Bool.false_or]
            rfl
        · simp only [hk, hv, Bool.true_and, Bool.and_false, Bool.false_and, Bool.false_eq_true, if_false, if_true]
      · simp only [hk, Bool.false_and, Bool.false_eq_true, if_false]
    have h2 := ih (i + 1) (by omega)
    refine Ev.step hstep ?_
    rw [fromB]
    cases pairB l i with
    | false => exact Ev.now _
    | true => simp only [if_true, Bool.true_and]; exact h2
theorem implStoreOK_ev (l : List IP) (hl : l.length ≤ 1048576) : Ev (fun k => impl_StoreOK.f k l) (storeB l) := by
  unfold impl_StoreOK.f storeB
  exact implStore_go l hl l.length 0 (by omega)
/-- The code of a store, no texts being too long. -/
def storeV (l : List IP) : Int := if l.length ≤ 4096 then (if storeB l = true then 0 else 1) else 2
theorem storeCode_ev (l : List IP) (ts : List ByteArray) (hl : l.length ≤ 1048576) :
    Ev (fun k => impl_storeCode.f k l ts) (if l.length ≤ 4096 ∧ (ts.any fun t => decide ((t.size : Int) > 65536)) = false then (if storeB l = true then 0 else 1) else 2) := by
  unfold impl_storeCode.f impl_isList_impl_Pair.f impl_isText.f
  simp only [Option.bind_some]
  have hbad : Ev (fun k => impl_storeCode.j0 k l true) 2 := Ev.step (fun k => by rw [impl_storeCode.j0, if_pos rfl]) (Ev.now _)
  by_cases h1 : l.length ≤ 4096
  · rw [decide_eq_true (show (l.length : Int) ≤ 4096 by omega)]
    simp only [if_true]
    cases h2 : (ts.any fun t => decide ((t.size : Int) > 65536)) with
    | true => simp only [Bool.not_true, Bool.not_false, Bool.true_eq_false, and_false, if_false]; exact hbad
    | false =>
      simp only [Bool.not_false, Bool.not_true, h1, and_true, if_true]
      refine Ev.step (fun k => by rw [impl_storeCode.j0, if_neg (by decide)]) (Ev.bind (implStoreOK_ev l hl) ?_)
      cases storeB l with
      | false => exact Ev.now _
      | true => simp only [if_true]; exact Ev.now _
  · rw [decide_eq_false (show ¬ (l.length : Int) ≤ 4096 by omega), if_neg (by simp [h1])]
    exact hbad
end Go.Proofs.YteghpdmlpefnfaaDoor.U

/- What is found in a store: the reference's search and the program's take the same steps. -/
namespace Go.Proofs.YteghpdmlpefnfaaDoor.U
open Go Go.RowKit Go.Proofs.YteghpdmlpefnfaaDoor.Q Go.Proofs.YteghpdmlpefnfaaDoorW.PrintWords Go.Proofs.YteghpdmlpefnfaaDoorW.PrintLast Go.Proofs.YteghpdmlpefnfaaDoorW.PrintMore
set_option linter.unusedVariables false
set_option linter.unusedSimpArgs false

theorem cmp_neg : ∀ a b : List UInt8, Lib.compareBytes a b < 0 ↔ Op.bytesLess a b = true
  | [], [] => by simp [Lib.compareBytes, Op.bytesLess]
  | [], _ :: _ => by simp [Lib.compareBytes, Op.bytesLess]
  | _ :: _, [] => by simp [Lib.compareBytes, Op.bytesLess]
  | a :: x, b :: y => by
    rw [Lib.compareBytes, Op.bytesLess]
    by_cases h1 : a < b
    · simp [h1]
    · by_cases h2 : b < a
      · have h3 : ¬ a = b := fun e => by subst e; exact h1 h2
        simp [h1, h2, h3]
      · have h3 : a = b := UInt8.le_antisymm (UInt8.not_lt.1 h2) (UInt8.not_lt.1 h1)
        subst h3
        simp [h1, cmp_neg x y]
theorem cmp_zero : ∀ a b : List UInt8, Lib.compareBytes a b = 0 ↔ a = b
  | [], [] => by simp [Lib.compareBytes]
  | [], _ :: _ => by simp [Lib.compareBytes]
  | _ :: _, [] => by simp [Lib.compareBytes]
  | a :: x, b :: y => by
    rw [Lib.compareBytes]
    by_cases h1 : a < b
    · have h3 : ¬ a = b := fun e => by subst e; exact UInt8.lt_irrefl _ h1
      simp [h1, h3]
    · by_cases h2 : b < a
      · have h3 : ¬ a = b := fun e => by subst e; exact h1 h2
        simp [h1, h2, h3]
      · have h3 : a = b := UInt8.le_antisymm (UInt8.not_lt.1 h2) (UInt8.not_lt.1 h1)
        subst h3
        simp [h1, cmp_zero x y]
/-- Where a key's search ends. -/
def atV (l : List IP) (key : ByteArray) : Nat → Nat → Nat → Nat
  | 0, i, _ => i
  | f + 1, i, j => if i < j then (if Op.bytesLess ((rd_T71 l (((i + j) / 2 : Nat) : Int)).f0).toList key.toList = true then atV l key f ((i + j) / 2 + 1) j else atV l key f i ((i + j) / 2)) else i
theorem atV_bd (l : List IP) (key : ByteArray) : ∀ (f i j : Nat), i ≤ j → i ≤ atV l key f i j ∧ atV l key f i j ≤ j
  | 0, i, j, h => ⟨Nat.le_refl _, h⟩
  | f + 1, i, j, h => by
    rw [atV]
    by_cases h1 : i < j
    · rw [if_pos h1]
      split
      · have := atV_bd l key f ((i + j) / 2 + 1) j (by omega); omega
      · have := atV_bd l key f i ((i + j) / 2) (by omega); omega
    · rw [if_neg h1]; omega
theorem specAt_go (l : List IP) (key : ByteArray) (hl : l.length ≤ 1048576) : ∀ (f i j : Nat), j - i < f → i ≤ j → j ≤ l.length → Ev (fun k => spec_l03At.l0 k l key (i : Int) (j : Int)) (atV l key f i j : Int)
  | 0, i, j, h, _, _ => by omega
  | f + 1, i, j, h, hij, hj => by
    rw [atV]
    by_cases h1 : i < j
    · rw [if_pos h1]
      have e1 : wrap64 (Int.tdiv (wrap64 ((i : Int) + (j : Int))) 2) = (((i + j) / 2 : Nat) : Int) := by
        rw [wid (n := (i : Int) + (j : Int)) (by omega) (by omega), tdiv_nn (by omega), wid (by omega) (by omega)]; omega
      have hstep : ∀ k, spec_l03At.l0 (k + 1) l key (i : Int) (j : Int) = if Op.bytesLess ((rd_T71 l (((i + j) / 2 : Nat) : Int)).f0).toList key.toList = true then spec_l03At.l0 k l key (((i + j) / 2 + 1 : Nat) : Int) (j : Int) else spec_l03At.l0 k l key (i : Int) (((i + j) / 2 : Nat) : Int) := by
        intro k
        rw [spec_l03At.l0, if_pos (by omega), e1, if_pos (by omega), if_pos (by omega), wid (n := (((i + j) / 2 : Nat) : Int) + 1) (by omega) (by omega)]
        rfl
      refine Ev.step hstep ?_
      split
      · exact specAt_go l key hl f _ _ (by omega) (by omega) hj
      · exact specAt_go l key hl f _ _ (by omega) (by omega) (by omega)
    · rw [if_neg h1]
      exact Ev.step (fun k => by rw [spec_l03At.l0, if_neg (by omega)]) (Ev.now _)
theorem implAt_go (l : List IP) (key : ByteArray) (hl : l.length ≤ 1048576) : ∀ (f i j : Nat), j - i < f → i ≤ j → j ≤ l.length → Ev (fun k => impl_pairAt.l0 k l key (i : Int) (j : Int)) (atV l key f i j : Int)
  | 0, i, j, h, _, _ => by omega
  | f + 1, i, j, h, hij, hj => by
    rw [atV]
    by_cases h1 : i < j
    · rw [if_pos h1]
      have e1 : ((i : Int) + (j : Int)) / 2 = (((i + j) / 2 : Nat) : Int) := by omega
      have hstep : ∀ k, impl_pairAt.l0 (k + 1) l key (i : Int) (j : Int) = if Op.bytesLess ((rd_T71 l (((i + j) / 2 : Nat) : Int)).f0).toList key.toList = true then impl_pairAt.l0 k l key (((i + j) / 2 + 1 : Nat) : Int) (j : Int) else impl_pairAt.l0 k l key (i : Int) (((i + j) / 2 : Nat) : Int) := by
        intro k
        rw [impl_pairAt.l0, if_pos (by omega), e1, if_pos (by omega), if_pos (by omega), Lib.toList_data, Lib.toList_data]
        by_cases hb : Op.bytesLess ((rd_T71 l (((i + j) / 2 : Nat) : Int)).f0).data.toList key.data.toList = true
        · rw [if_pos hb, if_pos ((cmp_neg _ _).2 hb)]; rfl
        · rw [if_neg hb, if_neg (fun e => hb ((cmp_neg _ _).1 e))]
      refine Ev.step hstep ?_
      split
      · exact implAt_go l key hl f _ _ (by omega) (by omega) hj
      · exact implAt_go l key hl f _ _ (by omega) (by omega) (by omega)
    · rw [if_neg h1]
      exact Ev.step (fun k => by rw [impl_pairAt.l0, if_neg (by omega)]) (Ev.now _)
def atOf (l : List IP) (key : ByteArray) : Nat := atV l key (l.length + 1) 0 l.length
theorem atOf_le (l : List IP) (key : ByteArray) : atOf l key ≤ l.length := (atV_bd l key _ 0 l.length (by omega)).2
theorem specAt_ev (l : List IP) (key : ByteArray) (hl : l.length ≤ 1048576) : Ev (fun k => spec_l03At.f k l key) (atOf l key : Int) := specAt_go l key hl (l.length + 1) 0 l.length (by omega) (by omega) (by omega)
def hitB (l : List IP) (key : ByteArray) : Bool := decide (atOf l key < l.length) && (((rd_T71 l (atOf l key : Int)).f0).toList == key.toList)
theorem implAt_ev (l : List IP) (key : ByteArray) (hl : l.length ≤ 1048576) : Ev (fun k => impl_pairAt.f k l key) ((atOf l key : Int), hitB l key) := by
  unfold impl_pairAt.f
  refine Ev.bind (implAt_go l key hl (l.length + 1) 0 l.length (by omega) (by omega) (by omega)) ?_
  have hle := atOf_le l key
  have e : impl_pairAt.hit l key (atOf l key : Int) = hitB l key := by
    unfold impl_pairAt.hit hitB
    congr 1
    · rw [decide_eq_decide]; omega
    · rw [Lib.toList_data, Lib.toList_data, Bool.eq_iff_iff, beq_iff_eq, beq_iff_eq]
      exact cmp_zero _ _
  rw [show atV l key (l.length + 1) 0 l.length = atOf l key from rfl]
  simp only [if_pos (show (l.length : Int) < 1000000000000 by omega), if_pos (show (0 : Int) ≤ (atOf l key : Int) by omega), if_pos (show (atOf l key : Int) ≤ (l.length : Int) by omega), e]
  exact Ev.now _
/-- What is found, and whether. -/
def getV (l : List IP) (key : ByteArray) : ByteArray × Bool := if hitB l key = true then ((rd_T71 l (atOf l key : Int)).f1, true) else ((⟨#[]⟩ : ByteArray), false)
theorem specGet_ev (l : List IP) (key : ByteArray) (hl : l.length ≤ 1048576) : Ev (fun k => spec_l03Get.f k l key) (getV l key) := by
  unfold spec_l03Get.f getV hitB
  refine Ev.bind (specAt_ev l key hl) ?_
  by_cases h1 : atOf l key < l.length
  · simp only [if_pos (show (atOf l key : Int) < (l.length : Int) by omega), if_pos (show (0 : Int) ≤ (atOf l key : Int) by omega), decide_eq_true h1, Bool.true_and]
    by_cases h2 : ((rd_T71 l (atOf l key : Int)).f0).toList = key.toList
    · simp only [h2, beq_self_eq_true, if_true]; exact Ev.now _
    · simp only [if_neg h2, beq_eq_false_iff_ne.2 h2, Bool.false_eq_true, if_false]; exact Ev.now _
  · simp only [if_neg (show ¬ (atOf l key : Int) < (l.length : Int) by omega), decide_eq_false h1, Bool.false_and, Bool.false_eq_true, if_false]; exact Ev.now _
theorem implGet_ev (l : List IP) (key : ByteArray) (hl : l.length ≤ 1048576) : Ev (fun k => impl_get.f k l key) (getV l key) := by
  unfold impl_get.f getV
  refine Ev.bind (implAt_ev l key hl) ?_
  cases h : hitB l key with
  | false => simp only [Bool.false_eq_true, if_false]; exact Ev.now _
  | true =>
    have h1 : atOf l key < l.length := by
      unfold hitB at h
      rw [Bool.and_eq_true, decide_eq_true_iff] at h
      exact h.1
    simp only [if_true, if_pos (show (0 : Int) ≤ (atOf l key : Int) by omega), if_pos (show (atOf l key : Int) < (l.length : Int) by omega)]
    exact Ev.now _
end Go.Proofs.YteghpdmlpefnfaaDoor.U

/- Fields that are written are read back; amounts and bounds as both sides read them. -/
namespace Go.Proofs.YteghpdmlpefnfaaDoor.U
open Go Go.RowKit Go.Proofs.YteghpdmlpefnfaaDoor.Q Go.Proofs.YteghpdmlpefnfaaDoorW.PrintWords Go.Proofs.YteghpdmlpefnfaaDoorW.PrintLast Go.Proofs.YteghpdmlpefnfaaDoorW.PrintMore
set_option linter.unusedVariables false
set_option linter.unusedSimpArgs false

def someB (n : Int) : Bool := decide (1 ≤ n ∧ n ≤ 1000000000000000000)
def max0 (n : Int) : Int := if 0 ≤ n then n else 0
theorem within_eq (n a b : Int) : impl_within.f n a b = some (decide (a ≤ n ∧ n ≤ b)) := by
  unfold impl_within.f
  by_cases h : n ≥ a
  · rw [if_pos h]; congr 1; rw [decide_eq_decide]; omega
  · rw [if_neg h]; congr 1; rw [eq_comm, decide_eq_false_iff_not]; omega
theorem l01In_eq (n a b : Int) : spec_l01In.f n a b = some (decide (a ≤ n ∧ n ≤ b)) := by
  unfold spec_l01In.f
  by_cases h : n ≥ a
  · rw [if_pos h]; congr 1; rw [decide_eq_decide]; omega
  · rw [if_neg h]; congr 1; rw [eq_comm, decide_eq_false_iff_not]; omega
theorem isSome_eq (n : Int) : impl_isSome.f n = some (someB n) := by unfold impl_isSome.f; rw [within_eq]; rfl
theorem amountText_eq (n : Int) (h0 : 0 ≤ n) (h1 : n ≤ 9223372036854775807) : impl_amountText.f n = some (digV n.toNat) := by
  unfold impl_amountText.f strconv_Itoa.f
  rw [if_pos (by omega), if_pos h1, itoa_eq n h0]
  rfl
theorem readAmount_fst (a : ByteArray) (hs : a.size ≤ 281474976710656) : ∃ b, impl_readAmount.f a = some (max0 (amtV a), b) := by
  rw [readAmount_eq a hs]
  unfold max0
  by_cases h : 0 ≤ amtV a
  · rw [if_pos h, if_pos h]; exact ⟨_, rfl⟩
  · rw [if_neg h, if_neg h]; exact ⟨_, rfl⟩
theorem getV_size (l : List IP) (key : ByteArray) (B : Nat) (h : ∀ x ∈ l, x.f1.size ≤ B) : (getV l key).1.size ≤ B := by
  unfold getV
  split
  · rename_i hh
    unfold hitB at hh
    rw [Bool.and_eq_true, decide_eq_true_iff] at hh
    rw [rdI l _ hh.1]
    exact h _ (List.getElem_mem hh.1)
  · exact Nat.zero_le _
theorem getV_none (l : List IP) (key : ByteArray) (h : (getV l key).2 = false) : (getV l key).1 = ⟨#[]⟩ := by
  unfold getV at *
  split
  · rename_i hh; rw [if_pos hh] at h; cases h
  · rfl
theorem readV_empty : readV (⟨#[]⟩ : ByteArray) = none := by unfold readV; rw [if_pos (by rfl)]

/-! ### what is written is read back -/
theorem ofNums2 (n : Nat) (h : n ≤ 65535) : ∃ a b : UInt8, strOfNums [(n : Int) / 256 % 256, (n : Int) % 256] = ⟨#[a, b]⟩ ∧ (a.toNat : Int) * 256 + b.toNat = n := by
  refine ⟨UInt8.ofNat (n / 256), UInt8.ofNat (n % 256), ?_, ?_⟩
  · have e1 : ((n : Int) / 256 % 256).toNat = n / 256 := by omega
    have e2 : ((n : Int) % 256).toNat = n % 256 := by omega
    simp [strOfNums, e1, e2]
  · rw [UInt8.toNat_ofNat', UInt8.toNat_ofNat']; omega
theorem readN_restV : ∀ (l : List ByteArray), (∀ x ∈ l, x.size ≤ 1000) → readN l.length (restV l) = some l
  | [], _ => by rw [List.length_nil, readN]; rfl
  | x :: xs, h => by
    have hx := h x (by simp)
    obtain ⟨a, b, e, hab⟩ := ofNums2 x.size (by omega)
    have ih := readN_restV xs (fun y hy => h y (by simp [hy]))
    have hl : (restV (x :: xs)).data.toList = a :: b :: (x.data.toList ++ (restV xs).data.toList) := by
      rw [restV, fieldV, e]
      simp
    have hsz : (restV (x :: xs)).size = 2 + x.size + (restV xs).size := by
      rw [← size_data, hl, List.length_cons, List.length_cons, List.length_append, size_data, size_data]; omega
    generalize restV (x :: xs) = s at *
    have b0 := bt_list s 0 (by omega)
    have b1 := bt_list s 1 (by omega)
    rw [hl] at b0 b1
    simp only [List.getD_cons_zero, List.getD_cons_succ] at b0 b1
    have f0 : bt s 0 = (a.toNat : Int) := b0
    have f1 : bt s 1 = (b.toNat : Int) := b1
    have hh : hd2 s = x.size := by
      have := (hd2_bd s).2
      rw [f0, f1, hab] at this
      omega
    rw [List.length_cons, readN, hh, if_neg (by omega), if_neg (by omega), if_neg (by omega)]
    have e1 : s.extract 2 (2 + x.size) = x := by
      apply ext_list
      rw [extract_list, hl, show 2 + x.size = x.size + 1 + 1 by omega]
      simp only [List.take_succ_cons, List.drop_succ_cons, List.drop_zero]
      exact List.take_left' (size_data x)
    have e2 : s.extract (2 + x.size) s.size = restV xs := by
      apply ext_list
      rw [extract_list, List.take_of_length_le (by rw [size_data]; exact Nat.le_refl _), hl, show 2 + x.size = x.size + 1 + 1 by omega]
      simp only [List.drop_succ_cons]
      exact List.drop_left' (size_data x)
    rw [e1, e2, ih]
    rfl
theorem readV_fieldsV (l : List ByteArray) (hl : l.length ≤ 40) (hx : ∀ x ∈ l, x.size ≤ 1000) : readV (fieldsV l) = some l := by
  have hlist : (fieldsV l).data.toList = UInt8.ofNat l.length :: (restV l).data.toList := by
    unfold fieldsV
    have : ((l.length : Int) % 256).toNat = l.length := by omega
    simp [strOfNums, this]
  have hsz : (fieldsV l).size = 1 + (restV l).size := by rw [← size_data, hlist, List.length_cons, size_data]; omega
  have e2 : (fieldsV l).extract 1 (fieldsV l).size = restV l := by
    apply ext_list
    rw [extract_list, List.take_of_length_le (by rw [size_data]; exact Nat.le_refl _), hlist]
    rfl
  have b0 := bt_list (fieldsV l) 0 (by omega)
  rw [hlist] at b0
  simp only [List.getD_cons_zero] at b0
  have f0 : bt (fieldsV l) 0 = (l.length : Int) := by
    refine (show bt (fieldsV l) 0 = _ from b0).trans ?_
    rw [UInt8.toNat_ofNat']; omega
  unfold readV
  rw [if_neg (by omega), f0, if_neg (by omega), e2, Int.toNat_natCast]
  exact readN_restV l hx
theorem fieldsV_inj {l l' : List ByteArray} (hl : l.length ≤ 40) (hx : ∀ x ∈ l, x.size ≤ 1000) (hl' : l'.length ≤ 40) (hx' : ∀ x ∈ l', x.size ≤ 1000) (h : fieldsV l = fieldsV l') : l = l' := by
  have h1 := readV_fieldsV l hl hx
  have h2 := readV_fieldsV l' hl' hx'
  rw [h, h2] at h1
  exact (Option.some.inj h1).symm

end Go.Proofs.YteghpdmlpefnfaaDoor.U

/- Names of accounts and denominations: as the reference and as the program read them. -/
namespace Go.Proofs.YteghpdmlpefnfaaDoor.U
open Go Go.RowKit Go.Proofs.YteghpdmlpefnfaaDoor.Q Go.Proofs.YteghpdmlpefnfaaDoorW.PrintWords Go.Proofs.YteghpdmlpefnfaaDoorW.PrintLast Go.Proofs.YteghpdmlpefnfaaDoorW.PrintMore
set_option linter.unusedVariables false
set_option linter.unusedSimpArgs false

def Letter (c : Int) : Prop := (97 ≤ c ∧ c ≤ 122) ∨ (65 ≤ c ∧ c ≤ 90) ∨ c = 95
def Digit (c : Int) : Prop := 48 ≤ c ∧ c ≤ 57
def IsName (x : ByteArray) : Prop := 1 ≤ x.size ∧ x.size ≤ 40 ∧ ∀ j : Int, 0 ≤ j → j < (x.size : Int) → Letter (bt x j) ∨ (j ≠ 0 ∧ Digit (bt x j))
instance (c : Int) : Decidable (Letter c) := by unfold Letter; infer_instance
instance (c : Int) : Decidable (Digit c) := by unfold Digit; infer_instance

theorem nameok_l0 (x : ByteArray) (hn : (x.size : Int) ≤ 140737488351232) (d : Nat) : ∀ i : Int, 0 ≤ i → i ≤ (x.size : Int) → (x.size : Int) - i = d →
    ∃ b, Ev (fun k => impl_NameOK.l0 k x (x.size : Int) i) b ∧ (b = true ↔ (∀ j : Int, i ≤ j → j < (x.size : Int) → Letter (bt x j) ∨ (j ≠ 0 ∧ Digit (bt x j))) ∧ 1 ≤ x.size ∧ x.size ≤ 40) := by
  induction d with
  | zero =>
    intro i h0 h1 hd
    refine ⟨decide (1 ≤ (x.size : Int) ∧ (x.size : Int) ≤ 40), Ev.step (fun k => ?_) (Ev.now _), ?_⟩
    · rw [impl_NameOK.l0, if_neg (by omega)]
      unfold impl_within.f
      by_cases h : (x.size : Int) ≥ 1
      · rw [if_pos h]
        simp only [Option.bind_some]
        congr 1
        exact decide_eq_decide.2 ⟨fun y => ⟨h, y⟩, fun y => y.2⟩
      · rw [if_neg h, decide_eq_false (fun y => h y.1)]
        rfl
    · rw [decide_eq_true_iff]
      exact ⟨fun h => ⟨fun j hj hj' => by omega, by omega, by omega⟩, fun h => by omega⟩
  | succ d ih =>
    intro i h0 h1 hd
    have hlt : i < (x.size : Int) := by omega
    by_cases hg : Letter (bt x i) ∨ (i ≠ 0 ∧ Digit (bt x i))
    · obtain ⟨b, hb, hb'⟩ := ih (i + 1) (by omega) (by omega) (by omega)
      refine ⟨b, Ev.step (fun k => ?_) hb, hb'.trans ⟨fun h => ⟨fun j hj hj' => ?_, h.2⟩, fun h => ⟨fun j hj hj' => h.1 j (by omega) hj', h.2⟩⟩⟩
      · rw [impl_NameOK.l0, if_pos hlt, if_pos h0, if_pos hlt, wid (n := i + 1) (by omega) (by omega)]
        unfold Letter Digit at hg
        generalize bt x i = c at *
        repeat' split
        all_goals first | rfl | (exfalso; omega)
      · by_cases e : j = i
        · subst e; exact hg
        · exact h.1 j (by omega) hj'
    · refine ⟨false, Ev.step (fun k => ?_) (Ev.now _), ⟨(fun h => by cases h), fun h => absurd (h.1 i (Int.le_refl _) hlt) hg⟩⟩
      rw [impl_NameOK.l0, if_pos hlt, if_pos h0, if_pos hlt]
      unfold Letter Digit at hg
      generalize bt x i = c at *
      repeat' split
      all_goals first | rfl | (exfalso; omega)

theorem NameOK_ev (x : ByteArray) (hn : (x.size : Int) ≤ 140737488351232) : ∃ b, Ev (fun k => impl_NameOK.f k x) b ∧ (b = true ↔ IsName x) := by
  obtain ⟨b, hb, hb'⟩ := nameok_l0 x hn x.size 0 (by omega) (by omega) (by omega)
  exact ⟨b, hb, hb'.trans ⟨fun h => ⟨h.2.1, h.2.2, h.1⟩, fun h => ⟨h.2.2, h.1, h.2.1⟩⟩⟩

theorem bool_of_iff {b : Bool} {p : Prop} [Decidable p] (h : b = true ↔ p) : b = decide p := by rw [Bool.eq_iff_iff, h, decide_eq_true_iff]
theorem letter_eq (c : Int) : spec_l00Letter.f c = some (decide (Letter c)) := by
  unfold spec_l00Letter.f
  repeat' split
  all_goals
    refine congrArg some (bool_of_iff ?_)
    unfold Letter
    first
    | exact ⟨fun _ => by omega, fun _ => rfl⟩
    | (rw [beq_iff_eq]; omega)
theorem digit_eq (c : Int) : spec_l00Digit.f c = some (decide (Digit c)) := by
  unfold spec_l00Digit.f
  split
  · refine congrArg some (bool_of_iff ?_)
    unfold Digit
    rw [decide_eq_true_iff]
    omega
  · refine congrArg some (bool_of_iff ?_)
    unfold Digit
    exact ⟨(fun h => by cases h), fun h => by omega⟩

theorem word_l0 (x : ByteArray) (hn : (x.size : Int) ≤ 40) (d : Nat) : ∀ i : Int, 1 ≤ i → i ≤ (x.size : Int) → (x.size : Int) - i = d →
    ∃ b, Ev (fun k => spec_l00Word.l0 k x i) b ∧ (b = true ↔ ∀ j : Int, i ≤ j → j < (x.size : Int) → Letter (bt x j) ∨ (j ≠ 0 ∧ Digit (bt x j))) := by
  induction d with
  | zero =>
    intro i h0 h1 hd
    exact ⟨true, Ev.step (fun k => by rw [spec_l00Word.l0, if_neg (by omega)]) (Ev.now _), ⟨fun _ j hj hj' => by omega, fun _ => rfl⟩⟩
  | succ d ih =>
    intro i h0 h1 hd
    have hlt : i < (x.size : Int) := by omega
    have hstep : ∀ k, spec_l00Word.l0 (k + 1) x i = if decide (Letter (bt x i)) = true then spec_l00Word.l0 k x (i + 1) else if decide (Digit (bt x i)) = true then spec_l00Word.l0 k x (i + 1) else some false := by
      intro k
      rw [spec_l00Word.l0, if_pos hlt, if_pos (by omega), letter_eq, digit_eq, wid (n := i + 1) (by omega) (by omega)]
      rfl
    by_cases hg : Letter (bt x i) ∨ Digit (bt x i)
    · obtain ⟨b, hb, hb'⟩ := ih (i + 1) (by omega) (by omega) (by omega)
      refine ⟨b, Ev.step (fun k => ?_) hb, hb'.trans ⟨fun h j hj hj' => ?_, fun h j hj hj' => h j (by omega) hj'⟩⟩
      · rw [hstep]
        rcases hg with hg | hg
        · rw [if_pos (decide_eq_true hg)]
        · rw [if_pos (decide_eq_true hg)]
          split <;> rfl
      · by_cases e : j = i
        · subst e; exact hg.imp id (fun y => ⟨by omega, y⟩)
        · exact h j (by omega) hj'
    · refine ⟨false, Ev.step (fun k => ?_) (Ev.now _), ⟨(fun h => by cases h), fun h => absurd ((h i (Int.le_refl _) hlt).imp id (fun y => y.2)) hg⟩⟩
      rw [hstep, if_neg (by rw [decide_eq_true_iff]; exact fun y => hg (.inl y)), if_neg (by rw [decide_eq_true_iff]; exact fun y => hg (.inr y))]

theorem Word_ev (x : ByteArray) : ∃ b, Ev (fun k => spec_l00Word.f k x) b ∧ (b = true ↔ IsName x) := by
  unfold spec_l00Word.f
  have hf : Ev (fun k => spec_l00Word.j0 k x true) false := Ev.step (fun k => by rw [spec_l00Word.j0, if_pos rfl]) (Ev.now _)
  by_cases h1 : (x.size : Int) < 1
  · simp only [if_pos h1]
    exact ⟨false, hf, ⟨(fun h => by cases h), fun h => by have := h.1; omega⟩⟩
  simp only [if_neg h1]
  by_cases h2 : (x.size : Int) > 40
  · simp only [if_pos h2]
    exact ⟨false, hf, ⟨(fun h => by cases h), fun h => by have := h.2.1; omega⟩⟩
  simp only [if_neg h2, if_pos (show (0 : Int) < (x.size : Int) by omega), letter_eq, Option.bind_some]
  by_cases h3 : Letter (bt x 0)
  · obtain ⟨b, hb, hb'⟩ := word_l0 x (by omega) (x.size - 1) 1 (by omega) (by omega) (by omega)
    refine ⟨b, ?_, hb'.trans ⟨fun h => ⟨by omega, by omega, fun j hj hj' => ?_⟩, fun h j hj hj' => h.2.2 j (by omega) hj'⟩⟩
    · rw [decide_eq_true h3]
      exact Ev.step (fun k => by rw [Bool.not_true, spec_l00Word.j0, if_neg (by decide)]) hb
    · by_cases e : j = 0
      · subst e; exact .inl h3
      · exact h j (by omega) hj'
  · rw [decide_eq_false h3]
    refine ⟨false, hf, ⟨(fun h => by cases h), fun h => ?_⟩⟩
    rcases h.2.2 0 (by omega) (by omega) with h | h
    · exact absurd h h3
    · exact absurd rfl h.1

noncomputable instance (x : ByteArray) : Decidable (IsName x) := Classical.propDecidable _
/-- A name of at most twelve bytes. -/
noncomputable def nameB (x : ByteArray) : Bool := decide (IsName x ∧ x.size ≤ 12)
noncomputable def peopleB (x : ByteArray) : Bool := nameB x && !impl_isPeople.bad x

theorem DenomOK_ev (x : ByteArray) (hn : (x.size : Int) ≤ 140737488351232) : Ev (fun k => impl_DenomOK.f k x) (nameB x) := by
  obtain ⟨b, hb, hb'⟩ := NameOK_ev x hn
  unfold impl_DenomOK.f
  refine Ev.bind hb ?_
  unfold nameB
  by_cases h : IsName x
  · simp only [hb'.2 h, if_true]
    rw [show decide ((x.size : Int) ≤ 12) = decide (IsName x ∧ x.size ≤ 12) from by rw [Bool.eq_iff_iff, decide_eq_true_iff, decide_eq_true_iff]; exact ⟨fun y => ⟨h, by omega⟩, fun y => by have := y.2; omega⟩]
    exact Ev.now _
  · obtain rfl : b = false := by cases b; rfl; exact absurd (hb'.1 rfl) h
    rw [decide_eq_false (fun y : IsName x ∧ x.size ≤ 12 => h y.1)]
    exact Ev.now _

theorem l05Name_ev (x : ByteArray) : Ev (fun k => spec_l05Name.f k x) (nameB x) := by
  obtain ⟨b, hb, hb'⟩ := Word_ev x
  unfold spec_l05Name.f nameB
  by_cases h12 : (x.size : Int) ≤ 12
  · simp only [if_pos h12]
    have : Ev (fun k => spec_NameOK.f k x) b := by unfold spec_NameOK.f; exact Ev.bind hb (Ev.now _)
    refine Ev.bind this ?_
    rw [show b = decide (IsName x ∧ x.size ≤ 12) from by rw [Bool.eq_iff_iff, decide_eq_true_iff, hb']; exact ⟨fun y => ⟨y, by omega⟩, fun y => y.1⟩]
    exact Ev.now _
  · simp only [if_neg h12]
    rw [decide_eq_false (fun y : IsName x ∧ x.size ≤ 12 => h12 (by have := y.2; omega))]
    exact Ev.now _

theorem l08Name_ev (x : ByteArray) : Ev (fun k => spec_l08Name.f k x) (peopleB x) := by
  unfold spec_l08Name.f
  refine Ev.bind (l05Name_ev x) ?_
  unfold peopleB impl_isPeople.bad
  cases nameB x with
  | false => exact Ev.now _
  | true =>
    simp only [if_true, Bool.true_and]
    by_cases h1 : x.toList = ([101, 115, 99, 114, 111, 119] : List UInt8)
    · simp only [h1, if_true]; exact Ev.now _
    · simp only [if_neg h1]
      by_cases h2 : x.toList = ([111, 114, 100, 101, 114, 115] : List UInt8)
      · simp only [h2, if_true]; exact Ev.now _
      · simp only [if_neg h2]
        by_cases h3 : x.toList = ([116, 97, 107, 101, 115] : List UInt8)
        · simp only [h3, if_true]; exact Ev.now _
        · simp only [if_neg h3, beq_eq_false_iff_ne.2 h1, beq_eq_false_iff_ne.2 h2, beq_eq_false_iff_ne.2 h3, Bool.false_or]
          exact Ev.now _

theorem areNames_go (l : List ByteArray) (hl : l.length < 1000000) (hn : ∀ x ∈ l, (x.size : Int) ≤ 140737488351232) : ∀ (d : Nat) (i : Nat), i + d = l.length →
    Ev (fun k => impl_areNames.l0 k l (l.length : Int) (i : Int)) ((l.drop i).all nameB) := by
  intro d
  induction d with
  | zero =>
    intro i hi
    refine Ev.step (fun k => ?_) (Ev.now _)
    rw [impl_areNames.l0, if_neg (by omega), List.drop_of_length_le (by omega)]
    rfl
  | succ d ih =>
    intro i hi
    have hlt : i < l.length := by omega
    have hx : rdOf ByteArray.empty l (i : Int) = l[i] := by simp [rdOf, List.getD_eq_getElem?_getD, List.getElem?_eq_getElem hlt]
    have h1 := DenomOK_ev l[i] (hn _ (List.getElem_mem hlt))
    have h2 := ih (i + 1) (by omega)
    rw [List.drop_eq_getElem_cons hlt, List.all_cons]
    have hstep : ∀ k, impl_areNames.l0 (k + 1) l (l.length : Int) (i : Int) = (impl_DenomOK.f k l[i]).bind fun t => if t = true then impl_areNames.l0 k l (l.length : Int) ((i + 1 : Nat) : Int) else some false := by
      intro k
      rw [impl_areNames.l0, if_pos (by omega), if_pos (by omega), if_pos (by omega), hx, wid (n := (i : Int) + 1) (by omega) (by omega)]
      rfl
    refine Ev.step hstep (Ev.bind h1 ?_)
    cases nameB l[i] with
    | false => exact Ev.now _
    | true =>
      simp only [if_true, Bool.true_and]
      exact h2
theorem areNames_ev (l : List ByteArray) (hl : l.length < 1000000) (hn : ∀ x ∈ l, (x.size : Int) ≤ 140737488351232) : Ev (fun k => impl_areNames.f k l) (l.all nameB) := by
  have := areNames_go l hl hn l.length 0 (by omega)
  unfold impl_areNames.f
  simpa using this
theorem isPeople_ev (l : List ByteArray) (hl : l.length < 1000000) (hn : ∀ x ∈ l, (x.size : Int) ≤ 140737488351232) : Ev (fun k => impl_isPeople.f k l) (l.all peopleB) := by
  unfold impl_isPeople.f
  refine Ev.bind (areNames_ev l hl hn) ?_
  have e : l.all peopleB = (l.all nameB && !l.any impl_isPeople.bad) := by
    clear hl hn
    induction l with
    | nil => rfl
    | cons a l ih =>
      simp only [List.all_cons, List.any_cons, ih, peopleB]
      cases nameB a <;> cases impl_isPeople.bad a <;> cases l.all nameB <;> cases l.any impl_isPeople.bad <;> rfl
  rw [e]
  cases l.all nameB with
  | false => exact Ev.now _
  | true => simp only [if_true, Bool.true_and]; exact Ev.now _

end Go.Proofs.YteghpdmlpefnfaaDoor.U

/- An order as it stands in a store: the program's reading is the reference's. -/
namespace Go.Proofs.YteghpdmlpefnfaaDoor.U
open Go Go.RowKit Go.Proofs.YteghpdmlpefnfaaDoor.Q Go.Proofs.YteghpdmlpefnfaaDoorW.PrintWords Go.Proofs.YteghpdmlpefnfaaDoorW.PrintLast Go.Proofs.YteghpdmlpefnfaaDoorW.PrintMore
set_option linter.unusedVariables false
set_option linter.unusedSimpArgs false

abbrev Ord := ByteArray × ByteArray × Int × Int × Int × Bool
def openT : ByteArray := ⟨#[111, 112, 101, 110]⟩
def closedT : ByteArray := ⟨#[99, 108, 111, 115, 101, 100]⟩
def isOpen (st : ByteArray) : Bool := st.toList == ([111, 112, 101, 110] : List UInt8)
def isClosed (st : ByteArray) : Bool := st.toList == ([99, 108, 111, 115, 101, 100] : List UInt8)
/-- What makes an order a right one. -/
noncomputable def rightB (id m : ByteArray) (s w l : Int) (o : Bool) : Bool := nameB id && (peopleB m && (someB s && (someB w && (decide (0 ≤ l ∧ l ≤ s) && (decide (l > 0) == o)))))
noncomputable def orderO (id v : ByteArray) : Option Ord :=
  match readV v with
  | some [m, s, w, l, st] => if (rightB id m (amtV s) (amtV w) (amtV l) (isOpen st) && (isOpen st || isClosed st)) = true then some (id, m, amtV s, amtV w, amtV l, isOpen st) else none
  | _ => none
/-- An order and whether it is one. -/
def ordR (x : Ord) : Option Ord → ByteArray × ByteArray × Int × Int × Int × Bool × Bool
  | some (a, b, c, d, e, f) => (a, b, c, d, e, f, true)
  | none => (x.1, x.2.1, x.2.2.1, x.2.2.2.1, x.2.2.2.2.1, x.2.2.2.2.2, false)
theorem isOpen_eq (st : ByteArray) : isOpen st = true ↔ st = openT := by
  unfold isOpen
  rw [beq_iff_eq, show ([111, 112, 101, 110] : List UInt8) = openT.toList by decide +kernel]
  exact toList_eq_iff _ _
theorem isClosed_eq (st : ByteArray) : isClosed st = true ↔ st = closedT := by
  unfold isClosed
  rw [beq_iff_eq, show ([99, 108, 111, 115, 101, 100] : List UInt8) = closedT.toList by decide +kernel]
  exact toList_eq_iff _ _
theorem specOrderOK_ev (id m : ByteArray) (s w l : Int) (o : Bool) : Ev (fun k => spec_OrderOK.f k id m s w l o) (rightB id m s w l o) := by
  unfold spec_OrderOK.f rightB
  refine Ev.bind (l05Name_ev id) ?_
  cases nameB id with
  | false => exact Ev.now _
  | true =>
    simp only [if_true, Bool.true_and]
    refine Ev.bind (l08Name_ev m) ?_
    cases peopleB m with
    | false => exact Ev.now _
    | true =>
      simp only [if_true, Bool.true_and, l01In_eq, Option.bind_some]
      unfold someB
      cases decide (1 ≤ s ∧ s ≤ 1000000000000000000) with
      | false => exact Ev.now _
      | true =>
        cases decide (1 ≤ w ∧ w ≤ 1000000000000000000) with
        | false => exact Ev.now _
        | true =>
          simp only [if_true, Bool.true_and]
          by_cases hl : 0 ≤ l ∧ l ≤ s
          · simp only [decide_eq_true hl, if_true, Bool.true_and]
            cases o with
            | true =>
              simp only [if_true]
              cases decide (l > 0) <;> exact Ev.now _
            | false =>
              simp only [Bool.false_eq_true, if_false]
              by_cases h0 : l = 0
              · subst h0; exact Ev.now _
              · rw [if_neg h0, decide_eq_true (show l > 0 by omega)]; exact Ev.now _
          · simp only [decide_eq_false hl, Bool.false_eq_true, if_false, Bool.false_and]; exact Ev.now _
theorem one_small {x : ByteArray} (h : x.size ≤ 1048576) : ∀ y ∈ [x], (y.size : Int) ≤ 140737488351232 := by
  intro y hy
  rw [List.mem_singleton] at hy
  subst hy
  omega
theorem implOrderOK_ev (id m : ByteArray) (s w l : Int) (o : Bool) (hi : id.size ≤ 1048576) (hm : m.size ≤ 1048576) : Ev (fun k => impl_OrderOK.f k id m s w l o) (rightB id m s w l o) := by
  unfold impl_OrderOK.f rightB
  refine Ev.bind (areNames_ev [id] (by simp) (one_small hi)) ?_
  rw [List.all_cons, List.all_nil, Bool.and_true]
  cases nameB id with
  | false => exact Ev.now _
  | true =>
    simp only [if_true, Bool.true_and]
    refine Ev.bind (isPeople_ev [m] (by simp) (one_small hm)) ?_
    rw [List.all_cons, List.all_nil, Bool.and_true]
    cases peopleB m with
    | false => exact Ev.now _
    | true =>
      simp only [if_true, Bool.true_and, isSome_eq, within_eq, Option.bind_some]
      cases someB s with
      | false => exact Ev.now _
      | true =>
        cases someB w with
        | false => exact Ev.now _
        | true =>
          simp only [if_true, Bool.true_and]
          cases decide (0 ≤ l ∧ l ≤ s) <;> exact Ev.now _
theorem five {α : Type} (l : List α) (h : l.length = 5) : ∃ x y z u v, l = [x, y, z, u, v] := by
  match l, h with
  | [x, y, z, u, v], _ => exact ⟨x, y, z, u, v, rfl⟩
theorem orderO_ne (id v : ByteArray) (l : List ByteArray) (h : readV v = some l) (hl : l.length ≠ 5) : orderO id v = none := by
  unfold orderO
  rw [h]
  match l with
  | [] => rfl
  | [_] => rfl
  | [_, _] => rfl
  | [_, _, _] => rfl
  | [_, _, _, _] => rfl
  | [_, _, _, _, _] => exact absurd rfl hl
  | _ :: _ :: _ :: _ :: _ :: _ :: _ => rfl
theorem specRead_ev (id v : ByteArray) (hv : v.size ≤ 1048576) : ∃ x, Ev (fun k => spec_l09Read.f k id v) (ordR x (orderO id v)) := by
  unfold spec_l09Read.f
  obtain ⟨x, hx⟩ := l02Read_ev v (by omega)
  have hbad : ∀ x4, Ev (fun k => spec_l09Read.j0 k id x4 true) ((⟨#[]⟩ : ByteArray), (⟨#[]⟩ : ByteArray), 0, 0, 0, false, false) := fun x4 => Ev.step (fun k => by rw [spec_l09Read.j0, if_pos rfl]) (Ev.now _)
  have hbad2 : orderO id v = none → ∀ x4, ∃ x, Ev (fun k => spec_l09Read.j0 k id x4 true) (ordR x (orderO id v)) := fun e x4 => ⟨((⟨#[]⟩ : ByteArray), (⟨#[]⟩ : ByteArray), 0, 0, 0, false), by rw [e]; exact hbad x4⟩
  cases hr : readV v with
  | none =>
    have e : orderO id v = none := by unfold orderO; rw [hr]
    obtain ⟨y, hy⟩ := hbad2 e x
    refine ⟨y, Ev.bind hx ?_⟩
    rw [hr]
    simp only [readR, Bool.false_eq_true, if_false]
    exact hy
  | some fs =>
    obtain ⟨hv1, _, hfs⟩ := readV_of hr
    by_cases h5 : fs.length = 5
    · obtain ⟨m, s, w, l, st, rfl⟩ := five fs h5
      have hs := hfs s (by simp)
      have hw := hfs w (by simp)
      have hl := hfs l (by simp)
      have L5 : ((([m, s, w, l, st] : List ByteArray).length : Nat) : Int) = 5 := rfl
      have e : (((([m, s, w, l, st] : List ByteArray).length : Nat) : Int) != 5) = false := rfl
      have e2 : orderO id v = if (rightB id m (amtV s) (amtV w) (amtV l) (isOpen st) && (isOpen st || isClosed st)) = true then some (id, m, amtV s, amtV w, amtV l, isOpen st) else none := by unfold orderO; rw [hr]
      refine ⟨(id, m, amtV s, amtV w, amtV l, isOpen st), Ev.bind hx ?_⟩
      rw [hr]
      simp only [readR, List.nil_append, if_true, e]
      have d0 : rdOf ByteArray.empty [m, s, w, l, st] 0 = m := rfl
      have d1 : rdOf ByteArray.empty [m, s, w, l, st] 1 = s := rfl
      have d2 : rdOf ByteArray.empty [m, s, w, l, st] 2 = w := rfl
      have d3 : rdOf ByteArray.empty [m, s, w, l, st] 3 = l := rfl
      have d4 : rdOf ByteArray.empty [m, s, w, l, st] 4 = st := rfl
      refine Ev.step (f := fun k => (spec_l02Of.f k s).bind fun t1 => (spec_l02Of.f k w).bind fun t2 => (spec_l02Of.f k l).bind fun t3 => (spec_OrderOK.f k id m t1 t2 t3 (st.toList == ([111, 112, 101, 110] : List UInt8))).bind fun t => if t = true then (if st.toList = ([111, 112, 101, 110] : List UInt8) then some (id, m, t1, t2, t3, (st.toList == ([111, 112, 101, 110] : List UInt8)), true) else some (id, m, t1, t2, t3, (st.toList == ([111, 112, 101, 110] : List UInt8)), (st.toList == ([99, 108, 111, 115, 101, 100] : List UInt8)))) else some (id, m, t1, t2, t3, (st.toList == ([111, 112, 101, 110] : List UInt8)), false)) (fun k => by
        rw [spec_l09Read.j0, if_neg (by decide), L5, d0, d1, d2, d3, d4, if_pos (show (0 : Int) < 5 by decide), if_pos (show (1 : Int) < 5 by decide)]
        simp only [if_pos (show (2 : Int) < 5 by decide), if_pos (show (3 : Int) < 5 by decide), if_pos (show (4 : Int) < 5 by decide)]) ?_
      refine Ev.bind (l02Of_ev s (by omega)) ?_
      refine Ev.bind (l02Of_ev w (by omega)) (Ev.bind (l02Of_ev l (by omega)) (Ev.bind (specOrderOK_ev id m _ _ _ _) ?_))
      rw [e2]
      rw [show (st.toList == ([111, 112, 101, 110] : List UInt8)) = isOpen st from rfl]
      cases h1 : rightB id m (amtV s) (amtV w) (amtV l) (isOpen st) with
      | false => simp only [Bool.false_and, Bool.false_eq_true, if_false]; exact Ev.now _
      | true =>
        simp only [if_true, Bool.true_and]
        by_cases ho : st.toList = ([111, 112, 101, 110] : List UInt8)
        · have : isOpen st = true := by unfold isOpen; rw [beq_iff_eq]; exact ho
          simp only [if_pos ho, this, Bool.true_or, if_true]
          exact Ev.now _
        · have : isOpen st = false := by unfold isOpen; rw [beq_eq_false_iff_ne]; exact ho
          simp only [if_neg ho, this, Bool.false_or]
          rw [show (st.toList == ([99, 108, 111, 115, 101, 100] : List UInt8)) = isClosed st from rfl]
          cases isClosed st with
          | true => simp only [if_true]; exact Ev.now _
          | false => simp only [Bool.false_eq_true, if_false]; exact Ev.now _
    · have e : (((fs.length : Nat) : Int) != 5) = true := by rw [bne_iff_ne]; omega
      obtain ⟨y, hy⟩ := hbad2 (orderO_ne id v fs hr h5) fs
      refine ⟨y, Ev.bind hx ?_⟩
      rw [hr]
      simp only [readR, List.nil_append, if_true, e]
      exact hy
theorem stateT_size (o : Bool) : (if o = true then openT else closedT).size ≤ 1000 := by cases o <;> decide
theorem orderValue_ev (id m : ByteArray) (s w l : Int) (o : Bool) (hm : m.size ≤ 1000) (hs : 0 ≤ s ∧ s ≤ 1000000000000000000) (hw : 0 ≤ w ∧ w ≤ 1000000000000000000) (hl : 0 ≤ l ∧ l ≤ 1000000000000000000) :
    Ev (fun k => impl_Order_value.f k id m s w l o) (fieldsV [m, digV s.toNat, digV w.toNat, digV l.toNat, if o = true then openT else closedT]) := by
  have s1 := digV_size s.toNat (by omega)
  have s2 := digV_size w.toNat (by omega)
  have s3 := digV_size l.toNat (by omega)
  have key : ∀ t : ByteArray, t.size ≤ 1000 → Ev (fun k => impl_Order_value.j0 k t id m s w l o) (fieldsV [m, digV s.toNat, digV w.toNat, digV l.toNat, t]) := by
    intro t ht
    refine Ev.step (f := fun k => (impl_fields.f k [m, digV s.toNat, digV w.toNat, digV l.toNat, t]).bind fun t419 => some t419) (fun k => by rw [impl_Order_value.j0, amountText_eq s (by omega) (by omega), amountText_eq w (by omega) (by omega), amountText_eq l (by omega) (by omega)]; simp only [Option.bind_some]) ?_
    refine Ev.bind (fields_ev _ (by simp) ?_) (Ev.now _)
    intro x hx
    simp only [List.mem_cons, List.mem_nil_iff, or_false] at hx
    rcases hx with rfl | rfl | rfl | rfl | rfl <;> omega
  unfold impl_Order_value.f
  cases o with
  | true => simp only [if_true]; exact key openT (by decide)
  | false => simp only [Bool.false_eq_true, if_false]; exact key closedT (by decide)
theorem rightB_bd {id m : ByteArray} {s w l : Int} {o : Bool} (h : rightB id m s w l o = true) : (1 ≤ s ∧ s ≤ 1000000000000000000) ∧ (1 ≤ w ∧ w ≤ 1000000000000000000) ∧ (0 ≤ l ∧ l ≤ s) := by
  unfold rightB someB at h
  simp only [Bool.and_eq_true, decide_eq_true_iff] at h
  exact ⟨h.2.2.1, h.2.2.2.1, h.2.2.2.2.1⟩
theorem implOrderOf_ev (id v : ByteArray) (hi : id.size ≤ 1048576) (hv : v.size ≤ 1048576) : ∃ x, Ev (fun k => impl_orderOf.f k id v) (ordR x (orderO id v)) := by
  unfold impl_orderOf.f
  obtain ⟨x, hx⟩ := readFields_ev v (by omega)
  have hbad : ∀ x4, Ev (fun k => impl_orderOf.j0 k id v x4 true) ((⟨#[]⟩ : ByteArray), (⟨#[]⟩ : ByteArray), 0, 0, 0, false, false) := fun x4 => Ev.step (fun k => by rw [impl_orderOf.j0, if_pos rfl]) (Ev.now _)
  have hbad2 : orderO id v = none → ∀ x4, ∃ x, Ev (fun k => impl_orderOf.j0 k id v x4 true) (ordR x (orderO id v)) := fun e x4 => ⟨((⟨#[]⟩ : ByteArray), (⟨#[]⟩ : ByteArray), 0, 0, 0, false), by rw [e]; exact hbad x4⟩
  cases hr : readV v with
  | none =>
    have e : orderO id v = none := by unfold orderO; rw [hr]
    obtain ⟨y, hy⟩ := hbad2 e x
    refine ⟨y, Ev.bind hx ?_⟩
    rw [hr]
    simp only [readR, Bool.false_eq_true, if_false]
    exact hy
  | some fs =>
    obtain ⟨hv1, _, hfs⟩ := readV_of hr
    by_cases h5 : fs.length = 5
    · obtain ⟨m, s, w, l, st, rfl⟩ := five fs h5
      have hm := hfs m (by simp)
      have hs := hfs s (by simp)
      have hw := hfs w (by simp)
      have hl := hfs l (by simp)
      have hst := hfs st (by simp)
      have L5 : ((([m, s, w, l, st] : List ByteArray).length : Nat) : Int) = 5 := rfl
      have e : (((([m, s, w, l, st] : List ByteArray).length : Nat) : Int) != 5) = false := rfl
      have e2 : orderO id v = if (rightB id m (amtV s) (amtV w) (amtV l) (isOpen st) && (isOpen st || isClosed st)) = true then some (id, m, amtV s, amtV w, amtV l, isOpen st) else none := by unfold orderO; rw [hr]
      refine ⟨(id, m, max0 (amtV s), max0 (amtV w), max0 (amtV l), isOpen st), Ev.bind hx ?_⟩
      rw [hr]
      simp only [readR, List.nil_append, if_true, e]
      have d0 : rdOf ByteArray.empty [m, s, w, l, st] 0 = m := rfl
      have d1 : rdOf ByteArray.empty [m, s, w, l, st] 1 = s := rfl
      have d2 : rdOf ByteArray.empty [m, s, w, l, st] 2 = w := rfl
      have d3 : rdOf ByteArray.empty [m, s, w, l, st] 3 = l := rfl
      have d4 : rdOf ByteArray.empty [m, s, w, l, st] 4 = st := rfl
      obtain ⟨b1, e1⟩ := readAmount_fst s (by omega)
      obtain ⟨b2, e2'⟩ := readAmount_fst w (by omega)
      obtain ⟨b3, e3⟩ := readAmount_fst l (by omega)
      refine Ev.step (f := fun k => (impl_OrderOK.f k id m (max0 (amtV s)) (max0 (amtV w)) (max0 (amtV l)) (isOpen st)).bind fun t437 => if t437 = true then ((impl_Order_value.f k id m (max0 (amtV s)) (max0 (amtV w)) (max0 (amtV l)) (isOpen st)).bind fun t438 => (some (id, m, max0 (amtV s), max0 (amtV w), max0 (amtV l), isOpen st, (t438.toList == v.toList)))) else (some (id, m, max0 (amtV s), max0 (amtV w), max0 (amtV l), isOpen st, false))) (fun k => ?_) ?_
      · rw [impl_orderOf.j0, if_neg (by decide), L5, d0, d1, d2, d3, d4, e1, e2', e3, if_pos (show (0 : Int) < 5 by decide), if_pos (show (4 : Int) < 5 by decide), if_pos (show (1 : Int) < 5 by decide)]
        simp only [Option.bind_some, if_pos (show (2 : Int) < 5 by decide), if_pos (show (3 : Int) < 5 by decide)]
        rfl
      refine Ev.bind (implOrderOK_ev id m _ _ _ _ hi (by omega)) ?_
      rw [e2]
      by_cases h1 : rightB id m (max0 (amtV s)) (max0 (amtV w)) (max0 (amtV l)) (isOpen st) = true
      · simp only [if_pos h1]
        obtain ⟨q1, q2, q3⟩ := rightB_bd h1
        refine Ev.bind (orderValue_ev id m _ _ _ _ hm (by omega) (by omega) (by omega)) ?_
        have hsV : 0 ≤ amtV s := by unfold max0 at q1; split at q1 <;> omega
        have hwV : 0 ≤ amtV w := by unfold max0 at q2; split at q2 <;> omega
        have m1 : max0 (amtV s) = amtV s := if_pos hsV
        have m2 : max0 (amtV w) = amtV w := if_pos hwV
        by_cases hval : 0 ≤ amtV l ∧ (isOpen st || isClosed st) = true
        · have m3 : max0 (amtV l) = amtV l := if_pos hval.1
          have est : (if isOpen st = true then openT else closedT) = st := by
            cases ho : isOpen st with
            | true => simp only [if_true]; exact ((isOpen_eq st).1 ho).symm
            | false =>
              have hc := hval.2
              rw [ho, Bool.false_or] at hc
              simp only [Bool.false_eq_true, if_false]
              exact ((isClosed_eq st).1 hc).symm
          rw [m1, m2, m3] at h1 ⊢
          rw [est, ← (amtV_eq hsV).1, ← (amtV_eq hwV).1, ← (amtV_eq hval.1).1, ← hv1, h1, hval.2]
          simp only [Bool.and_self, if_true, beq_self_eq_true]
          exact Ev.now _
        · have hno : (rightB id m (amtV s) (amtV w) (amtV l) (isOpen st) && (isOpen st || isClosed st)) = false := by
            rw [Bool.eq_false_iff]
            intro h
            rw [Bool.and_eq_true] at h
            exact hval ⟨(rightB_bd h.1).2.2.1, h.2⟩
          have hne : ((fieldsV [m, digV (max0 (amtV s)).toNat, digV (max0 (amtV w)).toNat, digV (max0 (amtV l)).toNat, if isOpen st = true then openT else closedT]).toList == v.toList) = false := by
            rw [beq_eq_false_iff_ne]
            intro h
            have h2 := (toList_eq_iff _ _).1 h
            rw [hv1] at h2
            have s1 := digV_size (max0 (amtV s)).toNat (by omega)
            have s2 := digV_size (max0 (amtV w)).toNat (by omega)
            have s3 := digV_size (max0 (amtV l)).toNat (by omega)
            have s4 := stateT_size (isOpen st)
            have h3 := fieldsV_inj (by simp) (by
              intro y hy
              simp only [List.mem_cons, List.mem_nil_iff, or_false] at hy
              rcases hy with rfl | rfl | rfl | rfl | rfl <;> omega) (by simp) hfs h2
            simp only [List.cons.injEq, and_true] at h3
            obtain ⟨_, _, _, h4, h5⟩ := h3
            apply hval
            refine ⟨?_, ?_⟩
            · rw [← h4, amtV_digV _ (by omega)]; omega
            · cases ho : isOpen st with
              | true => rfl
              | false =>
                rw [ho] at h5
                simp only [Bool.false_eq_true, if_false] at h5
                rw [Bool.false_or]
                exact (isClosed_eq st).2 h5.symm
          simp only [hno, hne, Bool.false_eq_true, if_false]
          exact Ev.now _
      · simp only [if_neg h1]
        have hno : (rightB id m (amtV s) (amtV w) (amtV l) (isOpen st) && (isOpen st || isClosed st)) = false := by
          rw [Bool.eq_false_iff]
          intro h
          rw [Bool.and_eq_true] at h
          obtain ⟨q1, q2, q3⟩ := rightB_bd h.1
          apply h1
          have m1 : max0 (amtV s) = amtV s := if_pos (by omega)
          have m2 : max0 (amtV w) = amtV w := if_pos (by omega)
          have m3 : max0 (amtV l) = amtV l := if_pos q3.1
          rw [m1, m2, m3]
          exact h.1
        simp only [hno, Bool.false_eq_true, if_false]
        exact Ev.now _
    · have e : (((fs.length : Nat) : Int) != 5) = true := by rw [bne_iff_ne]; omega
      obtain ⟨y, hy⟩ := hbad2 (orderO_ne id v fs hr h5) fs
      refine ⟨y, Ev.bind hx ?_⟩
      rw [hr]
      simp only [readR, List.nil_append, if_true, e]
      exact hy
end Go.Proofs.YteghpdmlpefnfaaDoor.U
