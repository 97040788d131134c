/- Parts of the proof: what single Go functions compute, each with its walk, and plain laws over these. -/
import Derived.Test.YtppgnndolgmcfaaM0
import Derived.Test.YtppgnndolgmcfaaM1
import Derived.IntWalk
import Derived.Laws.BitsLemmas
import Derived.Test.YtppgnndolgmcfaaWMore
namespace Go.Proofs.Ytppgnndolgmcfaa.Q
open Go.RowKit Go.Proofs.YtppgnndolgmcfaaW.PrintWords Go.Proofs.YtppgnndolgmcfaaW.PrintLast Go.Proofs.YtppgnndolgmcfaaW.PrintMore
attribute [local go_sem] max2_int min2_int max_two min_two max_three min_three max_four min_four   -- for this text's walks alone
set_option linter.unusedVariables false
set_option linter.unusedSimpArgs false

/-! ### spec_l00Src_order: function 51 -/
def spec_l00Src_order.f (s0_0 : List Int) (s0_1 : Int) (s0_2 : Int) : Option (ByteArray × ByteArray × Int × Int × Int × Bool × Int × Int) := (spec_l00Src_orderId.f s0_0 s0_1 s0_2).bind fun bt391 => ((spec_l00Src_account.f s0_0 bt391.2.1 bt391.2.2).bind fun bt394 => ((spec_l00Src_next.f s0_0 bt394.2.1 bt394.2.2 1000).bind fun bt397 => ((spec_l00Src_next.f s0_0 bt397.2.1 bt397.2.2 1000).bind fun bt400 => ((spec_l00Src_next.f s0_0 bt400.2.1 bt400.2.2 (wrap64 (1 + bt397.1))).bind fun bt404 => ((spec_l00Src_chance.f s0_0 bt404.2.1 bt404.2.2 5).bind fun bt407 => (if bt407.1 = true then (some (bt391.1, bt394.1, wrap64 (1 + bt397.1), wrap64 (1 + bt400.1), 0, false, bt407.2.1, bt407.2.2)) else (some (bt391.1, bt394.1, wrap64 (1 + bt397.1), wrap64 (1 + bt400.1), wrap64 (1 + bt404.1), true, bt407.2.1, bt407.2.2))))))))
set_option maxHeartbeats 8000000 in
set_option maxRecDepth 100000 in
theorem spec_l00Src_order.calls (g : Nat) (s0_0 : List Int) (s0_1 : Int) (s0_2 : Int) (r1 : ByteArray) (r2 : ByteArray) (r3 : Int) (r4 : Int) (r5 : Int) (r6 : Bool) (r7 : Int) (r8 : Int) (w0 w : World) (hI : IsS71 w0 w g s0_0 s0_1 s0_2) (hB : Below w0.heap.size w0 w) (h : spec_l00Src_order.f s0_0 s0_1 s0_2 = some (r1, r2, r3, r4, r5, r6, r7, r8)) :
    Calls Try.prog 51 #[.pointer (some ⟨g, 0, none⟩)] w fun e w' => e = .returned (.agg #[.string r1, .string r2, .int .i64 r3, .int .i64 r4, .int .i64 r5, .bool r6]) ∧ IsS71 w0 w' g s0_0 r7 r8 ∧ Below w0.heap.size w0 w' ∧ KeepBut w w' g none := by
  have hu35 := Try.underlying35
  have HI0 := Aside0.mk hI
  have HK := Aside0.mk (KeepBut.refl w g none)
  have HL := Aside0.mk hB.size
  clear hI
  have HW0 := Aside0.mk hB.size
  have HB := Aside0.mk hB
  clear hB
  have H : ((spec_l00Src_orderId.f s0_0 s0_1 s0_2).bind fun bt391 => ((spec_l00Src_account.f s0_0 bt391.2.1 bt391.2.2).bind fun bt394 => ((spec_l00Src_next.f s0_0 bt394.2.1 bt394.2.2 1000).bind fun bt397 => ((spec_l00Src_next.f s0_0 bt397.2.1 bt397.2.2 1000).bind fun bt400 => ((spec_l00Src_next.f s0_0 bt400.2.1 bt400.2.2 (wrap64 (1 + bt397.1))).bind fun bt404 => ((spec_l00Src_chance.f s0_0 bt404.2.1 bt404.2.2 5).bind fun bt407 => (if bt407.1 = true then (some (bt391.1, bt394.1, wrap64 (1 + bt397.1), wrap64 (1 + bt400.1), 0, false, bt407.2.1, bt407.2.2)) else (some (bt391.1, bt394.1, wrap64 (1 + bt397.1), wrap64 (1 + bt400.1), wrap64 (1 + bt404.1), true, bt407.2.1, bt407.2.2))))))))) = some (r1, r2, r3, r4, r5, r6, r7, r8) := h
  clear h
  replace H := Option.bind_eq_some_iff.mp H
  obtain ⟨⟨t391, t392, t393⟩, A20, H⟩ := H
  replace H : ((spec_l00Src_account.f s0_0 t392 t393).bind fun bt394 => ((spec_l00Src_next.f s0_0 bt394.2.1 bt394.2.2 1000).bind fun bt397 => ((spec_l00Src_next.f s0_0 bt397.2.1 bt397.2.2 1000).bind fun bt400 => ((spec_l00Src_next.f s0_0 bt400.2.1 bt400.2.2 (wrap64 (1 + bt397.1))).bind fun bt404 => ((spec_l00Src_chance.f s0_0 bt404.2.1 bt404.2.2 5).bind fun bt407 => (if bt407.1 = true then (some (t391, bt394.1, wrap64 (1 + bt397.1), wrap64 (1 + bt400.1), 0, false, bt407.2.1, bt407.2.2)) else (some (t391, bt394.1, wrap64 (1 + bt397.1), wrap64 (1 + bt400.1), wrap64 (1 + bt404.1), true, bt407.2.1, bt407.2.2)))))))) = some (r1, r2, r3, r4, r5, r6, r7, r8) := H
  have A2 := Aside0.mk A20
  clear A20
  replace H := Option.bind_eq_some_iff.mp H
  obtain ⟨⟨t394, t395, t396⟩, A30, H⟩ := H
  replace H : ((spec_l00Src_next.f s0_0 t395 t396 1000).bind fun bt397 => ((spec_l00Src_next.f s0_0 bt397.2.1 bt397.2.2 1000).bind fun bt400 => ((spec_l00Src_next.f s0_0 bt400.2.1 bt400.2.2 (wrap64 (1 + bt397.1))).bind fun bt404 => ((spec_l00Src_chance.f s0_0 bt404.2.1 bt404.2.2 5).bind fun bt407 => (if bt407.1 = true then (some (t391, t394, wrap64 (1 + bt397.1), wrap64 (1 + bt400.1), 0, false, bt407.2.1, bt407.2.2)) else (some (t391, t394, wrap64 (1 + bt397.1), wrap64 (1 + bt400.1), wrap64 (1 + bt404.1), true, bt407.2.1, bt407.2.2))))))) = some (r1, r2, r3, r4, r5, r6, r7, r8) := H
  have A3 := Aside0.mk A30
  clear A30
  replace H := Option.bind_eq_some_iff.mp H
  obtain ⟨⟨t397, t398, t399⟩, A40, H⟩ := H
  replace H : ((spec_l00Src_next.f s0_0 t398 t399 1000).bind fun bt400 => ((spec_l00Src_next.f s0_0 bt400.2.1 bt400.2.2 (wrap64 (1 + t397))).bind fun bt404 => ((spec_l00Src_chance.f s0_0 bt404.2.1 bt404.2.2 5).bind fun bt407 => (if bt407.1 = true then (some (t391, t394, wrap64 (1 + t397), wrap64 (1 + bt400.1), 0, false, bt407.2.1, bt407.2.2)) else (some (t391, t394, wrap64 (1 + t397), wrap64 (1 + bt400.1), wrap64 (1 + bt404.1), true, bt407.2.1, bt407.2.2)))))) = some (r1, r2, r3, r4, r5, r6, r7, r8) := H
  have A4 := Aside0.mk A40
  clear A40
  replace H := Option.bind_eq_some_iff.mp H
  obtain ⟨⟨t400, t401, t402⟩, A50, H⟩ := H
  replace H : ((spec_l00Src_next.f s0_0 t401 t402 (wrap64 (1 + t397))).bind fun bt404 => ((spec_l00Src_chance.f s0_0 bt404.2.1 bt404.2.2 5).bind fun bt407 => (if bt407.1 = true then (some (t391, t394, wrap64 (1 + t397), wrap64 (1 + t400), 0, false, bt407.2.1, bt407.2.2)) else (some (t391, t394, wrap64 (1 + t397), wrap64 (1 + t400), wrap64 (1 + bt404.1), true, bt407.2.1, bt407.2.2))))) = some (r1, r2, r3, r4, r5, r6, r7, r8) := H
  have A5 := Aside0.mk A50
  clear A50
  replace H := Option.bind_eq_some_iff.mp H
  obtain ⟨⟨t404, t405, t406⟩, A60, H⟩ := H
  replace H : ((spec_l00Src_chance.f s0_0 t405 t406 5).bind fun bt407 => (if bt407.1 = true then (some (t391, t394, wrap64 (1 + t397), wrap64 (1 + t400), 0, false, bt407.2.1, bt407.2.2)) else (some (t391, t394, wrap64 (1 + t397), wrap64 (1 + t400), wrap64 (1 + t404), true, bt407.2.1, bt407.2.2)))) = some (r1, r2, r3, r4, r5, r6, r7, r8) := H
  have A6 := Aside0.mk A60
  clear A60
  replace H := Option.bind_eq_some_iff.mp H
  obtain ⟨⟨t407, t408, t409⟩, A70, H⟩ := H
  replace H : (if t407 = true then (some (t391, t394, wrap64 (1 + t397), wrap64 (1 + t400), 0, false, t408, t409)) else (some (t391, t394, wrap64 (1 + t397), wrap64 (1 + t400), wrap64 (1 + t404), true, t408, t409))) = some (r1, r2, r3, r4, r5, r6, r7, r8) := H
  have A7 := Aside0.mk A70
  clear A70
  by_cases c8 : t407 = true
  · subst c8
    have H1 : (some (t391, t394, wrap64 (1 + t397), wrap64 (1 + t400), 0, false, t408, t409)) = some (r1, r2, r3, r4, r5, r6, r7, r8) := by rw [if_pos rfl] at H; exact H
    clear H
    have H := H1
    clear H1
    simp only [Option.some.injEq, Prod.mk.injEq] at H
    obtain ⟨rfl, rfl, rfl, rfl, rfl, rfl, rfl, rfl⟩ := H
    go_enter Try.func51, Try.ntmps51
    go_wp2_with (first | ((with_reducible refine gate_dst (N := 2) rfl ?_); refine box_event ?hg (N := 2) ?hd (cs := #[.string (⟨#[]⟩ : ByteArray), .string (⟨#[]⟩ : ByteArray), .int .i64 0, .int .i64 0, .int .i64 0, .bool false]) (t := 35) ?hr ?_; (case hd => rfl); (case hg => rfl); (case hr => first | (go_simp; done) | (go_simp; rfl)); intro gb390 hg w9 hbox hb; have n0_ := Aside0.mk (IsS71.below (by repeat (first | (with_reducible first | exact HI0.out | apply IsS71.alloc | apply IsS71.drewN | apply IsS71.drew | apply IsS71.set_1 | apply IsS71.set_2) | exact HI0.out)) hb); have n1_ := Aside0.mk (KeepBut.trans (by repeat (first | (with_reducible first | exact HK.out | apply KeepBut.set_ | apply keep_drewN | apply keep_drew | apply keep_alloc) | exact HK.out)) (KeepBut.of_below hb g none) (.inl rfl)); have n2_ := Aside0.mk (below_step (by repeat (first | (with_reducible first | exact HB.out | apply below_alloc | apply pw_below_drewN | apply below_drew1 | refine below_set ?_ (IsS71.ge HI0.out)) | exact HB.out)) hb); have n3_ := Aside0.mk (hbox); have n4_ := Aside0.mk ((by rw [hg]; exact (keep_size (w := w) (g := g) (row := none) (by repeat (first | (with_reducible first | exact HK.out | apply KeepBut.set_ | apply keep_drewN | apply keep_drew | apply keep_alloc) | exact HK.out))) : w.heap.size ≤ gb390)); have n5_ := Aside0.mk ((Nat.le_trans HW0.out (by rw [hg]; exact (keep_size (w := w) (g := g) (row := none) (by repeat (first | (with_reducible first | exact HK.out | apply KeepBut.set_ | apply keep_drewN | apply keep_drew | apply keep_alloc) | exact HK.out))) : w.heap.size ≤ gb390) : w0.heap.size ≤ gb390)); have n6_ := Aside0.mk ((by rw [hg]; exact Nat.ne_of_lt (IsS71.lt (show IsS71 w0 _ g s0_0 s0_1 s0_2 from by repeat (first | (with_reducible first | exact HI0.out | apply IsS71.alloc | apply IsS71.drewN | apply IsS71.drew | apply IsS71.set_1 | apply IsS71.set_2) | exact HI0.out))) : g ≠ gb390)); have n7_ := Aside0.mk ((by rw [hg]; exact Nat.ne_of_gt (IsS71.lt (show IsS71 w0 _ g s0_0 s0_1 s0_2 from by repeat (first | (with_reducible first | exact HI0.out | apply IsS71.alloc | apply IsS71.drewN | apply IsS71.drew | apply IsS71.set_1 | apply IsS71.set_2) | exact HI0.out))) : gb390 ≠ g)); clear HI0; clear HK; clear HB; have HI0 := n0_; have HK := n1_; have HB := n2_; have BK390 := n3_; have GW390 := n4_; have GE390 := n5_; have NB0_390 := n6_; have NB390_0 := n7_; clear n0_ n1_ n2_ n3_ n4_ n5_ n6_ n7_; clear hb hbox hg) | ((with_reducible refine gate_callee (f := 64) rfl ?_); refine goesL_ (some 5) rfl rfl Try.func64 (by kernel_rfl) rfl #[.pointer (some ⟨g, 0, none⟩)] rfl (by (try simp only [List.map_toArray, List.map_cons, List.map_nil]); first | done | rfl | (simp only [List.length_drop, List.length_take]; rfl)) ?_; (with_reducible refine (spec_l00Src_orderId.calls g s0_0 s0_1 s0_2 t391 t392 t393 w0 _ ?side1 ?side2 A2.out).mono ?_); (case side1 => repeat (first | (with_reducible first | exact HI0.out | apply IsS71.alloc | apply IsS71.drewN | apply IsS71.drew | apply IsS71.set_1 | apply IsS71.set_2 | refine IsS71.far ?_ NB0_390.out _) | exact HI0.out)); (case side2 => repeat (first | (with_reducible first | exact HB.out | apply below_alloc | apply pw_below_drewN | apply below_drew1 | refine below_set ?_ (IsS71.ge HI0.out) | refine below_set ?_ GE390.out) | exact HB.out)); rintro e w10 ⟨rfl, hi, hb, hk⟩; refine ⟨_, rfl, ?_⟩; have n0_ := Aside0.mk (KeepBut.blk hk (g' := gb390) (o := .cells #[.string (⟨#[]⟩ : ByteArray), .string (⟨#[]⟩ : ByteArray), .int .i64 0, .int .i64 0, .int .i64 0, .bool false] 35 (0, 0)) (by (with_reducible repeat (first | refine blk_drewN ?_ _ | refine blk_drew ?_ | refine blk_alloc ?_ _)); exact BK390.out) NB390_0.out (by simp)); have n1_ := Aside0.mk (KeepBut.trans (by repeat (first | (with_reducible first | exact HK.out | apply KeepBut.set_ | apply keep_drewN | apply keep_drew | apply keep_alloc | refine keep_far ?_ GW390.out _) | exact HK.out)) hk (.inl rfl)); have n2_ := Aside0.mk (hb); have n3_ := Aside0.mk (hi); clear BK390; clear HK; clear HB; clear HI0; have BK390 := n0_; have HK := n1_; have HB := n2_; have HI0 := n3_; clear n0_ n1_ n2_ n3_; (try clear hb); (try clear hb2); (try clear hk); (try clear hi)) | ((with_reducible refine gate_callee (f := 65) rfl ?_); refine goesL_ (some 7) rfl rfl Try.func65 (by kernel_rfl) rfl #[.pointer (some ⟨g, 0, none⟩)] rfl (by (try simp only [List.map_toArray, List.map_cons, List.map_nil]); first | done | rfl | (simp only [List.length_drop, List.length_take]; rfl)) ?_; (with_reducible refine (spec_l00Src_account.calls g s0_0 t392 t393 t394 t395 t396 w0 _ ?side1 ?side2 A3.out).mono ?_); (case side1 => repeat (first | (with_reducible first | exact HI0.out | apply IsS71.alloc | apply IsS71.drewN | apply IsS71.drew | apply IsS71.set_1 | apply IsS71.set_2 | refine IsS71.far ?_ NB0_390.out _) | exact HI0.out)); (case side2 => repeat (first | (with_reducible first | exact HB.out | apply below_alloc | apply pw_below_drewN | apply below_drew1 | refine below_set ?_ (IsS71.ge HI0.out) | refine below_set ?_ GE390.out) | exact HB.out)); rintro e w11 ⟨rfl, hi, hb, hk⟩; refine ⟨_, rfl, ?_⟩; have n0_ := Aside0.mk (KeepBut.blk hk (g' := gb390) (o := .cells #[.string (⟨#[]⟩ : ByteArray), .string (⟨#[]⟩ : ByteArray), .int .i64 0, .int .i64 0, .int .i64 0, .bool false] 35 (0, 0)) (by (with_reducible repeat (first | refine blk_drewN ?_ _ | refine blk_drew ?_ | refine blk_alloc ?_ _)); exact BK390.out) NB390_0.out (by simp)); have n1_ := Aside0.mk (KeepBut.trans (by repeat (first | (with_reducible first | exact HK.out | apply KeepBut.set_ | apply keep_drewN | apply keep_drew | apply keep_alloc | refine keep_far ?_ GW390.out _) | exact HK.out)) hk (.inl rfl)); have n2_ := Aside0.mk (hb); have n3_ := Aside0.mk (hi); clear BK390; clear HK; clear HB; clear HI0; have BK390 := n0_; have HK := n1_; have HB := n2_; have HI0 := n3_; clear n0_ n1_ n2_ n3_; (try clear hb); (try clear hb2); (try clear hk); (try clear hi)) | ((with_reducible refine gate_callee (f := 66) rfl ?_); refine goesL_ (some 9) rfl rfl Try.func66 (by kernel_rfl) rfl #[.pointer (some ⟨g, 0, none⟩), .int .i64 1000] rfl (by (try simp only [List.map_toArray, List.map_cons, List.map_nil]); first | done | rfl | (simp only [List.length_drop, List.length_take]; rfl)) ?_; (with_reducible refine (spec_l00Src_next.calls g s0_0 t395 t396 1000 t397 t398 t399 w0 _ ?side1 ?side2 A4.out).mono ?_); (case side1 => repeat (first | (with_reducible first | exact HI0.out | apply IsS71.alloc | apply IsS71.drewN | apply IsS71.drew | apply IsS71.set_1 | apply IsS71.set_2 | refine IsS71.far ?_ NB0_390.out _) | exact HI0.out)); (case side2 => repeat (first | (with_reducible first | exact HB.out | apply below_alloc | apply pw_below_drewN | apply below_drew1 | refine below_set ?_ (IsS71.ge HI0.out) | refine below_set ?_ GE390.out) | exact HB.out)); rintro e w12 ⟨rfl, hi, hb, hk⟩; refine ⟨_, rfl, ?_⟩; have n0_ := Aside0.mk (KeepBut.blk hk (g' := gb390) (o := .cells #[.string (⟨#[]⟩ : ByteArray), .string (⟨#[]⟩ : ByteArray), .int .i64 0, .int .i64 0, .int .i64 0, .bool false] 35 (0, 0)) (by (with_reducible repeat (first | refine blk_drewN ?_ _ | refine blk_drew ?_ | refine blk_alloc ?_ _)); exact BK390.out) NB390_0.out (by simp)); have n1_ := Aside0.mk (KeepBut.trans (by repeat (first | (with_reducible first | exact HK.out | apply KeepBut.set_ | apply keep_drewN | apply keep_drew | apply keep_alloc | refine keep_far ?_ GW390.out _) | exact HK.out)) hk (.inl rfl)); have n2_ := Aside0.mk (hb); have n3_ := Aside0.mk (hi); clear BK390; clear HK; clear HB; clear HI0; have BK390 := n0_; have HK := n1_; have HB := n2_; have HI0 := n3_; clear n0_ n1_ n2_ n3_; (try clear hb); (try clear hb2); (try clear hk); (try clear hi)) | ((with_reducible refine gate_callee (f := 66) rfl ?_); refine goesL_ (some 12) rfl rfl Try.func66 (by kernel_rfl) rfl #[.pointer (some ⟨g, 0, none⟩), .int .i64 1000] rfl (by (try simp only [List.map_toArray, List.map_cons, List.map_nil]); first | done | rfl | (simp only [List.length_drop, List.length_take]; rfl)) ?_; (with_reducible refine (spec_l00Src_next.calls g s0_0 t398 t399 1000 t400 t401 t402 w0 _ ?side1 ?side2 A5.out).mono ?_); (case side1 => repeat (first | (with_reducible first | exact HI0.out | apply IsS71.alloc | apply IsS71.drewN | apply IsS71.drew | apply IsS71.set_1 | apply IsS71.set_2 | refine IsS71.far ?_ NB0_390.out _) | exact HI0.out)); (case side2 => repeat (first | (with_reducible first | exact HB.out | apply below_alloc | apply pw_below_drewN | apply below_drew1 | refine below_set ?_ (IsS71.ge HI0.out) | refine below_set ?_ GE390.out) | exact HB.out)); rintro e w13 ⟨rfl, hi, hb, hk⟩; refine ⟨_, rfl, ?_⟩; have n0_ := Aside0.mk (KeepBut.blk hk (g' := gb390) (o := .cells #[.string (⟨#[]⟩ : ByteArray), .string (⟨#[]⟩ : ByteArray), .int .i64 0, .int .i64 0, .int .i64 0, .bool false] 35 (0, 0)) (by (with_reducible repeat (first | refine blk_drewN ?_ _ | refine blk_drew ?_ | refine blk_alloc ?_ _)); exact BK390.out) NB390_0.out (by simp)); have n1_ := Aside0.mk (KeepBut.trans (by repeat (first | (with_reducible first | exact HK.out | apply KeepBut.set_ | apply keep_drewN | apply keep_drew | apply keep_alloc | refine keep_far ?_ GW390.out _) | exact HK.out)) hk (.inl rfl)); have n2_ := Aside0.mk (hb); have n3_ := Aside0.mk (hi); clear BK390; clear HK; clear HB; clear HI0; have BK390 := n0_; have HK := n1_; have HB := n2_; have HI0 := n3_; clear n0_ n1_ n2_ n3_; (try clear hb); (try clear hb2); (try clear hk); (try clear hi)) | ((with_reducible refine gate_dst (N := 3) rfl ?_); refine box_event ?hg (N := 3) ?hd (cs := #[.string (⟨#[]⟩ : ByteArray), .string (⟨#[]⟩ : ByteArray), .int .i64 0, .int .i64 0, .int .i64 0, .bool false]) (t := 35) ?hr ?_; (case hd => rfl); (case hg => rfl); (case hr => first | (go_simp; done) | (go_simp; rfl)); intro gb403 hg w14 hbox hb; have n0_ := Aside0.mk (IsS71.below (by repeat (first | (with_reducible first | exact HI0.out | apply IsS71.alloc | apply IsS71.drewN | apply IsS71.drew | apply IsS71.set_1 | apply IsS71.set_2 | refine IsS71.far ?_ NB0_390.out _) | exact HI0.out)) hb); have n1_ := Aside0.mk (blk_below (g := gb390) (o := .cells #[.string (⟨#[]⟩ : ByteArray), .string (⟨#[]⟩ : ByteArray), .int .i64 0, .int .i64 0, .int .i64 0, .bool false] 35 (0, 0)) (by (with_reducible repeat (first | refine blk_drewN ?_ _ | refine blk_drew ?_ | refine blk_alloc ?_ _)); exact BK390.out) hb); have n2_ := Aside0.mk (KeepBut.trans (by repeat (first | (with_reducible first | exact HK.out | apply KeepBut.set_ | apply keep_drewN | apply keep_drew | apply keep_alloc | refine keep_far ?_ GW390.out _) | exact HK.out)) (KeepBut.of_below hb g none) (.inl rfl)); have n3_ := Aside0.mk (below_step (by repeat (first | (with_reducible first | exact HB.out | apply below_alloc | apply pw_below_drewN | apply below_drew1 | refine below_set ?_ (IsS71.ge HI0.out) | refine below_set ?_ GE390.out) | exact HB.out)) hb); have n4_ := Aside0.mk (hbox); have n5_ := Aside0.mk ((by rw [hg]; exact (keep_size (w := w) (g := g) (row := none) (by repeat (first | (with_reducible first | exact HK.out | apply KeepBut.set_ | apply keep_drewN | apply keep_drew | apply keep_alloc | refine keep_far ?_ GW390.out _) | exact HK.out))) : w.heap.size ≤ gb403)); have n6_ := Aside0.mk ((Nat.le_trans HW0.out (by rw [hg]; exact (keep_size (w := w) (g := g) (row := none) (by repeat (first | (with_reducible first | exact HK.out | apply KeepBut.set_ | apply keep_drewN | apply keep_drew | apply keep_alloc | refine keep_far ?_ GW390.out _) | exact HK.out))) : w.heap.size ≤ gb403) : w0.heap.size ≤ gb403)); have n7_ := Aside0.mk ((by rw [hg]; exact Nat.ne_of_lt (blk_lt (g := gb390) (o := .cells #[.string (⟨#[]⟩ : ByteArray), .string (⟨#[]⟩ : ByteArray), .int .i64 0, .int .i64 0, .int .i64 0, .bool false] 35 (0, 0)) (by (with_reducible repeat (first | refine blk_drewN ?_ _ | refine blk_drew ?_ | refine blk_alloc ?_ _)); exact BK390.out)) : gb390 ≠ gb403)); have n8_ := Aside0.mk ((by rw [hg]; exact Nat.ne_of_gt (blk_lt (g := gb390) (o := .cells #[.string (⟨#[]⟩ : ByteArray), .string (⟨#[]⟩ : ByteArray), .int .i64 0, .int .i64 0, .int .i64 0, .bool false] 35 (0, 0)) (by (with_reducible repeat (first | refine blk_drewN ?_ _ | refine blk_drew ?_ | refine blk_alloc ?_ _)); exact BK390.out)) : gb403 ≠ gb390)); have n9_ := Aside0.mk ((by rw [hg]; exact Nat.ne_of_lt (IsS71.lt (show IsS71 w0 _ g s0_0 t401 t402 from by repeat (first | (with_reducible first | exact HI0.out | apply IsS71.alloc | apply IsS71.drewN | apply IsS71.drew | apply IsS71.set_1 | apply IsS71.set_2 | refine IsS71.far ?_ NB0_390.out _) | exact HI0.out))) : g ≠ gb403)); have n10_ := Aside0.mk ((by rw [hg]; exact Nat.ne_of_gt (IsS71.lt (show IsS71 w0 _ g s0_0 t401 t402 from by repeat (first | (with_reducible first | exact HI0.out | apply IsS71.alloc | apply IsS71.drewN | apply IsS71.drew | apply IsS71.set_1 | apply IsS71.set_2 | refine IsS71.far ?_ NB0_390.out _) | exact HI0.out))) : gb403 ≠ g)); clear HI0; clear BK390; clear HK; clear HB; have HI0 := n0_; have BK390 := n1_; have HK := n2_; have HB := n3_; have BK403 := n4_; have GW403 := n5_; have GE403 := n6_; have NB390_403 := n7_; have NB403_390 := n8_; have NB0_403 := n9_; have NB403_0 := n10_; clear n0_ n1_ n2_ n3_ n4_ n5_ n6_ n7_ n8_ n9_ n10_; clear hb hbox hg; have hnb15 := NB403_390.out; have hnc15 := NB390_403.out; have hnb16 := NB403_0.out; have hnc16 := NB0_403.out; have hcz17_0 : w14.cell? ⟨gb403, 0, none⟩ = some (.string (⟨#[]⟩ : ByteArray)) := (blk_cell BK403.out 0).trans rfl; have hcz17_1 : w14.cell? ⟨gb403, 1, none⟩ = some (.string (⟨#[]⟩ : ByteArray)) := (blk_cell BK403.out 1).trans rfl; have hcz17_2 : w14.cell? ⟨gb403, 2, none⟩ = some (.int .i64 0) := (blk_cell BK403.out 2).trans rfl; have hcz17_3 : w14.cell? ⟨gb403, 3, none⟩ = some (.int .i64 0) := (blk_cell BK403.out 3).trans rfl; have hcz17_4 : w14.cell? ⟨gb403, 4, none⟩ = some (.int .i64 0) := (blk_cell BK403.out 4).trans rfl; have hcz17_5 : w14.cell? ⟨gb403, 5, none⟩ = some (.bool false) := (blk_cell BK403.out 5).trans rfl; have hfz17_0 := blk_frozen BK403.out 0; have hfz17_1 := blk_frozen BK403.out 1; have hfz17_2 := blk_frozen BK403.out 2; have hfz17_3 := blk_frozen BK403.out 3; have hfz17_4 := blk_frozen BK403.out 4; have hfz17_5 := blk_frozen BK403.out 5) | ((with_reducible refine gate_callee (f := 66) rfl ?_); refine goesL_ (some 18) rfl rfl Try.func66 (by kernel_rfl) rfl #[.pointer (some ⟨g, 0, none⟩), .int .i64 (wrap64 (1 + t397))] rfl (by (try simp only [List.map_toArray, List.map_cons, List.map_nil]); first | done | rfl | (simp only [List.length_drop, List.length_take]; rfl)) ?_; (with_reducible refine (spec_l00Src_next.calls g s0_0 t401 t402 (wrap64 (1 + t397)) t404 t405 t406 w0 _ ?side1 ?side2 A6.out).mono ?_); (case side1 => repeat (first | (with_reducible first | exact HI0.out | apply IsS71.alloc | apply IsS71.drewN | apply IsS71.drew | apply IsS71.set_1 | apply IsS71.set_2 | refine IsS71.far ?_ NB0_390.out _ | refine IsS71.far ?_ NB0_403.out _) | exact HI0.out)); (case side2 => repeat (first | (with_reducible first | exact HB.out | apply below_alloc | apply pw_below_drewN | apply below_drew1 | refine below_set ?_ (IsS71.ge HI0.out) | refine below_set ?_ GE390.out | refine below_set ?_ GE403.out) | exact HB.out)); rintro e w18 ⟨rfl, hi, hb, hk⟩; refine ⟨_, rfl, ?_⟩; have n0_ := Aside0.mk (KeepBut.blk hk (g' := gb390) (o := .cells #[.string (⟨#[]⟩ : ByteArray), .string (⟨#[]⟩ : ByteArray), .int .i64 0, .int .i64 0, .int .i64 0, .bool false] 35 (0, 0)) (by (with_reducible repeat (first | refine blk_drewN ?_ _ | refine blk_drew ?_ | refine blk_alloc ?_ _)); refine blk_far ?_ NB390_403.out _; (with_reducible repeat (first | refine blk_drewN ?_ _ | refine blk_drew ?_ | refine blk_alloc ?_ _)); refine blk_far ?_ NB390_403.out _; (with_reducible repeat (first | refine blk_drewN ?_ _ | refine blk_drew ?_ | refine blk_alloc ?_ _)); refine blk_far ?_ NB390_403.out _; (with_reducible repeat (first | refine blk_drewN ?_ _ | refine blk_drew ?_ | refine blk_alloc ?_ _)); refine blk_far ?_ NB390_403.out _; (with_reducible repeat (first | refine blk_drewN ?_ _ | refine blk_drew ?_ | refine blk_alloc ?_ _)); refine blk_far ?_ NB390_403.out _; (with_reducible repeat (first | refine blk_drewN ?_ _ | refine blk_drew ?_ | refine blk_alloc ?_ _)); refine blk_far ?_ NB390_403.out _; (with_reducible repeat (first | refine blk_drewN ?_ _ | refine blk_drew ?_ | refine blk_alloc ?_ _)); exact BK390.out) NB390_0.out (by simp)); have n1_ := Aside0.mk (KeepBut.blk hk (g' := gb403) (o := .cells #[.string t391, .string t394, .int .i64 (wrap64 (1 + t397)), .int .i64 (wrap64 (1 + t400)), .int .i64 0, .bool true] 35 (0, 0)) (by (with_reducible repeat (first | refine blk_drewN ?_ _ | refine blk_drew ?_ | refine blk_alloc ?_ _)); refine blk_put (cs := #[.string t391, .string t394, .int .i64 (wrap64 (1 + t397)), .int .i64 (wrap64 (1 + t400)), .int .i64 0, .bool false]) ?_ 5 _ rfl; (with_reducible repeat (first | refine blk_drewN ?_ _ | refine blk_drew ?_ | refine blk_alloc ?_ _)); refine blk_put (cs := #[.string t391, .string t394, .int .i64 (wrap64 (1 + t397)), .int .i64 (wrap64 (1 + t400)), .int .i64 0, .bool false]) ?_ 4 _ rfl; (with_reducible repeat (first | refine blk_drewN ?_ _ | refine blk_drew ?_ | refine blk_alloc ?_ _)); refine blk_put (cs := #[.string t391, .string t394, .int .i64 (wrap64 (1 + t397)), .int .i64 0, .int .i64 0, .bool false]) ?_ 3 _ rfl; (with_reducible repeat (first | refine blk_drewN ?_ _ | refine blk_drew ?_ | refine blk_alloc ?_ _)); refine blk_put (cs := #[.string t391, .string t394, .int .i64 0, .int .i64 0, .int .i64 0, .bool false]) ?_ 2 _ rfl; (with_reducible repeat (first | refine blk_drewN ?_ _ | refine blk_drew ?_ | refine blk_alloc ?_ _)); refine blk_put (cs := #[.string t391, .string (⟨#[]⟩ : ByteArray), .int .i64 0, .int .i64 0, .int .i64 0, .bool false]) ?_ 1 _ rfl; (with_reducible repeat (first | refine blk_drewN ?_ _ | refine blk_drew ?_ | refine blk_alloc ?_ _)); refine blk_put (cs := #[.string (⟨#[]⟩ : ByteArray), .string (⟨#[]⟩ : ByteArray), .int .i64 0, .int .i64 0, .int .i64 0, .bool false]) ?_ 0 _ rfl; (with_reducible repeat (first | refine blk_drewN ?_ _ | refine blk_drew ?_ | refine blk_alloc ?_ _)); exact BK403.out) NB403_0.out (by simp)); have n2_ := Aside0.mk (KeepBut.trans (by repeat (first | (with_reducible first | exact HK.out | apply KeepBut.set_ | apply keep_drewN | apply keep_drew | apply keep_alloc | refine keep_far ?_ GW390.out _ | refine keep_far ?_ GW403.out _) | exact HK.out)) hk (.inl rfl)); have n3_ := Aside0.mk (hb); have n4_ := Aside0.mk (hi); clear BK390; clear BK403; clear HK; clear HB; clear HI0; have BK390 := n0_; have BK403 := n1_; have HK := n2_; have HB := n3_; have HI0 := n4_; clear n0_ n1_ n2_ n3_ n4_; (try clear hb); (try clear hb2); (try clear hk); (try clear hi); have hcz19_0 : w18.cell? ⟨gb403, 0, none⟩ = some (.string t391) := (blk_cell BK403.out 0).trans rfl; have hcz19_1 : w18.cell? ⟨gb403, 1, none⟩ = some (.string t394) := (blk_cell BK403.out 1).trans rfl; have hcz19_2 : w18.cell? ⟨gb403, 2, none⟩ = some (.int .i64 (wrap64 (1 + t397))) := (blk_cell BK403.out 2).trans rfl; have hcz19_3 : w18.cell? ⟨gb403, 3, none⟩ = some (.int .i64 (wrap64 (1 + t400))) := (blk_cell BK403.out 3).trans rfl; have hcz19_4 : w18.cell? ⟨gb403, 4, none⟩ = some (.int .i64 0) := (blk_cell BK403.out 4).trans rfl; have hcz19_5 : w18.cell? ⟨gb403, 5, none⟩ = some (.bool true) := (blk_cell BK403.out 5).trans rfl; have hfz19_0 := blk_frozen BK403.out 0; have hfz19_1 := blk_frozen BK403.out 1; have hfz19_2 := blk_frozen BK403.out 2; have hfz19_3 := blk_frozen BK403.out 3; have hfz19_4 := blk_frozen BK403.out 4; have hfz19_5 := blk_frozen BK403.out 5) | ((with_reducible refine gate_callee (f := 67) rfl ?_); refine goesL_ (some 22) rfl rfl Try.func67 (by kernel_rfl) rfl #[.pointer (some ⟨g, 0, none⟩), .int .i64 5] rfl (by (try simp only [List.map_toArray, List.map_cons, List.map_nil]); first | done | rfl | (simp only [List.length_drop, List.length_take]; rfl)) ?_; (with_reducible refine (spec_l00Src_chance.calls g s0_0 t405 t406 5 true t408 t409 w0 _ ?side1 ?side2 A7.out).mono ?_); (case side1 => repeat (first | (with_reducible first | exact HI0.out | apply IsS71.alloc | apply IsS71.drewN | apply IsS71.drew | apply IsS71.set_1 | apply IsS71.set_2 | refine IsS71.far ?_ NB0_390.out _ | refine IsS71.far ?_ NB0_403.out _) | exact HI0.out)); (case side2 => repeat (first | (with_reducible first | exact HB.out | apply below_alloc | apply pw_below_drewN | apply below_drew1 | refine below_set ?_ (IsS71.ge HI0.out) | refine below_set ?_ GE390.out | refine below_set ?_ GE403.out) | exact HB.out)); rintro e w20 ⟨rfl, hi, hb, hk⟩; refine ⟨_, rfl, ?_⟩; have n0_ := Aside0.mk (KeepBut.blk hk (g' := gb390) (o := .cells #[.string (⟨#[]⟩ : ByteArray), .string (⟨#[]⟩ : ByteArray), .int .i64 0, .int .i64 0, .int .i64 0, .bool false] 35 (0, 0)) (by (with_reducible repeat (first | refine blk_drewN ?_ _ | refine blk_drew ?_ | refine blk_alloc ?_ _)); refine blk_far ?_ NB390_403.out _; (with_reducible repeat (first | refine blk_drewN ?_ _ | refine blk_drew ?_ | refine blk_alloc ?_ _)); exact BK390.out) NB390_0.out (by simp)); have n1_ := Aside0.mk (KeepBut.blk hk (g' := gb403) (o := .cells #[.string t391, .string t394, .int .i64 (wrap64 (1 + t397)), .int .i64 (wrap64 (1 + t400)), .int .i64 (wrap64 (1 + t404)), .bool true] 35 (0, 0)) (by (with_reducible repeat (first | refine blk_drewN ?_ _ | refine blk_drew ?_ | refine blk_alloc ?_ _)); refine blk_put (cs := #[.string t391, .string t394, .int .i64 (wrap64 (1 + t397)), .int .i64 (wrap64 (1 + t400)), .int .i64 0, .bool true]) ?_ 4 _ rfl; (with_reducible repeat (first | refine blk_drewN ?_ _ | refine blk_drew ?_ | refine blk_alloc ?_ _)); exact BK403.out) NB403_0.out (by simp)); have n2_ := Aside0.mk (KeepBut.trans (by repeat (first | (with_reducible first | exact HK.out | apply KeepBut.set_ | apply keep_drewN | apply keep_drew | apply keep_alloc | refine keep_far ?_ GW390.out _ | refine keep_far ?_ GW403.out _) | exact HK.out)) hk (.inl rfl)); have n3_ := Aside0.mk (hb); have n4_ := Aside0.mk (hi); clear BK390; clear BK403; clear HK; clear HB; clear HI0; have BK390 := n0_; have BK403 := n1_; have HK := n2_; have HB := n3_; have HI0 := n4_; clear n0_ n1_ n2_ n3_ n4_; (try clear hb); (try clear hb2); (try clear hk); (try clear hi); have hcz21_0 : w20.cell? ⟨gb403, 0, none⟩ = some (.string t391) := (blk_cell BK403.out 0).trans rfl; have hcz21_1 : w20.cell? ⟨gb403, 1, none⟩ = some (.string t394) := (blk_cell BK403.out 1).trans rfl; have hcz21_2 : w20.cell? ⟨gb403, 2, none⟩ = some (.int .i64 (wrap64 (1 + t397))) := (blk_cell BK403.out 2).trans rfl; have hcz21_3 : w20.cell? ⟨gb403, 3, none⟩ = some (.int .i64 (wrap64 (1 + t400))) := (blk_cell BK403.out 3).trans rfl; have hcz21_4 : w20.cell? ⟨gb403, 4, none⟩ = some (.int .i64 (wrap64 (1 + t404))) := (blk_cell BK403.out 4).trans rfl; have hcz21_5 : w20.cell? ⟨gb403, 5, none⟩ = some (.bool true) := (blk_cell BK403.out 5).trans rfl; have hfz21_0 := blk_frozen BK403.out 0; have hfz21_1 := blk_frozen BK403.out 1; have hfz21_2 := blk_frozen BK403.out 2; have hfz21_3 := blk_frozen BK403.out 3; have hfz21_4 := blk_frozen BK403.out 4; have hfz21_5 := blk_frozen BK403.out 5; have hnb22 := NB390_0.out; have hnc22 := NB0_390.out; have hcz23_0 : w20.cell? ⟨gb390, 0, none⟩ = some (.string (⟨#[]⟩ : ByteArray)) := (blk_cell BK390.out 0).trans rfl; have hcz23_1 : w20.cell? ⟨gb390, 1, none⟩ = some (.string (⟨#[]⟩ : ByteArray)) := (blk_cell BK390.out 1).trans rfl; have hcz23_2 : w20.cell? ⟨gb390, 2, none⟩ = some (.int .i64 0) := (blk_cell BK390.out 2).trans rfl; have hcz23_3 : w20.cell? ⟨gb390, 3, none⟩ = some (.int .i64 0) := (blk_cell BK390.out 3).trans rfl; have hcz23_4 : w20.cell? ⟨gb390, 4, none⟩ = some (.int .i64 0) := (blk_cell BK390.out 4).trans rfl; have hcz23_5 : w20.cell? ⟨gb390, 5, none⟩ = some (.bool false) := (blk_cell BK390.out 5).trans rfl; have hfz23_0 := blk_frozen BK390.out 0; have hfz23_1 := blk_frozen BK390.out 1; have hfz23_2 := blk_frozen BK390.out 2; have hfz23_3 := blk_frozen BK390.out 3; have hfz23_4 := blk_frozen BK390.out 4; have hfz23_5 := blk_frozen BK390.out 5))
    refine bodyPost_ret (results_cell_row rfl _ _ gb390 35 #[.string t391, .string t394, .int .i64 (wrap64 (1 + t397)), .int .i64 (wrap64 (1 + t400)), .int .i64 0, .bool false] (0, 0) _ rfl (by (with_reducible repeat (first | refine blk_drewN ?_ _ | refine blk_drew ?_ | refine blk_alloc ?_ _)); refine blk_put (cs := #[.string t391, .string t394, .int .i64 (wrap64 (1 + t397)), .int .i64 (wrap64 (1 + t400)), .int .i64 0, .bool false]) ?_ 5 _ rfl; (with_reducible repeat (first | refine blk_drewN ?_ _ | refine blk_drew ?_ | refine blk_alloc ?_ _)); refine blk_put (cs := #[.string t391, .string t394, .int .i64 (wrap64 (1 + t397)), .int .i64 (wrap64 (1 + t400)), .int .i64 0, .bool false]) ?_ 4 _ rfl; (with_reducible repeat (first | refine blk_drewN ?_ _ | refine blk_drew ?_ | refine blk_alloc ?_ _)); refine blk_put (cs := #[.string t391, .string t394, .int .i64 (wrap64 (1 + t397)), .int .i64 0, .int .i64 0, .bool false]) ?_ 3 _ rfl; (with_reducible repeat (first | refine blk_drewN ?_ _ | refine blk_drew ?_ | refine blk_alloc ?_ _)); refine blk_put (cs := #[.string t391, .string t394, .int .i64 0, .int .i64 0, .int .i64 0, .bool false]) ?_ 2 _ rfl; (with_reducible repeat (first | refine blk_drewN ?_ _ | refine blk_drew ?_ | refine blk_alloc ?_ _)); refine blk_put (cs := #[.string t391, .string (⟨#[]⟩ : ByteArray), .int .i64 0, .int .i64 0, .int .i64 0, .bool false]) ?_ 1 _ rfl; (with_reducible repeat (first | refine blk_drewN ?_ _ | refine blk_drew ?_ | refine blk_alloc ?_ _)); refine blk_put (cs := #[.string (⟨#[]⟩ : ByteArray), .string (⟨#[]⟩ : ByteArray), .int .i64 0, .int .i64 0, .int .i64 0, .bool false]) ?_ 0 _ rfl; (with_reducible repeat (first | refine blk_drewN ?_ _ | refine blk_drew ?_ | refine blk_alloc ?_ _)); refine blk_far ?_ NB390_403.out _; (with_reducible repeat (first | refine blk_drewN ?_ _ | refine blk_drew ?_ | refine blk_alloc ?_ _)); refine blk_far ?_ NB390_403.out _; (with_reducible repeat (first | refine blk_drewN ?_ _ | refine blk_drew ?_ | refine blk_alloc ?_ _)); exact BK390.out) Try.underlying35 rfl (by kernel_rfl)) rfl ?_
    exact ⟨by first | rfl | (simp [errW_none, errW_some] <;> rfl) | (simp [*, errW_none, errW_some] <;> rfl), by repeat (first | (with_reducible first | exact HI0.out | apply IsS71.alloc | apply IsS71.drewN | apply IsS71.drew | apply IsS71.set_1 | apply IsS71.set_2 | refine IsS71.far ?_ NB0_390.out _ | refine IsS71.far ?_ NB0_403.out _) | exact HI0.out), by repeat (first | (with_reducible first | exact HB.out | apply below_alloc | apply pw_below_drewN | apply below_drew1 | refine below_set ?_ (IsS71.ge HI0.out) | refine below_set ?_ GE390.out | refine below_set ?_ GE403.out) | exact HB.out), by repeat (first | (with_reducible first | exact HK.out | apply KeepBut.set_ | apply keep_drewN | apply keep_drew | apply keep_alloc | refine keep_far ?_ GW390.out _ | refine keep_far ?_ GW403.out _) | exact HK.out)⟩
  · replace c8 := Bool.eq_false_iff.mpr c8
    subst c8
    have H1 : (some (t391, t394, wrap64 (1 + t397), wrap64 (1 + t400), wrap64 (1 + t404), true, t408, t409)) = some (r1, r2, r3, r4, r5, r6, r7, r8) := by rw [if_neg (show ¬ (false = true) by decide)] at H; exact H
    clear H
    have H := H1
    clear H1
    simp only [Option.some.injEq, Prod.mk.injEq] at H
    obtain ⟨rfl, rfl, rfl, rfl, rfl, rfl, rfl, rfl⟩ := H
    go_enter Try.func51, Try.ntmps51
    go_wp2_with (first | ((with_reducible refine gate_dst (N := 2) rfl ?_); refine box_event ?hg (N := 2) ?hd (cs := #[.string (⟨#[]⟩ : ByteArray), .string (⟨#[]⟩ : ByteArray), .int .i64 0, .int .i64 0, .int .i64 0, .bool false]) (t := 35) ?hr ?_; (case hd => rfl); (case hg => rfl); (case hr => first | (go_simp; done) | (go_simp; rfl)); intro gb390 hg w24 hbox hb; have n0_ := Aside0.mk (IsS71.below (by repeat (first | (with_reducible first | exact HI0.out | apply IsS71.alloc | apply IsS71.drewN | apply IsS71.drew | apply IsS71.set_1 | apply IsS71.set_2) | exact HI0.out)) hb); have n1_ := Aside0.mk (KeepBut.trans (by repeat (first | (with_reducible first | exact HK.out | apply KeepBut.set_ | apply keep_drewN | apply keep_drew | apply keep_alloc) | exact HK.out)) (KeepBut.of_below hb g none) (.inl rfl)); have n2_ := Aside0.mk (below_step (by repeat (first | (with_reducible first | exact HB.out | apply below_alloc | apply pw_below_drewN | apply below_drew1 | refine below_set ?_ (IsS71.ge HI0.out)) | exact HB.out)) hb); have n3_ := Aside0.mk (hbox); have n4_ := Aside0.mk ((by rw [hg]; exact (keep_size (w := w) (g := g) (row := none) (by repeat (first | (with_reducible first | exact HK.out | apply KeepBut.set_ | apply keep_drewN | apply keep_drew | apply keep_alloc) | exact HK.out))) : w.heap.size ≤ gb390)); have n5_ := Aside0.mk ((Nat.le_trans HW0.out (by rw [hg]; exact (keep_size (w := w) (g := g) (row := none) (by repeat (first | (with_reducible first | exact HK.out | apply KeepBut.set_ | apply keep_drewN | apply keep_drew | apply keep_alloc) | exact HK.out))) : w.heap.size ≤ gb390) : w0.heap.size ≤ gb390)); have n6_ := Aside0.mk ((by rw [hg]; exact Nat.ne_of_lt (IsS71.lt (show IsS71 w0 _ g s0_0 s0_1 s0_2 from by repeat (first | (with_reducible first | exact HI0.out | apply IsS71.alloc | apply IsS71.drewN | apply IsS71.drew | apply IsS71.set_1 | apply IsS71.set_2) | exact HI0.out))) : g ≠ gb390)); have n7_ := Aside0.mk ((by rw [hg]; exact Nat.ne_of_gt (IsS71.lt (show IsS71 w0 _ g s0_0 s0_1 s0_2 from by repeat (first | (with_reducible first | exact HI0.out | apply IsS71.alloc | apply IsS71.drewN | apply IsS71.drew | apply IsS71.set_1 | apply IsS71.set_2) | exact HI0.out))) : gb390 ≠ g)); clear HI0; clear HK; clear HB; have HI0 := n0_; have HK := n1_; have HB := n2_; have BK390 := n3_; have GW390 := n4_; have GE390 := n5_; have NB0_390 := n6_; have NB390_0 := n7_; clear n0_ n1_ n2_ n3_ n4_ n5_ n6_ n7_; clear hb hbox hg) | ((with_reducible refine gate_callee (f := 64) rfl ?_); refine goesL_ (some 5) rfl rfl Try.func64 (by kernel_rfl) rfl #[.pointer (some ⟨g, 0, none⟩)] rfl (by (try simp only [List.map_toArray, List.map_cons, List.map_nil]); first | done | rfl | (simp only [List.length_drop, List.length_take]; rfl)) ?_; (with_reducible refine (spec_l00Src_orderId.calls g s0_0 s0_1 s0_2 t391 t392 t393 w0 _ ?side1 ?side2 A2.out).mono ?_); (case side1 => repeat (first | (with_reducible first | exact HI0.out | apply IsS71.alloc | apply IsS71.drewN | apply IsS71.drew | apply IsS71.set_1 | apply IsS71.set_2 | refine IsS71.far ?_ NB0_390.out _) | exact HI0.out)); (case side2 => repeat (first | (with_reducible first | exact HB.out | apply below_alloc | apply pw_below_drewN | apply below_drew1 | refine below_set ?_ (IsS71.ge HI0.out) | refine below_set ?_ GE390.out) | exact HB.out)); rintro e w25 ⟨rfl, hi, hb, hk⟩; refine ⟨_, rfl, ?_⟩; have n0_ := Aside0.mk (KeepBut.blk hk (g' := gb390) (o := .cells #[.string (⟨#[]⟩ : ByteArray), .string (⟨#[]⟩ : ByteArray), .int .i64 0, .int .i64 0, .int .i64 0, .bool false] 35 (0, 0)) (by (with_reducible repeat (first | refine blk_drewN ?_ _ | refine blk_drew ?_ | refine blk_alloc ?_ _)); exact BK390.out) NB390_0.out (by simp)); have n1_ := Aside0.mk (KeepBut.trans (by repeat (first | (with_reducible first | exact HK.out | apply KeepBut.set_ | apply keep_drewN | apply keep_drew | apply keep_alloc | refine keep_far ?_ GW390.out _) | exact HK.out)) hk (.inl rfl)); have n2_ := Aside0.mk (hb); have n3_ := Aside0.mk (hi); clear BK390; clear HK; clear HB; clear HI0; have BK390 := n0_; have HK := n1_; have HB := n2_; have HI0 := n3_; clear n0_ n1_ n2_ n3_; (try clear hb); (try clear hb2); (try clear hk); (try clear hi)) | ((with_reducible refine gate_callee (f := 65) rfl ?_); refine goesL_ (some 7) rfl rfl Try.func65 (by kernel_rfl) rfl #[.pointer (some ⟨g, 0, none⟩)] rfl (by (try simp only [List.map_toArray, List.map_cons, List.map_nil]); first | done | rfl | (simp only [List.length_drop, List.length_take]; rfl)) ?_; (with_reducible refine (spec_l00Src_account.calls g s0_0 t392 t393 t394 t395 t396 w0 _ ?side1 ?side2 A3.out).mono ?_); (case side1 => repeat (first | (with_reducible first | exact HI0.out | apply IsS71.alloc | apply IsS71.drewN | apply IsS71.drew | apply IsS71.set_1 | apply IsS71.set_2 | refine IsS71.far ?_ NB0_390.out _) | exact HI0.out)); (case side2 => repeat (first | (with_reducible first | exact HB.out | apply below_alloc | apply pw_below_drewN | apply below_drew1 | refine below_set ?_ (IsS71.ge HI0.out) | refine below_set ?_ GE390.out) | exact HB.out)); rintro e w26 ⟨rfl, hi, hb, hk⟩; refine ⟨_, rfl, ?_⟩; have n0_ := Aside0.mk (KeepBut.blk hk (g' := gb390) (o := .cells #[.string (⟨#[]⟩ : ByteArray), .string (⟨#[]⟩ : ByteArray), .int .i64 0, .int .i64 0, .int .i64 0, .bool false] 35 (0, 0)) (by (with_reducible repeat (first | refine blk_drewN ?_ _ | refine blk_drew ?_ | refine blk_alloc ?_ _)); exact BK390.out) NB390_0.out (by simp)); have n1_ := Aside0.mk (KeepBut.trans (by repeat (first | (with_reducible first | exact HK.out | apply KeepBut.set_ | apply keep_drewN | apply keep_drew | apply keep_alloc | refine keep_far ?_ GW390.out _) | exact HK.out)) hk (.inl rfl)); have n2_ := Aside0.mk (hb); have n3_ := Aside0.mk (hi); clear BK390; clear HK; clear HB; clear HI0; have BK390 := n0_; have HK := n1_; have HB := n2_; have HI0 := n3_; clear n0_ n1_ n2_ n3_; (try clear hb); (try clear hb2); (try clear hk); (try clear hi)) | ((with_reducible refine gate_callee (f := 66) rfl ?_); refine goesL_ (some 9) rfl rfl Try.func66 (by kernel_rfl) rfl #[.pointer (some ⟨g, 0, none⟩), .int .i64 1000] rfl (by (try simp only [List.map_toArray, List.map_cons, List.map_nil]); first | done | rfl | (simp only [List.length_drop, List.length_take]; rfl)) ?_; (with_reducible refine (spec_l00Src_next.calls g s0_0 t395 t396 1000 t397 t398 t399 w0 _ ?side1 ?side2 A4.out).mono ?_); (case side1 => repeat (first | (with_reducible first | exact HI0.out | apply IsS71.alloc | apply IsS71.drewN | apply IsS71.drew | apply IsS71.set_1 | apply IsS71.set_2 | refine IsS71.far ?_ NB0_390.out _) | exact HI0.out)); (case side2 => repeat (first | (with_reducible first | exact HB.out | apply below_alloc | apply pw_below_drewN | apply below_drew1 | refine below_set ?_ (IsS71.ge HI0.out) | refine below_set ?_ GE390.out) | exact HB.out)); rintro e w27 ⟨rfl, hi, hb, hk⟩; refine ⟨_, rfl, ?_⟩; have n0_ := Aside0.mk (KeepBut.blk hk (g' := gb390) (o := .cells #[.string (⟨#[]⟩ : ByteArray), .string (⟨#[]⟩ : ByteArray), .int .i64 0, .int .i64 0, .int .i64 0, .bool false] 35 (0, 0)) (by (with_reducible repeat (first | refine blk_drewN ?_ _ | refine blk_drew ?_ | refine blk_alloc ?_ _)); exact BK390.out) NB390_0.out (by simp)); have n1_ := Aside0.mk (KeepBut.trans (by repeat (first | (with_reducible first | exact HK.out | apply KeepBut.set_ | apply keep_drewN | apply keep_drew | apply keep_alloc | refine keep_far ?_ GW390.out _) | exact HK.out)) hk (.inl rfl)); have n2_ := Aside0.mk (hb); have n3_ := Aside0.mk (hi); clear BK390; clear HK; clear HB; clear HI0; have BK390 := n0_; have HK := n1_; have HB := n2_; have HI0 := n3_; clear n0_ n1_ n2_ n3_; (try clear hb); (try clear hb2); (try clear hk); (try clear hi)) | ((with_reducible refine gate_callee (f := 66) rfl ?_); refine goesL_ (some 12) rfl rfl Try.func66 (by kernel_rfl) rfl #[.pointer (some ⟨g, 0, none⟩), .int .i64 1000] rfl (by (try simp only [List.map_toArray, List.map_cons, List.map_nil]); first | done | rfl | (simp only [List.length_drop, List.length_take]; rfl)) ?_; (with_reducible refine (spec_l00Src_next.calls g s0_0 t398 t399 1000 t400 t401 t402 w0 _ ?side1 ?side2 A5.out).mono ?_); (case side1 => repeat (first | (with_reducible first | exact HI0.out | apply IsS71.alloc | apply IsS71.drewN | apply IsS71.drew | apply IsS71.set_1 | apply IsS71.set_2 | refine IsS71.far ?_ NB0_390.out _) | exact HI0.out)); (case side2 => repeat (first | (with_reducible first | exact HB.out | apply below_alloc | apply pw_below_drewN | apply below_drew1 | refine below_set ?_ (IsS71.ge HI0.out) | refine below_set ?_ GE390.out) | exact HB.out)); rintro e w28 ⟨rfl, hi, hb, hk⟩; refine ⟨_, rfl, ?_⟩; have n0_ := Aside0.mk (KeepBut.blk hk (g' := gb390) (o := .cells #[.string (⟨#[]⟩ : ByteArray), .string (⟨#[]⟩ : ByteArray), .int .i64 0, .int .i64 0, .int .i64 0, .bool false] 35 (0, 0)) (by (with_reducible repeat (first | refine blk_drewN ?_ _ | refine blk_drew ?_ | refine blk_alloc ?_ _)); exact BK390.out) NB390_0.out (by simp)); have n1_ := Aside0.mk (KeepBut.trans (by repeat (first | (with_reducible first | exact HK.out | apply KeepBut.set_ | apply keep_drewN | apply keep_drew | apply keep_alloc | refine keep_far ?_ GW390.out _) | exact HK.out)) hk (.inl rfl)); have n2_ := Aside0.mk (hb); have n3_ := Aside0.mk (hi); clear BK390; clear HK; clear HB; clear HI0; have BK390 := n0_; have HK := n1_; have HB := n2_; have HI0 := n3_; clear n0_ n1_ n2_ n3_; (try clear hb); (try clear hb2); (try clear hk); (try clear hi)) | ((with_reducible refine gate_dst (N := 3) rfl ?_); refine box_event ?hg (N := 3) ?hd (cs := #[.string (⟨#[]⟩ : ByteArray), .string (⟨#[]⟩ : ByteArray), .int .i64 0, .int .i64 0, .int .i64 0, .bool false]) (t := 35) ?hr ?_; (case hd => rfl); (case hg => rfl); (case hr => first | (go_simp; done) | (go_simp; rfl)); intro gb403 hg w29 hbox hb; have n0_ := Aside0.mk (IsS71.below (by repeat (first | (with_reducible first | exact HI0.out | apply IsS71.alloc | apply IsS71.drewN | apply IsS71.drew | apply IsS71.set_1 | apply IsS71.set_2 | refine IsS71.far ?_ NB0_390.out _) | exact HI0.out)) hb); have n1_ := Aside0.mk (blk_below (g := gb390) (o := .cells #[.string (⟨#[]⟩ : ByteArray), .string (⟨#[]⟩ : ByteArray), .int .i64 0, .int .i64 0, .int .i64 0, .bool false] 35 (0, 0)) (by (with_reducible repeat (first | refine blk_drewN ?_ _ | refine blk_drew ?_ | refine blk_alloc ?_ _)); exact BK390.out) hb); have n2_ := Aside0.mk (KeepBut.trans (by repeat (first | (with_reducible first | exact HK.out | apply KeepBut.set_ | apply keep_drewN | apply keep_drew | apply keep_alloc | refine keep_far ?_ GW390.out _) | exact HK.out)) (KeepBut.of_below hb g none) (.inl rfl)); have n3_ := Aside0.mk (below_step (by repeat (first | (with_reducible first | exact HB.out | apply below_alloc | apply pw_below_drewN | apply below_drew1 | refine below_set ?_ (IsS71.ge HI0.out) | refine below_set ?_ GE390.out) | exact HB.out)) hb); have n4_ := Aside0.mk (hbox); have n5_ := Aside0.mk ((by rw [hg]; exact (keep_size (w := w) (g := g) (row := none) (by repeat (first | (with_reducible first | exact HK.out | apply KeepBut.set_ | apply keep_drewN | apply keep_drew | apply keep_alloc | refine keep_far ?_ GW390.out _) | exact HK.out))) : w.heap.size ≤ gb403)); have n6_ := Aside0.mk ((Nat.le_trans HW0.out (by rw [hg]; exact (keep_size (w := w) (g := g) (row := none) (by repeat (first | (with_reducible first | exact HK.out | apply KeepBut.set_ | apply keep_drewN | apply keep_drew | apply keep_alloc | refine keep_far ?_ GW390.out _) | exact HK.out))) : w.heap.size ≤ gb403) : w0.heap.size ≤ gb403)); have n7_ := Aside0.mk ((by rw [hg]; exact Nat.ne_of_lt (blk_lt (g := gb390) (o := .cells #[.string (⟨#[]⟩ : ByteArray), .string (⟨#[]⟩ : ByteArray), .int .i64 0, .int .i64 0, .int .i64 0, .bool false] 35 (0, 0)) (by (with_reducible repeat (first | refine blk_drewN ?_ _ | refine blk_drew ?_ | refine blk_alloc ?_ _)); exact BK390.out)) : gb390 ≠ gb403)); have n8_ := Aside0.mk ((by rw [hg]; exact Nat.ne_of_gt (blk_lt (g := gb390) (o := .cells #[.string (⟨#[]⟩ : ByteArray), .string (⟨#[]⟩ : ByteArray), .int .i64 0, .int .i64 0, .int .i64 0, .bool false] 35 (0, 0)) (by (with_reducible repeat (first | refine blk_drewN ?_ _ | refine blk_drew ?_ | refine blk_alloc ?_ _)); exact BK390.out)) : gb403 ≠ gb390)); have n9_ := Aside0.mk ((by rw [hg]; exact Nat.ne_of_lt (IsS71.lt (show IsS71 w0 _ g s0_0 t401 t402 from by repeat (first | (with_reducible first | exact HI0.out | apply IsS71.alloc | apply IsS71.drewN | apply IsS71.drew | apply IsS71.set_1 | apply IsS71.set_2 | refine IsS71.far ?_ NB0_390.out _) | exact HI0.out))) : g ≠ gb403)); have n10_ := Aside0.mk ((by rw [hg]; exact Nat.ne_of_gt (IsS71.lt (show IsS71 w0 _ g s0_0 t401 t402 from by repeat (first | (with_reducible first | exact HI0.out | apply IsS71.alloc | apply IsS71.drewN | apply IsS71.drew | apply IsS71.set_1 | apply IsS71.set_2 | refine IsS71.far ?_ NB0_390.out _) | exact HI0.out))) : gb403 ≠ g)); clear HI0; clear BK390; clear HK; clear HB; have HI0 := n0_; have BK390 := n1_; have HK := n2_; have HB := n3_; have BK403 := n4_; have GW403 := n5_; have GE403 := n6_; have NB390_403 := n7_; have NB403_390 := n8_; have NB0_403 := n9_; have NB403_0 := n10_; clear n0_ n1_ n2_ n3_ n4_ n5_ n6_ n7_ n8_ n9_ n10_; clear hb hbox hg; have hnb30 := NB403_390.out; have hnc30 := NB390_403.out; have hnb31 := NB403_0.out; have hnc31 := NB0_403.out; have hcz32_0 : w29.cell? ⟨gb403, 0, none⟩ = some (.string (⟨#[]⟩ : ByteArray)) := (blk_cell BK403.out 0).trans rfl; have hcz32_1 : w29.cell? ⟨gb403, 1, none⟩ = some (.string (⟨#[]⟩ : ByteArray)) := (blk_cell BK403.out 1).trans rfl; have hcz32_2 : w29.cell? ⟨gb403, 2, none⟩ = some (.int .i64 0) := (blk_cell BK403.out 2).trans rfl; have hcz32_3 : w29.cell? ⟨gb403, 3, none⟩ = some (.int .i64 0) := (blk_cell BK403.out 3).trans rfl; have hcz32_4 : w29.cell? ⟨gb403, 4, none⟩ = some (.int .i64 0) := (blk_cell BK403.out 4).trans rfl; have hcz32_5 : w29.cell? ⟨gb403, 5, none⟩ = some (.bool false) := (blk_cell BK403.out 5).trans rfl; have hfz32_0 := blk_frozen BK403.out 0; have hfz32_1 := blk_frozen BK403.out 1; have hfz32_2 := blk_frozen BK403.out 2; have hfz32_3 := blk_frozen BK403.out 3; have hfz32_4 := blk_frozen BK403.out 4; have hfz32_5 := blk_frozen BK403.out 5) | ((with_reducible refine gate_callee (f := 66) rfl ?_); refine goesL_ (some 18) rfl rfl Try.func66 (by kernel_rfl) rfl #[.pointer (some ⟨g, 0, none⟩), .int .i64 (wrap64 (1 + t397))] rfl (by (try simp only [List.map_toArray, List.map_cons, List.map_nil]); first | done | rfl | (simp only [List.length_drop, List.length_take]; rfl)) ?_; (with_reducible refine (spec_l00Src_next.calls g s0_0 t401 t402 (wrap64 (1 + t397)) t404 t405 t406 w0 _ ?side1 ?side2 A6.out).mono ?_); (case side1 => repeat (first | (with_reducible first | exact HI0.out | apply IsS71.alloc | apply IsS71.drewN | apply IsS71.drew | apply IsS71.set_1 | apply IsS71.set_2 | refine IsS71.far ?_ NB0_390.out _ | refine IsS71.far ?_ NB0_403.out _) | exact HI0.out)); (case side2 => repeat (first | (with_reducible first | exact HB.out | apply below_alloc | apply pw_below_drewN | apply below_drew1 | refine below_set ?_ (IsS71.ge HI0.out) | refine below_set ?_ GE390.out | refine below_set ?_ GE403.out) | exact HB.out)); rintro e w33 ⟨rfl, hi, hb, hk⟩; refine ⟨_, rfl, ?_⟩; have n0_ := Aside0.mk (KeepBut.blk hk (g' := gb390) (o := .cells #[.string (⟨#[]⟩ : ByteArray), .string (⟨#[]⟩ : ByteArray), .int .i64 0, .int .i64 0, .int .i64 0, .bool false] 35 (0, 0)) (by (with_reducible repeat (first | refine blk_drewN ?_ _ | refine blk_drew ?_ | refine blk_alloc ?_ _)); refine blk_far ?_ NB390_403.out _; (with_reducible repeat (first | refine blk_drewN ?_ _ | refine blk_drew ?_ | refine blk_alloc ?_ _)); refine blk_far ?_ NB390_403.out _; (with_reducible repeat (first | refine blk_drewN ?_ _ | refine blk_drew ?_ | refine blk_alloc ?_ _)); refine blk_far ?_ NB390_403.out _; (with_reducible repeat (first | refine blk_drewN ?_ _ | refine blk_drew ?_ | refine blk_alloc ?_ _)); refine blk_far ?_ NB390_403.out _; (with_reducible repeat (first | refine blk_drewN ?_ _ | refine blk_drew ?_ | refine blk_alloc ?_ _)); refine blk_far ?_ NB390_403.out _; (with_reducible repeat (first | refine blk_drewN ?_ _ | refine blk_drew ?_ | refine blk_alloc ?_ _)); refine blk_far ?_ NB390_403.out _; (with_reducible repeat (first | refine blk_drewN ?_ _ | refine blk_drew ?_ | refine blk_alloc ?_ _)); exact BK390.out) NB390_0.out (by simp)); have n1_ := Aside0.mk (KeepBut.blk hk (g' := gb403) (o := .cells #[.string t391, .string t394, .int .i64 (wrap64 (1 + t397)), .int .i64 (wrap64 (1 + t400)), .int .i64 0, .bool true] 35 (0, 0)) (by (with_reducible repeat (first | refine blk_drewN ?_ _ | refine blk_drew ?_ | refine blk_alloc ?_ _)); refine blk_put (cs := #[.string t391, .string t394, .int .i64 (wrap64 (1 + t397)), .int .i64 (wrap64 (1 + t400)), .int .i64 0, .bool false]) ?_ 5 _ rfl; (with_reducible repeat (first | refine blk_drewN ?_ _ | refine blk_drew ?_ | refine blk_alloc ?_ _)); refine blk_put (cs := #[.string t391, .string t394, .int .i64 (wrap64 (1 + t397)), .int .i64 (wrap64 (1 + t400)), .int .i64 0, .bool false]) ?_ 4 _ rfl; (with_reducible repeat (first | refine blk_drewN ?_ _ | refine blk_drew ?_ | refine blk_alloc ?_ _)); refine blk_put (cs := #[.string t391, .string t394, .int .i64 (wrap64 (1 + t397)), .int .i64 0, .int .i64 0, .bool false]) ?_ 3 _ rfl; (with_reducible repeat (first | refine blk_drewN ?_ _ | refine blk_drew ?_ | refine blk_alloc ?_ _)); refine blk_put (cs := #[.string t391, .string t394, .int .i64 0, .int .i64 0, .int .i64 0, .bool false]) ?_ 2 _ rfl; (with_reducible repeat (first | refine blk_drewN ?_ _ | refine blk_drew ?_ | refine blk_alloc ?_ _)); refine blk_put (cs := #[.string t391, .string (⟨#[]⟩ : ByteArray), .int .i64 0, .int .i64 0, .int .i64 0, .bool false]) ?_ 1 _ rfl; (with_reducible repeat (first | refine blk_drewN ?_ _ | refine blk_drew ?_ | refine blk_alloc ?_ _)); refine blk_put (cs := #[.string (⟨#[]⟩ : ByteArray), .string (⟨#[]⟩ : ByteArray), .int .i64 0, .int .i64 0, .int .i64 0, .bool false]) ?_ 0 _ rfl; (with_reducible repeat (first | refine blk_drewN ?_ _ | refine blk_drew ?_ | refine blk_alloc ?_ _)); exact BK403.out) NB403_0.out (by simp)); have n2_ := Aside0.mk (KeepBut.trans (by repeat (first | (with_reducible first | exact HK.out | apply KeepBut.set_ | apply keep_drewN | apply keep_drew | apply keep_alloc | refine keep_far ?_ GW390.out _ | refine keep_far ?_ GW403.out _) | exact HK.out)) hk (.inl rfl)); have n3_ := Aside0.mk (hb); have n4_ := Aside0.mk (hi); clear BK390; clear BK403; clear HK; clear HB; clear HI0; have BK390 := n0_; have BK403 := n1_; have HK := n2_; have HB := n3_; have HI0 := n4_; clear n0_ n1_ n2_ n3_ n4_; (try clear hb); (try clear hb2); (try clear hk); (try clear hi); have hcz34_0 : w33.cell? ⟨gb403, 0, none⟩ = some (.string t391) := (blk_cell BK403.out 0).trans rfl; have hcz34_1 : w33.cell? ⟨gb403, 1, none⟩ = some (.string t394) := (blk_cell BK403.out 1).trans rfl; have hcz34_2 : w33.cell? ⟨gb403, 2, none⟩ = some (.int .i64 (wrap64 (1 + t397))) := (blk_cell BK403.out 2).trans rfl; have hcz34_3 : w33.cell? ⟨gb403, 3, none⟩ = some (.int .i64 (wrap64 (1 + t400))) := (blk_cell BK403.out 3).trans rfl; have hcz34_4 : w33.cell? ⟨gb403, 4, none⟩ = some (.int .i64 0) := (blk_cell BK403.out 4).trans rfl; have hcz34_5 : w33.cell? ⟨gb403, 5, none⟩ = some (.bool true) := (blk_cell BK403.out 5).trans rfl; have hfz34_0 := blk_frozen BK403.out 0; have hfz34_1 := blk_frozen BK403.out 1; have hfz34_2 := blk_frozen BK403.out 2; have hfz34_3 := blk_frozen BK403.out 3; have hfz34_4 := blk_frozen BK403.out 4; have hfz34_5 := blk_frozen BK403.out 5) | ((with_reducible refine gate_callee (f := 67) rfl ?_); refine goesL_ (some 22) rfl rfl Try.func67 (by kernel_rfl) rfl #[.pointer (some ⟨g, 0, none⟩), .int .i64 5] rfl (by (try simp only [List.map_toArray, List.map_cons, List.map_nil]); first | done | rfl | (simp only [List.length_drop, List.length_take]; rfl)) ?_; (with_reducible refine (spec_l00Src_chance.calls g s0_0 t405 t406 5 false t408 t409 w0 _ ?side1 ?side2 A7.out).mono ?_); (case side1 => repeat (first | (with_reducible first | exact HI0.out | apply IsS71.alloc | apply IsS71.drewN | apply IsS71.drew | apply IsS71.set_1 | apply IsS71.set_2 | refine IsS71.far ?_ NB0_390.out _ | refine IsS71.far ?_ NB0_403.out _) | exact HI0.out)); (case side2 => repeat (first | (with_reducible first | exact HB.out | apply below_alloc | apply pw_below_drewN | apply below_drew1 | refine below_set ?_ (IsS71.ge HI0.out) | refine below_set ?_ GE390.out | refine below_set ?_ GE403.out) | exact HB.out)); rintro e w35 ⟨rfl, hi, hb, hk⟩; refine ⟨_, rfl, ?_⟩; have n0_ := Aside0.mk (KeepBut.blk hk (g' := gb390) (o := .cells #[.string (⟨#[]⟩ : ByteArray), .string (⟨#[]⟩ : ByteArray), .int .i64 0, .int .i64 0, .int .i64 0, .bool false] 35 (0, 0)) (by (with_reducible repeat (first | refine blk_drewN ?_ _ | refine blk_drew ?_ | refine blk_alloc ?_ _)); refine blk_far ?_ NB390_403.out _; (with_reducible repeat (first | refine blk_drewN ?_ _ | refine blk_drew ?_ | refine blk_alloc ?_ _)); exact BK390.out) NB390_0.out (by simp)); have n1_ := Aside0.mk (KeepBut.blk hk (g' := gb403) (o := .cells #[.string t391, .string t394, .int .i64 (wrap64 (1 + t397)), .int .i64 (wrap64 (1 + t400)), .int .i64 (wrap64 (1 + t404)), .bool true] 35 (0, 0)) (by (with_reducible repeat (first | refine blk_drewN ?_ _ | refine blk_drew ?_ | refine blk_alloc ?_ _)); refine blk_put (cs := #[.string t391, .string t394, .int .i64 (wrap64 (1 + t397)), .int .i64 (wrap64 (1 + t400)), .int .i64 0, .bool true]) ?_ 4 _ rfl; (with_reducible repeat (first | refine blk_drewN ?_ _ | refine blk_drew ?_ | refine blk_alloc ?_ _)); exact BK403.out) NB403_0.out (by simp)); have n2_ := Aside0.mk (KeepBut.trans (by repeat (first | (with_reducible first | exact HK.out | apply KeepBut.set_ | apply keep_drewN | apply keep_drew | apply keep_alloc | refine keep_far ?_ GW390.out _ | refine keep_far ?_ GW403.out _) | exact HK.out)) hk (.inl rfl)); have n3_ := Aside0.mk (hb); have n4_ := Aside0.mk (hi); clear BK390; clear BK403; clear HK; clear HB; clear HI0; have BK390 := n0_; have BK403 := n1_; have HK := n2_; have HB := n3_; have HI0 := n4_; clear n0_ n1_ n2_ n3_ n4_; (try clear hb); (try clear hb2); (try clear hk); (try clear hi); have hcz36_0 : w35.cell? ⟨gb403, 0, none⟩ = some (.string t391) := (blk_cell BK403.out 0).trans rfl; have hcz36_1 : w35.cell? ⟨gb403, 1, none⟩ = some (.string t394) := (blk_cell BK403.out 1).trans rfl; have hcz36_2 : w35.cell? ⟨gb403, 2, none⟩ = some (.int .i64 (wrap64 (1 + t397))) := (blk_cell BK403.out 2).trans rfl; have hcz36_3 : w35.cell? ⟨gb403, 3, none⟩ = some (.int .i64 (wrap64 (1 + t400))) := (blk_cell BK403.out 3).trans rfl; have hcz36_4 : w35.cell? ⟨gb403, 4, none⟩ = some (.int .i64 (wrap64 (1 + t404))) := (blk_cell BK403.out 4).trans rfl; have hcz36_5 : w35.cell? ⟨gb403, 5, none⟩ = some (.bool true) := (blk_cell BK403.out 5).trans rfl; have hfz36_0 := blk_frozen BK403.out 0; have hfz36_1 := blk_frozen BK403.out 1; have hfz36_2 := blk_frozen BK403.out 2; have hfz36_3 := blk_frozen BK403.out 3; have hfz36_4 := blk_frozen BK403.out 4; have hfz36_5 := blk_frozen BK403.out 5; have hnb37 := NB390_0.out; have hnc37 := NB0_390.out; have hcz38_0 : w35.cell? ⟨gb390, 0, none⟩ = some (.string (⟨#[]⟩ : ByteArray)) := (blk_cell BK390.out 0).trans rfl; have hcz38_1 : w35.cell? ⟨gb390, 1, none⟩ = some (.string (⟨#[]⟩ : ByteArray)) := (blk_cell BK390.out 1).trans rfl; have hcz38_2 : w35.cell? ⟨gb390, 2, none⟩ = some (.int .i64 0) := (blk_cell BK390.out 2).trans rfl; have hcz38_3 : w35.cell? ⟨gb390, 3, none⟩ = some (.int .i64 0) := (blk_cell BK390.out 3).trans rfl; have hcz38_4 : w35.cell? ⟨gb390, 4, none⟩ = some (.int .i64 0) := (blk_cell BK390.out 4).trans rfl; have hcz38_5 : w35.cell? ⟨gb390, 5, none⟩ = some (.bool false) := (blk_cell BK390.out 5).trans rfl; have hfz38_0 := blk_frozen BK390.out 0; have hfz38_1 := blk_frozen BK390.out 1; have hfz38_2 := blk_frozen BK390.out 2; have hfz38_3 := blk_frozen BK390.out 3; have hfz38_4 := blk_frozen BK390.out 4; have hfz38_5 := blk_frozen BK390.out 5))
    refine bodyPost_ret (results_cell_row rfl _ _ gb390 35 #[.string t391, .string t394, .int .i64 (wrap64 (1 + t397)), .int .i64 (wrap64 (1 + t400)), .int .i64 (wrap64 (1 + t404)), .bool true] (0, 0) _ rfl (by (with_reducible repeat (first | refine blk_drewN ?_ _ | refine blk_drew ?_ | refine blk_alloc ?_ _)); refine blk_put (cs := #[.string t391, .string t394, .int .i64 (wrap64 (1 + t397)), .int .i64 (wrap64 (1 + t400)), .int .i64 (wrap64 (1 + t404)), .bool false]) ?_ 5 _ rfl; (with_reducible repeat (first | refine blk_drewN ?_ _ | refine blk_drew ?_ | refine blk_alloc ?_ _)); refine blk_put (cs := #[.string t391, .string t394, .int .i64 (wrap64 (1 + t397)), .int .i64 (wrap64 (1 + t400)), .int .i64 0, .bool false]) ?_ 4 _ rfl; (with_reducible repeat (first | refine blk_drewN ?_ _ | refine blk_drew ?_ | refine blk_alloc ?_ _)); refine blk_put (cs := #[.string t391, .string t394, .int .i64 (wrap64 (1 + t397)), .int .i64 0, .int .i64 0, .bool false]) ?_ 3 _ rfl; (with_reducible repeat (first | refine blk_drewN ?_ _ | refine blk_drew ?_ | refine blk_alloc ?_ _)); refine blk_put (cs := #[.string t391, .string t394, .int .i64 0, .int .i64 0, .int .i64 0, .bool false]) ?_ 2 _ rfl; (with_reducible repeat (first | refine blk_drewN ?_ _ | refine blk_drew ?_ | refine blk_alloc ?_ _)); refine blk_put (cs := #[.string t391, .string (⟨#[]⟩ : ByteArray), .int .i64 0, .int .i64 0, .int .i64 0, .bool false]) ?_ 1 _ rfl; (with_reducible repeat (first | refine blk_drewN ?_ _ | refine blk_drew ?_ | refine blk_alloc ?_ _)); refine blk_put (cs := #[.string (⟨#[]⟩ : ByteArray), .string (⟨#[]⟩ : ByteArray), .int .i64 0, .int .i64 0, .int .i64 0, .bool false]) ?_ 0 _ rfl; (with_reducible repeat (first | refine blk_drewN ?_ _ | refine blk_drew ?_ | refine blk_alloc ?_ _)); exact BK390.out) Try.underlying35 rfl (by kernel_rfl)) rfl ?_
    exact ⟨by first | rfl | (simp [errW_none, errW_some] <;> rfl) | (simp [*, errW_none, errW_some] <;> rfl), by repeat (first | (with_reducible first | exact HI0.out | apply IsS71.alloc | apply IsS71.drewN | apply IsS71.drew | apply IsS71.set_1 | apply IsS71.set_2 | refine IsS71.far ?_ NB0_390.out _ | refine IsS71.far ?_ NB0_403.out _) | exact HI0.out), by repeat (first | (with_reducible first | exact HB.out | apply below_alloc | apply pw_below_drewN | apply below_drew1 | refine below_set ?_ (IsS71.ge HI0.out) | refine below_set ?_ GE390.out | refine below_set ?_ GE403.out) | exact HB.out), by repeat (first | (with_reducible first | exact HK.out | apply KeepBut.set_ | apply keep_drewN | apply keep_drew | apply keep_alloc | refine keep_far ?_ GW390.out _ | refine keep_far ?_ GW403.out _) | exact HK.out)⟩

end Go.Proofs.Ytppgnndolgmcfaa.Q

namespace Go.Proofs.Ytppgnndolgmcfaa.Q
open Go.RowKit Go.Proofs.YtppgnndolgmcfaaW.PrintWords Go.Proofs.YtppgnndolgmcfaaW.PrintLast Go.Proofs.YtppgnndolgmcfaaW.PrintMore
attribute [local go_sem] max2_int min2_int max_two min_two max_three min_three max_four min_four   -- for this text's walks alone
set_option linter.unusedVariables false
set_option linter.unusedSimpArgs false

/-! ### spec_OrderOf: function 32 -/
def spec_OrderOf.f (l0 : List Int) : Option (ByteArray × ByteArray × Int × Int × Int × Bool) := (spec_l00Source.f l0).bind fun bt411 => ((spec_l00Src_order.f bt411.1 bt411.2.1 bt411.2.2).bind fun bt415 => (some (bt415.1, bt415.2.1, bt415.2.2.1, bt415.2.2.2.1, bt415.2.2.2.2.1, bt415.2.2.2.2.2.1)))
set_option maxHeartbeats 8000000 in
set_option maxRecDepth 100000 in
theorem spec_OrderOf.calls (A0 : Option Addr) (c0 : Nat) (l0 : List Int) (r1 : ByteArray) (r2 : ByteArray) (r3 : Int) (r4 : Int) (r5 : Int) (r6 : Bool) (w : World) (hr0 : Kd.C (Kd.int .u8) w A0 l0.length l0) (hc0 : l0.length ≤ c0) (h : spec_OrderOf.f l0 = some (r1, r2, r3, r4, r5, r6)) :
    Calls Try.prog 32 #[.slice A0 l0.length c0] w fun e w' => e = .returned (.agg #[.string r1, .string r2, .int .i64 r3, .int .i64 r4, .int .i64 r5, .bool r6]) ∧ Below w.heap.size w w' := by
  have hu35 := Try.underlying35
  have HR0 := Aside0.mk hr0
  have HC0 := Aside0.mk hc0
  clear hr0 hc0
  have HB := Aside0.mk (Below.refl w.heap.size w)
  have H : ((spec_l00Source.f l0).bind fun bt411 => ((spec_l00Src_order.f bt411.1 bt411.2.1 bt411.2.2).bind fun bt415 => (some (bt415.1, bt415.2.1, bt415.2.2.1, bt415.2.2.2.1, bt415.2.2.2.2.1, bt415.2.2.2.2.2.1)))) = some (r1, r2, r3, r4, r5, r6) := h
  clear h
  replace H := Option.bind_eq_some_iff.mp H
  obtain ⟨⟨t411, t412, t413⟩, A20, H⟩ := H
  replace H : ((spec_l00Src_order.f t411 t412 t413).bind fun bt415 => (some (bt415.1, bt415.2.1, bt415.2.2.1, bt415.2.2.2.1, bt415.2.2.2.2.1, bt415.2.2.2.2.2.1))) = some (r1, r2, r3, r4, r5, r6) := H
  have A2 := Aside0.mk A20
  clear A20
  replace H := Option.bind_eq_some_iff.mp H
  obtain ⟨⟨t415, t416, t417, t418, t419, t420, t421, t422⟩, A30, H⟩ := H
  replace H : (some (t415, t416, t417, t418, t419, t420)) = some (r1, r2, r3, r4, r5, r6) := H
  have A3 := Aside0.mk A30
  clear A30
  simp only [Option.some.injEq, Prod.mk.injEq] at H
  obtain ⟨rfl, rfl, rfl, rfl, rfl, rfl⟩ := H
  go_enter Try.func32, Try.ntmps32
  go_wp2_with (first | ((with_reducible refine gate_dst (N := 2) rfl ?_); refine box_event ?hg (N := 2) ?hd (cs := #[.string (⟨#[]⟩ : ByteArray), .string (⟨#[]⟩ : ByteArray), .int .i64 0, .int .i64 0, .int .i64 0, .bool false]) (t := 35) ?hr ?_; (case hd => rfl); (case hg => rfl); (case hr => first | (go_simp; done) | (go_simp; rfl)); intro gb410 hg w4 hbox hb; have n0_ := Aside0.mk (below_step (by repeat (first | (with_reducible first | exact HB.out | apply below_alloc | apply pw_below_drewN | apply below_drew1) | exact HB.out)) hb); have n1_ := Aside0.mk (hbox); have n2_ := Aside0.mk ((by rw [hg]; exact (below_size (by repeat (first | (with_reducible first | exact HB.out | apply below_alloc | apply pw_below_drewN | apply below_drew1) | exact HB.out))) : w.heap.size ≤ gb410)); have n3_ := Aside0.mk ((by rw [hg]; exact (below_size (by repeat (first | (with_reducible first | exact HB.out | apply below_alloc | apply pw_below_drewN | apply below_drew1) | exact HB.out))) : w.heap.size ≤ gb410)); clear HB; have HB := n0_; have BK410 := n1_; have GW410 := n2_; have GE410 := n3_; clear n0_ n1_ n2_ n3_; clear hb hbox hg) | ((with_reducible refine gate_callee (f := 50) rfl ?_); refine goesL_ (some 4) rfl rfl Try.func50 (by kernel_rfl) rfl #[.slice A0 l0.length c0] rfl (by (try simp only [List.map_toArray, List.map_cons, List.map_nil]); first | done | rfl | (simp only [List.length_drop, List.length_take]; rfl)) ?_; (with_reducible refine (spec_l00Source.calls _ _ l0 t411 t412 t413 w _ ?side1 ?side2 ?side3 A2.out).mono ?_); (case side1 => repeat (first | (with_reducible first | exact HB.out | apply below_alloc | apply pw_below_drewN | apply below_drew1 | refine below_set ?_ GE410.out) | exact HB.out)); (case side2 => exact HR0.out); (case side3 => exact HC0.out); rintro e w5 ⟨g414, rfl, hi, hb, hb2⟩; refine ⟨_, rfl, ?_⟩; have n0_ := Aside0.mk (blk_below (g := gb410) (o := .cells #[.string (⟨#[]⟩ : ByteArray), .string (⟨#[]⟩ : ByteArray), .int .i64 0, .int .i64 0, .int .i64 0, .bool false] 35 (0, 0)) (by (with_reducible repeat (first | refine blk_drewN ?_ _ | refine blk_drew ?_ | refine blk_alloc ?_ _)); exact BK410.out) hb2); have n1_ := Aside0.mk (hb); have n2_ := Aside0.mk (hi); have n3_ := Aside0.mk (IsS71.ne_blk hi (blk_below (g := gb410) (o := .cells #[.string (⟨#[]⟩ : ByteArray), .string (⟨#[]⟩ : ByteArray), .int .i64 0, .int .i64 0, .int .i64 0, .bool false] 35 (0, 0)) (by (with_reducible repeat (first | refine blk_drewN ?_ _ | refine blk_drew ?_ | refine blk_alloc ?_ _)); exact BK410.out) hb2) (by decide)); have n4_ := Aside0.mk (Ne.symm (IsS71.ne_blk hi (blk_below (g := gb410) (o := .cells #[.string (⟨#[]⟩ : ByteArray), .string (⟨#[]⟩ : ByteArray), .int .i64 0, .int .i64 0, .int .i64 0, .bool false] 35 (0, 0)) (by (with_reducible repeat (first | refine blk_drewN ?_ _ | refine blk_drew ?_ | refine blk_alloc ?_ _)); exact BK410.out) hb2) (by decide))); clear BK410; clear HB; have BK410 := n0_; have HB := n1_; have HI414 := n2_; have NB414_410 := n3_; have NB410_414 := n4_; clear n0_ n1_ n2_ n3_ n4_; (try clear hb); (try clear hb2); (try clear hk); (try clear hi)) | ((with_reducible refine gate_callee (f := 51) rfl ?_); refine goesL_ (some 5) rfl rfl Try.func51 (by kernel_rfl) rfl #[.pointer (some ⟨g414, 0, none⟩)] rfl (by (try simp only [List.map_toArray, List.map_cons, List.map_nil]); first | done | rfl | (simp only [List.length_drop, List.length_take]; rfl)) ?_; (with_reducible refine (spec_l00Src_order.calls g414 t411 t412 t413 t415 t416 t417 t418 t419 t420 t421 t422 w _ ?side1 ?side2 A3.out).mono ?_); (case side1 => repeat (first | (with_reducible first | exact HI414.out | apply IsS71.alloc | apply IsS71.drewN | apply IsS71.drew | apply IsS71.set_1 | apply IsS71.set_2 | refine IsS71.far ?_ NB414_410.out _) | exact HI414.out)); (case side2 => repeat (first | (with_reducible first | exact HB.out | apply below_alloc | apply pw_below_drewN | apply below_drew1 | refine below_set ?_ (IsS71.ge HI414.out) | refine below_set ?_ GE410.out) | exact HB.out)); rintro e w6 ⟨rfl, hi, hb, hk⟩; refine ⟨_, rfl, ?_⟩; have n0_ := Aside0.mk (KeepBut.blk hk (g' := gb410) (o := .cells #[.string (⟨#[]⟩ : ByteArray), .string (⟨#[]⟩ : ByteArray), .int .i64 0, .int .i64 0, .int .i64 0, .bool false] 35 (0, 0)) (by (with_reducible repeat (first | refine blk_drewN ?_ _ | refine blk_drew ?_ | refine blk_alloc ?_ _)); exact BK410.out) NB410_414.out (by simp)); have n1_ := Aside0.mk (hb); have n2_ := Aside0.mk (hi); clear BK410; clear HB; clear HI414; have BK410 := n0_; have HB := n1_; have HI414 := n2_; clear n0_ n1_ n2_; (try clear hb); (try clear hb2); (try clear hk); (try clear hi); have hnb7 := NB410_414.out; have hnc7 := NB414_410.out; have hcz8_0 : w6.cell? ⟨gb410, 0, none⟩ = some (.string (⟨#[]⟩ : ByteArray)) := (blk_cell BK410.out 0).trans rfl; have hcz8_1 : w6.cell? ⟨gb410, 1, none⟩ = some (.string (⟨#[]⟩ : ByteArray)) := (blk_cell BK410.out 1).trans rfl; have hcz8_2 : w6.cell? ⟨gb410, 2, none⟩ = some (.int .i64 0) := (blk_cell BK410.out 2).trans rfl; have hcz8_3 : w6.cell? ⟨gb410, 3, none⟩ = some (.int .i64 0) := (blk_cell BK410.out 3).trans rfl; have hcz8_4 : w6.cell? ⟨gb410, 4, none⟩ = some (.int .i64 0) := (blk_cell BK410.out 4).trans rfl; have hcz8_5 : w6.cell? ⟨gb410, 5, none⟩ = some (.bool false) := (blk_cell BK410.out 5).trans rfl; have hfz8_0 := blk_frozen BK410.out 0; have hfz8_1 := blk_frozen BK410.out 1; have hfz8_2 := blk_frozen BK410.out 2; have hfz8_3 := blk_frozen BK410.out 3; have hfz8_4 := blk_frozen BK410.out 4; have hfz8_5 := blk_frozen BK410.out 5))
  refine bodyPost_ret (results_cell_row rfl _ _ gb410 35 #[.string t415, .string t416, .int .i64 t417, .int .i64 t418, .int .i64 t419, .bool t420] (0, 0) _ rfl (by (with_reducible repeat (first | refine blk_drewN ?_ _ | refine blk_drew ?_ | refine blk_alloc ?_ _)); refine blk_put (cs := #[.string t415, .string t416, .int .i64 t417, .int .i64 t418, .int .i64 t419, .bool false]) ?_ 5 _ rfl; (with_reducible repeat (first | refine blk_drewN ?_ _ | refine blk_drew ?_ | refine blk_alloc ?_ _)); refine blk_put (cs := #[.string t415, .string t416, .int .i64 t417, .int .i64 t418, .int .i64 0, .bool false]) ?_ 4 _ rfl; (with_reducible repeat (first | refine blk_drewN ?_ _ | refine blk_drew ?_ | refine blk_alloc ?_ _)); refine blk_put (cs := #[.string t415, .string t416, .int .i64 t417, .int .i64 0, .int .i64 0, .bool false]) ?_ 3 _ rfl; (with_reducible repeat (first | refine blk_drewN ?_ _ | refine blk_drew ?_ | refine blk_alloc ?_ _)); refine blk_put (cs := #[.string t415, .string t416, .int .i64 0, .int .i64 0, .int .i64 0, .bool false]) ?_ 2 _ rfl; (with_reducible repeat (first | refine blk_drewN ?_ _ | refine blk_drew ?_ | refine blk_alloc ?_ _)); refine blk_put (cs := #[.string t415, .string (⟨#[]⟩ : ByteArray), .int .i64 0, .int .i64 0, .int .i64 0, .bool false]) ?_ 1 _ rfl; (with_reducible repeat (first | refine blk_drewN ?_ _ | refine blk_drew ?_ | refine blk_alloc ?_ _)); refine blk_put (cs := #[.string (⟨#[]⟩ : ByteArray), .string (⟨#[]⟩ : ByteArray), .int .i64 0, .int .i64 0, .int .i64 0, .bool false]) ?_ 0 _ rfl; (with_reducible repeat (first | refine blk_drewN ?_ _ | refine blk_drew ?_ | refine blk_alloc ?_ _)); exact BK410.out) Try.underlying35 rfl (by kernel_rfl)) rfl ?_
  exact ⟨by first | rfl | (simp [errW_none, errW_some] <;> rfl) | (simp [*, errW_none, errW_some] <;> rfl), by repeat (first | (with_reducible first | exact HB.out | apply below_alloc | apply pw_below_drewN | apply below_drew1 | refine below_set ?_ (IsS71.ge HI414.out) | refine below_set ?_ GE410.out) | exact HB.out)⟩

end Go.Proofs.Ytppgnndolgmcfaa.Q

namespace Go.Proofs.Ytppgnndolgmcfaa.Q
open Go.RowKit Go.Proofs.YtppgnndolgmcfaaW.PrintWords Go.Proofs.YtppgnndolgmcfaaW.PrintLast Go.Proofs.YtppgnndolgmcfaaW.PrintMore
attribute [local go_sem] max2_int min2_int max_two min_two max_three min_three max_four min_four   -- for this text's walks alone
set_option linter.unusedVariables false
set_option linter.unusedSimpArgs false

theorem wp_gen {P : Program} {c : Code} {K : Exit → Act → World → Prop} {a : Act} {W : World} (S : World → Prop) (hW : S W) (h : ∀ w', S w' → Code.wp P c K a w') : Code.wp P c K a W := h W hW
/-! ### laws_FnSplit: function 13 -/
mutual
def laws_FnSplit.j0 : Nat → List Int → List Int → Bool → Option (Bool)
  | 0, _, _, _ => none
  | k + 1, x0, x1, x23 => if x23 = true then (some true) else ((spec_OrderOf.f x0).bind fun bt436 => ((laws_at.f x1 0 500).bind fun t443 => ((laws_at.f x1 1 500).bind fun t444 => ((impl_FillOf.f k bt436.1 bt436.2.1 bt436.2.2.1 bt436.2.2.2.1 bt436.2.2.1 true (wrap64 (1 + t443))).bind fun bt445 => ((impl_FillOf.f k bt436.1 bt436.2.1 bt436.2.2.1 bt436.2.2.2.1 bt436.2.2.1 true (wrap64 (1 + t444))).bind fun bt447 => ((impl_FillOf.f k bt436.1 bt436.2.1 bt436.2.2.1 bt436.2.2.2.1 bt436.2.2.1 true (wrap64 ((wrap64 (1 + t443)) + (wrap64 (1 + t444))))).bind fun bt449 => ((spec_FillOf.f k bt436.1 bt436.2.1 bt436.2.2.1 bt436.2.2.2.1 bt436.2.2.1 true (wrap64 ((wrap64 (1 + t443)) + (wrap64 (1 + t444))))).bind fun bt451 => (if bt449.2 = bt451.2 then (if bt449.1 = bt451.1 then (if bt445.2 = 0 then (if bt447.2 = 0 then (laws_FnSplit.j1 k bt445.1 bt445.2 bt447.1 bt447.2 bt449.1 bt449.2 false) else (laws_FnSplit.j1 k bt445.1 bt445.2 bt447.1 bt447.2 bt449.1 bt449.2 (bt447.1 != 0))) else (if bt445.1 = 0 then (if bt447.2 = 0 then (laws_FnSplit.j1 k bt445.1 bt445.2 bt447.1 bt447.2 bt449.1 bt449.2 false) else (laws_FnSplit.j1 k bt445.1 bt445.2 bt447.1 bt447.2 bt449.1 bt449.2 (bt447.1 != 0))) else (laws_FnSplit.j1 k bt445.1 bt445.2 bt447.1 bt447.2 bt449.1 bt449.2 true))) else (laws_FnSplit.j1 k bt445.1 bt445.2 bt447.1 bt447.2 bt449.1 bt449.2 true)) else (laws_FnSplit.j1 k bt445.1 bt445.2 bt447.1 bt447.2 bt449.1 bt449.2 true)))))))))
def laws_FnSplit.j1 : Nat → Int → Int → Int → Int → Int → Int → Bool → Option (Bool)
  | 0, _, _, _, _, _, _, _ => none
  | k + 1, x8, x9, x10, x11, x12, x13, x87 => if x87 = true then (some false) else (if x13 = 0 then (if x9 = 13 then (if x13 = 13 then (some true) else (some (x13 == 17))) else (if x11 = 13 then (if x13 = 13 then (some true) else (some (x13 == 17))) else (if (wrap64 (x8 + x10)) ≤ x12 then (some (decide (x12 ≤ (wrap64 ((wrap64 (x8 + x10)) + 1))))) else (some false)))) else (if x13 = 13 then (some true) else (some (x13 == 17))))
end
def laws_FnSplit.f (k : Nat) (l0 : List Int) (l1 : List Int) : Option (Bool) := if (l0.length : Int) > 1048576 then (laws_FnSplit.j0 k l0 l1 true) else (laws_FnSplit.j0 k l0 l1 (decide ((l1.length : Int) > 1048576)))
theorem laws_FnSplit.mono_l : ∀ k, (∀ y0 y1 y2, LeO (laws_FnSplit.j0 k y0 y1 y2) (laws_FnSplit.j0 (k + 1) y0 y1 y2)) ∧ (∀ y0 y1 y2 y3 y4 y5 y6, LeO (laws_FnSplit.j1 k y0 y1 y2 y3 y4 y5 y6) (laws_FnSplit.j1 (k + 1) y0 y1 y2 y3 y4 y5 y6))
  | 0 => ⟨fun _ _ _ r h => by simp [laws_FnSplit.j0] at h, fun _ _ _ _ _ _ _ r h => by simp [laws_FnSplit.j1] at h⟩
  | k + 1 => by
    obtain ⟨ih0, ih1⟩ := laws_FnSplit.mono_l k
    refine ⟨?_, ?_⟩
    · intro y0 y1 y2
      unfold laws_FnSplit.j0
      repeat' first
      | (with_reducible exact ih0 _ _ _)
      | (with_reducible exact ih1 _ _ _ _ _ _ _)
      | (with_reducible exact impl_FillOf.mono _ _ _ _ _ _ _ _)
      | (with_reducible exact spec_FillOf.mono _ _ _ _ _ _ _ _)
      | (with_reducible exact LeO.refl _)
      | (with_reducible exact LeO.none _)
      | (with_reducible refine LeO.ite ?_ ?_)
      | (with_reducible refine LeO.bind ?_ (fun _ => ?_))
      | exact ih0 _ _ _
      | exact ih1 _ _ _ _ _ _ _
      | exact impl_FillOf.mono _ _ _ _ _ _ _ _
      | exact spec_FillOf.mono _ _ _ _ _ _ _ _
      | exact LeO.none _
      | refine LeO.ite ?_ ?_
      | refine LeO.bind ?_ (fun _ => ?_)
    · intro y0 y1 y2 y3 y4 y5 y6
      unfold laws_FnSplit.j1
      repeat' first
      | (with_reducible exact ih0 _ _ _)
      | (with_reducible exact ih1 _ _ _ _ _ _ _)
      | (with_reducible exact impl_FillOf.mono _ _ _ _ _ _ _ _)
      | (with_reducible exact spec_FillOf.mono _ _ _ _ _ _ _ _)
      | (with_reducible exact LeO.refl _)
      | (with_reducible exact LeO.none _)
      | (with_reducible refine LeO.ite ?_ ?_)
      | (with_reducible refine LeO.bind ?_ (fun _ => ?_))
      | exact ih0 _ _ _
      | exact ih1 _ _ _ _ _ _ _
      | exact impl_FillOf.mono _ _ _ _ _ _ _ _
      | exact spec_FillOf.mono _ _ _ _ _ _ _ _
      | exact LeO.none _
      | refine LeO.ite ?_ ?_
      | refine LeO.bind ?_ (fun _ => ?_)
theorem laws_FnSplit.mono : ∀ a0 a1 k, LeO (laws_FnSplit.f k a0 a1) (laws_FnSplit.f (k + 1) a0 a1) := by
  intro a0 a1 k
  obtain ⟨ih0, ih1⟩ := laws_FnSplit.mono_l k
  unfold laws_FnSplit.f
  repeat' first
      | (with_reducible exact ih0 _ _ _)
      | (with_reducible exact ih1 _ _ _ _ _ _ _)
      | (with_reducible exact impl_FillOf.mono _ _ _ _ _ _ _ _)
      | (with_reducible exact spec_FillOf.mono _ _ _ _ _ _ _ _)
      | (with_reducible exact LeO.refl _)
      | (with_reducible exact LeO.none _)
      | (with_reducible refine LeO.ite ?_ ?_)
      | (with_reducible refine LeO.bind ?_ (fun _ => ?_))
      | exact ih0 _ _ _
      | exact ih1 _ _ _ _ _ _ _
      | exact impl_FillOf.mono _ _ _ _ _ _ _ _
      | exact spec_FillOf.mono _ _ _ _ _ _ _ _
      | exact LeO.none _
      | refine LeO.ite ?_ ?_
      | refine LeO.bind ?_ (fun _ => ?_)
set_option maxHeartbeats 8000000 in
set_option maxRecDepth 100000 in
theorem laws_FnSplit.calls (k : Nat) (A0 : Option Addr) (c0 : Nat) (l0 : List Int) (A1 : Option Addr) (c1 : Nat) (l1 : List Int) (r : Bool) (w : World) (hr0 : Kd.C (Kd.int .u8) w A0 l0.length l0) (hc0 : l0.length ≤ c0) (hr1 : Kd.C (Kd.int .u8) w A1 l1.length l1) (hc1 : l1.length ≤ c1) (h : laws_FnSplit.f k l0 l1 = some r) :
    Calls Try.prog 13 #[.slice A0 l0.length c0, .slice A1 l1.length c1] w fun e w' => e = .returned (.bool r) ∧ Below w.heap.size w w' := by
  have hu35 := Try.underlying35
  have HR0 := Aside0.mk hr0
  have HC0 := Aside0.mk hc0
  clear hr0 hc0
  have HR1 := Aside0.mk hr1
  have HC1 := Aside0.mk hc1
  clear hr1 hc1
  have HB := Aside0.mk (Below.refl w.heap.size w)
  have H : (if (l0.length : Int) > 1048576 then (laws_FnSplit.j0 k l0 l1 true) else (laws_FnSplit.j0 k l0 l1 (decide ((l1.length : Int) > 1048576)))) = some r := h
  clear h
  have HC3 := Aside0.mk H
  clear H
  go_enter Try.func13, Try.ntmps13
  go_upto_region 1 with (fail)
  go_cut [23] (fun v23 wc => ∃ (kq : Nat) (x23_2 : Bool), v23 = .bool x23_2 ∧ Aside0 (laws_FnSplit.j0 kq l0 l1 x23_2 = some r) ∧ Aside0 (kq ≤ k) ∧ Aside0 (Below w.heap.size w wc))
  case first =>
    have H := HC3.out
    clear HC3
    by_cases c4 : (l0.length : Int) > 1048576
    · rw [if_pos c4] at H
      have c4b0 : decide (1048576 < (l0.length : Int)) = true := decide_eq_true c4
      have c4b1 : decide (1048576 < l0.length) = true := decide_eq_true (by omega)
      clear c4
      (first | rw [c4b0] | (simp only [i64_w, i32_w]; rw [c4b0]) | skip)
      have H' := Aside0.mk H
      clear H
      go_wp2
      go_meet
      case rel => exact ⟨_, (true), (by first | rfl | (simp; done) | (simp [*]; done)), H', ⟨by first | omega | exact Nat.le_refl _⟩, ⟨by repeat (first | (with_reducible first | exact HB.out | apply below_alloc | apply pw_below_drewN | apply below_drew1) | exact HB.out)⟩⟩
    · rw [if_neg c4] at H
      have c4b0 : decide (1048576 < (l0.length : Int)) = false := decide_eq_false c4
      have c4b1 : decide (1048576 < l0.length) = false := decide_eq_false (by omega)
      clear c4
      (first | rw [c4b0] | (simp only [i64_w, i32_w]; rw [c4b0]) | skip)
      have H' := Aside0.mk H
      clear H
      go_wp2
      go_meet
      case rel => exact ⟨_, (decide ((l1.length : Int) > 1048576)), (by first | rfl | (simp; done) | (simp [*]; done)), H', ⟨by first | omega | exact Nat.le_refl _⟩, ⟨by repeat (first | (with_reducible first | exact HB.out | apply below_alloc | apply pw_below_drewN | apply below_drew1) | exact HB.out)⟩⟩
  case rest =>
    clear HC3
    try clear c1
    try clear p2
    try clear c4
    try clear c4b0
    try clear c4b1
    obtain ⟨kq, x23_2, rfl, HA, HJ2, HB⟩ := hcut
    cases kq with
    | zero => exact absurd HA.out (by simp [laws_FnSplit.j0])
    | succ kj2 =>
      have H := HA.out
      clear HA
      simp only [laws_FnSplit.j0] at H
      by_cases c5 : x23_2 = true
      · subst c5
        have H1 : (some true) = some r := by rw [if_pos rfl] at H; exact H
        clear H
        have H := H1
        clear H1
        obtain rfl := Option.some.inj H
        go_wp2
        go_ret
        exact ⟨by first | rfl | (simp [errW_none, errW_some] <;> rfl) | (simp [*, errW_none, errW_some] <;> rfl), by repeat (first | (with_reducible first | exact HB.out | apply below_alloc | apply pw_below_drewN | apply below_drew1) | exact HB.out)⟩
      · replace c5 := Bool.eq_false_iff.mpr c5
        subst c5
        have H1 : ((spec_OrderOf.f l0).bind fun bt436 => ((laws_at.f l1 0 500).bind fun t443 => ((laws_at.f l1 1 500).bind fun t444 => ((impl_FillOf.f kj2 bt436.1 bt436.2.1 bt436.2.2.1 bt436.2.2.2.1 bt436.2.2.1 true (wrap64 (1 + t443))).bind fun bt445 => ((impl_FillOf.f kj2 bt436.1 bt436.2.1 bt436.2.2.1 bt436.2.2.2.1 bt436.2.2.1 true (wrap64 (1 + t444))).bind fun bt447 => ((impl_FillOf.f kj2 bt436.1 bt436.2.1 bt436.2.2.1 bt436.2.2.2.1 bt436.2.2.1 true (wrap64 ((wrap64 (1 + t443)) + (wrap64 (1 + t444))))).bind fun bt449 => ((spec_FillOf.f kj2 bt436.1 bt436.2.1 bt436.2.2.1 bt436.2.2.2.1 bt436.2.2.1 true (wrap64 ((wrap64 (1 + t443)) + (wrap64 (1 + t444))))).bind fun bt451 => (if bt449.2 = bt451.2 then (if bt449.1 = bt451.1 then (if bt445.2 = 0 then (if bt447.2 = 0 then (laws_FnSplit.j1 kj2 bt445.1 bt445.2 bt447.1 bt447.2 bt449.1 bt449.2 false) else (laws_FnSplit.j1 kj2 bt445.1 bt445.2 bt447.1 bt447.2 bt449.1 bt449.2 (bt447.1 != 0))) else (if bt445.1 = 0 then (if bt447.2 = 0 then (laws_FnSplit.j1 kj2 bt445.1 bt445.2 bt447.1 bt447.2 bt449.1 bt449.2 false) else (laws_FnSplit.j1 kj2 bt445.1 bt445.2 bt447.1 bt447.2 bt449.1 bt449.2 (bt447.1 != 0))) else (laws_FnSplit.j1 kj2 bt445.1 bt445.2 bt447.1 bt447.2 bt449.1 bt449.2 true))) else (laws_FnSplit.j1 kj2 bt445.1 bt445.2 bt447.1 bt447.2 bt449.1 bt449.2 true)) else (laws_FnSplit.j1 kj2 bt445.1 bt445.2 bt447.1 bt447.2 bt449.1 bt449.2 true))))))))) = some r := by rw [if_neg (show ¬ (false = true) by decide)] at H; exact H
        clear H
        have H := H1
        clear H1
        replace H := Option.bind_eq_some_iff.mp H
        obtain ⟨⟨t436, t437, t438, t439, t440, t441⟩, A60, H⟩ := H
        replace H : ((laws_at.f l1 0 500).bind fun t443 => ((laws_at.f l1 1 500).bind fun t444 => ((impl_FillOf.f kj2 t436 t437 t438 t439 t438 true (wrap64 (1 + t443))).bind fun bt445 => ((impl_FillOf.f kj2 t436 t437 t438 t439 t438 true (wrap64 (1 + t444))).bind fun bt447 => ((impl_FillOf.f kj2 t436 t437 t438 t439 t438 true (wrap64 ((wrap64 (1 + t443)) + (wrap64 (1 + t444))))).bind fun bt449 => ((spec_FillOf.f kj2 t436 t437 t438 t439 t438 true (wrap64 ((wrap64 (1 + t443)) + (wrap64 (1 + t444))))).bind fun bt451 => (if bt449.2 = bt451.2 then (if bt449.1 = bt451.1 then (if bt445.2 = 0 then (if bt447.2 = 0 then (laws_FnSplit.j1 kj2 bt445.1 bt445.2 bt447.1 bt447.2 bt449.1 bt449.2 false) else (laws_FnSplit.j1 kj2 bt445.1 bt445.2 bt447.1 bt447.2 bt449.1 bt449.2 (bt447.1 != 0))) else (if bt445.1 = 0 then (if bt447.2 = 0 then (laws_FnSplit.j1 kj2 bt445.1 bt445.2 bt447.1 bt447.2 bt449.1 bt449.2 false) else (laws_FnSplit.j1 kj2 bt445.1 bt445.2 bt447.1 bt447.2 bt449.1 bt449.2 (bt447.1 != 0))) else (laws_FnSplit.j1 kj2 bt445.1 bt445.2 bt447.1 bt447.2 bt449.1 bt449.2 true))) else (laws_FnSplit.j1 kj2 bt445.1 bt445.2 bt447.1 bt447.2 bt449.1 bt449.2 true)) else (laws_FnSplit.j1 kj2 bt445.1 bt445.2 bt447.1 bt447.2 bt449.1 bt449.2 true)))))))) = some r := H
        have A6 := Aside0.mk A60
        clear A60
        replace H := Option.bind_eq_some_iff.mp H
        obtain ⟨t443, A70, H⟩ := H
        replace H : ((laws_at.f l1 1 500).bind fun t444 => ((impl_FillOf.f kj2 t436 t437 t438 t439 t438 true (wrap64 (1 + t443))).bind fun bt445 => ((impl_FillOf.f kj2 t436 t437 t438 t439 t438 true (wrap64 (1 + t444))).bind fun bt447 => ((impl_FillOf.f kj2 t436 t437 t438 t439 t438 true (wrap64 ((wrap64 (1 + t443)) + (wrap64 (1 + t444))))).bind fun bt449 => ((spec_FillOf.f kj2 t436 t437 t438 t439 t438 true (wrap64 ((wrap64 (1 + t443)) + (wrap64 (1 + t444))))).bind fun bt451 => (if bt449.2 = bt451.2 then (if bt449.1 = bt451.1 then (if bt445.2 = 0 then (if bt447.2 = 0 then (laws_FnSplit.j1 kj2 bt445.1 bt445.2 bt447.1 bt447.2 bt449.1 bt449.2 false) else (laws_FnSplit.j1 kj2 bt445.1 bt445.2 bt447.1 bt447.2 bt449.1 bt449.2 (bt447.1 != 0))) else (if bt445.1 = 0 then (if bt447.2 = 0 then (laws_FnSplit.j1 kj2 bt445.1 bt445.2 bt447.1 bt447.2 bt449.1 bt449.2 false) else (laws_FnSplit.j1 kj2 bt445.1 bt445.2 bt447.1 bt447.2 bt449.1 bt449.2 (bt447.1 != 0))) else (laws_FnSplit.j1 kj2 bt445.1 bt445.2 bt447.1 bt447.2 bt449.1 bt449.2 true))) else (laws_FnSplit.j1 kj2 bt445.1 bt445.2 bt447.1 bt447.2 bt449.1 bt449.2 true)) else (laws_FnSplit.j1 kj2 bt445.1 bt445.2 bt447.1 bt447.2 bt449.1 bt449.2 true))))))) = some r := H
        have A7 := Aside0.mk A70
        clear A70
        replace H := Option.bind_eq_some_iff.mp H
        obtain ⟨t444, A80, H⟩ := H
        replace H : ((impl_FillOf.f kj2 t436 t437 t438 t439 t438 true (wrap64 (1 + t443))).bind fun bt445 => ((impl_FillOf.f kj2 t436 t437 t438 t439 t438 true (wrap64 (1 + t444))).bind fun bt447 => ((impl_FillOf.f kj2 t436 t437 t438 t439 t438 true (wrap64 ((wrap64 (1 + t443)) + (wrap64 (1 + t444))))).bind fun bt449 => ((spec_FillOf.f kj2 t436 t437 t438 t439 t438 true (wrap64 ((wrap64 (1 + t443)) + (wrap64 (1 + t444))))).bind fun bt451 => (if bt449.2 = bt451.2 then (if bt449.1 = bt451.1 then (if bt445.2 = 0 then (if bt447.2 = 0 then (laws_FnSplit.j1 kj2 bt445.1 bt445.2 bt447.1 bt447.2 bt449.1 bt449.2 false) else (laws_FnSplit.j1 kj2 bt445.1 bt445.2 bt447.1 bt447.2 bt449.1 bt449.2 (bt447.1 != 0))) else (if bt445.1 = 0 then (if bt447.2 = 0 then (laws_FnSplit.j1 kj2 bt445.1 bt445.2 bt447.1 bt447.2 bt449.1 bt449.2 false) else (laws_FnSplit.j1 kj2 bt445.1 bt445.2 bt447.1 bt447.2 bt449.1 bt449.2 (bt447.1 != 0))) else (laws_FnSplit.j1 kj2 bt445.1 bt445.2 bt447.1 bt447.2 bt449.1 bt449.2 true))) else (laws_FnSplit.j1 kj2 bt445.1 bt445.2 bt447.1 bt447.2 bt449.1 bt449.2 true)) else (laws_FnSplit.j1 kj2 bt445.1 bt445.2 bt447.1 bt447.2 bt449.1 bt449.2 true)))))) = some r := H
        have A8 := Aside0.mk A80
        clear A80
        replace H := Option.bind_eq_some_iff.mp H
        obtain ⟨⟨t445, t446⟩, A90, H⟩ := H
        replace H : ((impl_FillOf.f kj2 t436 t437 t438 t439 t438 true (wrap64 (1 + t444))).bind fun bt447 => ((impl_FillOf.f kj2 t436 t437 t438 t439 t438 true (wrap64 ((wrap64 (1 + t443)) + (wrap64 (1 + t444))))).bind fun bt449 => ((spec_FillOf.f kj2 t436 t437 t438 t439 t438 true (wrap64 ((wrap64 (1 + t443)) + (wrap64 (1 + t444))))).bind fun bt451 => (if bt449.2 = bt451.2 then (if bt449.1 = bt451.1 then (if t446 = 0 then (if bt447.2 = 0 then (laws_FnSplit.j1 kj2 t445 t446 bt447.1 bt447.2 bt449.1 bt449.2 false) else (laws_FnSplit.j1 kj2 t445 t446 bt447.1 bt447.2 bt449.1 bt449.2 (bt447.1 != 0))) else (if t445 = 0 then (if bt447.2 = 0 then (laws_FnSplit.j1 kj2 t445 t446 bt447.1 bt447.2 bt449.1 bt449.2 false) else (laws_FnSplit.j1 kj2 t445 t446 bt447.1 bt447.2 bt449.1 bt449.2 (bt447.1 != 0))) else (laws_FnSplit.j1 kj2 t445 t446 bt447.1 bt447.2 bt449.1 bt449.2 true))) else (laws_FnSplit.j1 kj2 t445 t446 bt447.1 bt447.2 bt449.1 bt449.2 true)) else (laws_FnSplit.j1 kj2 t445 t446 bt447.1 bt447.2 bt449.1 bt449.2 true))))) = some r := H
        have A9 := Aside0.mk A90
        clear A90
        replace H := Option.bind_eq_some_iff.mp H
        obtain ⟨⟨t447, t448⟩, A100, H⟩ := H
        replace H : ((impl_FillOf.f kj2 t436 t437 t438 t439 t438 true (wrap64 ((wrap64 (1 + t443)) + (wrap64 (1 + t444))))).bind fun bt449 => ((spec_FillOf.f kj2 t436 t437 t438 t439 t438 true (wrap64 ((wrap64 (1 + t443)) + (wrap64 (1 + t444))))).bind fun bt451 => (if bt449.2 = bt451.2 then (if bt449.1 = bt451.1 then (if t446 = 0 then (if t448 = 0 then (laws_FnSplit.j1 kj2 t445 t446 t447 t448 bt449.1 bt449.2 false) else (laws_FnSplit.j1 kj2 t445 t446 t447 t448 bt449.1 bt449.2 (t447 != 0))) else (if t445 = 0 then (if t448 = 0 then (laws_FnSplit.j1 kj2 t445 t446 t447 t448 bt449.1 bt449.2 false) else (laws_FnSplit.j1 kj2 t445 t446 t447 t448 bt449.1 bt449.2 (t447 != 0))) else (laws_FnSplit.j1 kj2 t445 t446 t447 t448 bt449.1 bt449.2 true))) else (laws_FnSplit.j1 kj2 t445 t446 t447 t448 bt449.1 bt449.2 true)) else (laws_FnSplit.j1 kj2 t445 t446 t447 t448 bt449.1 bt449.2 true)))) = some r := H
        have A10 := Aside0.mk A100
        clear A100
        replace H := Option.bind_eq_some_iff.mp H
        obtain ⟨⟨t449, t450⟩, A110, H⟩ := H
        replace H : ((spec_FillOf.f kj2 t436 t437 t438 t439 t438 true (wrap64 ((wrap64 (1 + t443)) + (wrap64 (1 + t444))))).bind fun bt451 => (if t450 = bt451.2 then (if t449 = bt451.1 then (if t446 = 0 then (if t448 = 0 then (laws_FnSplit.j1 kj2 t445 t446 t447 t448 t449 t450 false) else (laws_FnSplit.j1 kj2 t445 t446 t447 t448 t449 t450 (t447 != 0))) else (if t445 = 0 then (if t448 = 0 then (laws_FnSplit.j1 kj2 t445 t446 t447 t448 t449 t450 false) else (laws_FnSplit.j1 kj2 t445 t446 t447 t448 t449 t450 (t447 != 0))) else (laws_FnSplit.j1 kj2 t445 t446 t447 t448 t449 t450 true))) else (laws_FnSplit.j1 kj2 t445 t446 t447 t448 t449 t450 true)) else (laws_FnSplit.j1 kj2 t445 t446 t447 t448 t449 t450 true))) = some r := H
        have A11 := Aside0.mk A110
        clear A110
        replace H := Option.bind_eq_some_iff.mp H
        obtain ⟨⟨t451, t452⟩, A120, H⟩ := H
        replace H : (if t450 = t452 then (if t449 = t451 then (if t446 = 0 then (if t448 = 0 then (laws_FnSplit.j1 kj2 t445 t446 t447 t448 t449 t450 false) else (laws_FnSplit.j1 kj2 t445 t446 t447 t448 t449 t450 (t447 != 0))) else (if t445 = 0 then (if t448 = 0 then (laws_FnSplit.j1 kj2 t445 t446 t447 t448 t449 t450 false) else (laws_FnSplit.j1 kj2 t445 t446 t447 t448 t449 t450 (t447 != 0))) else (laws_FnSplit.j1 kj2 t445 t446 t447 t448 t449 t450 true))) else (laws_FnSplit.j1 kj2 t445 t446 t447 t448 t449 t450 true)) else (laws_FnSplit.j1 kj2 t445 t446 t447 t448 t449 t450 true)) = some r := H
        have A12 := Aside0.mk A120
        clear A120
        have HC13 := Aside0.mk H
        clear H
        go_upto_region 8 with (first | ((with_reducible refine gate_callee (f := 32) rfl ?_); refine goesL_ (some 25) rfl rfl Try.func32 (by kernel_rfl) rfl #[.slice A0 l0.length c0] rfl (by (try simp only [List.map_toArray, List.map_cons, List.map_nil]); first | done | rfl | (simp only [List.length_drop, List.length_take]; rfl)) ?_; (with_reducible refine (spec_OrderOf.calls _ _ l0 t436 t437 t438 t439 t440 t441 _ ?side1 ?side2 A6.out).mono ?_); (case side1 => repeat (first | exact (Kd.C_below HR0.out HB.out) | (with_reducible refine Kd.C_alloc ?_ _) | (with_reducible refine Kd.C_drewN ?_ _) | (with_reducible refine Kd.C_drew ?_))); (case side2 => exact HC0.out); rintro e w14 ⟨rfl, hb⟩; refine ⟨_, rfl, ?_⟩; have n0_ := Aside0.mk (below_step (by repeat (first | (with_reducible first | exact HB.out | apply below_alloc | apply pw_below_drewN | apply below_drew1) | exact HB.out)) hb); clear HB; have HB := n0_; clear n0_; (try clear hb); (try clear hb2); (try clear hk); (try clear hi)) | ((with_reducible refine gate_dst (N := 5) rfl ?_); (try (refine gate_guard (by rfl) ?_; dsimp only)); refine box_event ?hg (N := 5) ?hd (cs := #[.string (⟨#[]⟩ : ByteArray), .string (⟨#[]⟩ : ByteArray), .int .i64 0, .int .i64 0, .int .i64 0, .bool false]) (t := 35) ?hr ?_; (case hd => rfl); (case hg => rfl); (case hr => first | (go_simp; done) | (go_simp; rfl)); intro gb442 hg w15 hbox hb; have n0_ := Aside0.mk (below_step (by repeat (first | (with_reducible first | exact HB.out | apply below_alloc | apply pw_below_drewN | apply below_drew1) | exact HB.out)) hb); have n1_ := Aside0.mk (hbox); have n2_ := Aside0.mk ((by rw [hg]; exact (below_size (by repeat (first | (with_reducible first | exact HB.out | apply below_alloc | apply pw_below_drewN | apply below_drew1) | exact HB.out))) : w.heap.size ≤ gb442)); have n3_ := Aside0.mk ((by rw [hg]; exact (below_size (by repeat (first | (with_reducible first | exact HB.out | apply below_alloc | apply pw_below_drewN | apply below_drew1) | exact HB.out))) : w.heap.size ≤ gb442)); clear HB; have HB := n0_; have BK442 := n1_; have GW442 := n2_; have GE442 := n3_; clear n0_ n1_ n2_ n3_; clear hb hbox hg; have hcz16_0 : w15.cell? ⟨gb442, 0, none⟩ = some (.string (⟨#[]⟩ : ByteArray)) := (blk_cell BK442.out 0).trans rfl; have hcz16_1 : w15.cell? ⟨gb442, 1, none⟩ = some (.string (⟨#[]⟩ : ByteArray)) := (blk_cell BK442.out 1).trans rfl; have hcz16_2 : w15.cell? ⟨gb442, 2, none⟩ = some (.int .i64 0) := (blk_cell BK442.out 2).trans rfl; have hcz16_3 : w15.cell? ⟨gb442, 3, none⟩ = some (.int .i64 0) := (blk_cell BK442.out 3).trans rfl; have hcz16_4 : w15.cell? ⟨gb442, 4, none⟩ = some (.int .i64 0) := (blk_cell BK442.out 4).trans rfl; have hcz16_5 : w15.cell? ⟨gb442, 5, none⟩ = some (.bool false) := (blk_cell BK442.out 5).trans rfl; have hfz16_0 := blk_frozen BK442.out 0; have hfz16_1 := blk_frozen BK442.out 1; have hfz16_2 := blk_frozen BK442.out 2; have hfz16_3 := blk_frozen BK442.out 3; have hfz16_4 := blk_frozen BK442.out 4; have hfz16_5 := blk_frozen BK442.out 5) | ((with_reducible refine gate_callee (f := 25) rfl ?_); refine goesL_ (some 31) rfl rfl Try.func25 (by kernel_rfl) rfl #[.slice A1 l1.length c1, .int .i64 0, .int .i64 500] rfl (by (try simp only [List.map_toArray, List.map_cons, List.map_nil]); first | done | rfl | (simp only [List.length_drop, List.length_take]; rfl)) ?_; (with_reducible refine (laws_at.calls _ _ l1 0 500 t443 _ ?side1 ?side2 A7.out).mono ?_); (case side1 => exact Kd.C_below HR1.out (by repeat (first | (with_reducible first | exact HB.out | apply below_alloc | apply pw_below_drewN | apply below_drew1 | refine below_set ?_ GE442.out) | exact HB.out))); (case side2 => exact HC1.out); rintro e w' ⟨rfl, ⟨nd, rfl⟩⟩; refine ⟨_, rfl, ?_⟩) | ((with_reducible refine gate_callee (f := 25) rfl ?_); refine goesL_ (some 34) rfl rfl Try.func25 (by kernel_rfl) rfl #[.slice A1 l1.length c1, .int .i64 1, .int .i64 500] rfl (by (try simp only [List.map_toArray, List.map_cons, List.map_nil]); first | done | rfl | (simp only [List.length_drop, List.length_take]; rfl)) ?_; (with_reducible refine (laws_at.calls _ _ l1 1 500 t444 _ ?side1 ?side2 A8.out).mono ?_); (case side1 => exact Kd.C_below HR1.out (by repeat (first | (with_reducible first | exact HB.out | apply below_alloc | apply pw_below_drewN | apply below_drew1 | refine below_set ?_ GE442.out) | exact HB.out))); (case side2 => exact HC1.out); rintro e w' ⟨rfl, ⟨nd, rfl⟩⟩; refine ⟨_, rfl, ?_⟩) | ((with_reducible refine gate_callee (f := 31) rfl ?_); refine goesL_ (some 39) rfl rfl Try.func31 (by kernel_rfl) rfl #[.agg #[.string t436, .string t437, .int .i64 t438, .int .i64 t439, .int .i64 t438, .bool true], .int .i64 (wrap64 (1 + t443))] rfl (by (try simp only [List.map_toArray, List.map_cons, List.map_nil]); first | done | rfl | (simp only [List.length_drop, List.length_take]; rfl)) ?_; (with_reducible refine (impl_FillOf.calls kj2 t436 t437 t438 t439 t438 true (wrap64 (1 + t443)) t445 t446 _ A9.out).mono ?_); rintro e w17 ⟨rfl, hb⟩; refine ⟨_, rfl, ?_⟩; have n0_ := Aside0.mk (blk_below (g := gb442) (o := .cells #[.string t436, .string t437, .int .i64 t438, .int .i64 t439, .int .i64 t438, .bool true] 35 (0, 0)) (by (with_reducible repeat (first | refine blk_drewN ?_ _ | refine blk_drew ?_ | refine blk_alloc ?_ _)); refine blk_put (cs := #[.string t436, .string t437, .int .i64 t438, .int .i64 t439, .int .i64 t440, .bool true]) ?_ 4 _ rfl; (with_reducible repeat (first | refine blk_drewN ?_ _ | refine blk_drew ?_ | refine blk_alloc ?_ _)); refine blk_put (cs := #[.string t436, .string t437, .int .i64 t438, .int .i64 t439, .int .i64 t440, .bool t441]) ?_ 5 _ rfl; (with_reducible repeat (first | refine blk_drewN ?_ _ | refine blk_drew ?_ | refine blk_alloc ?_ _)); refine blk_put (cs := #[.string t436, .string t437, .int .i64 t438, .int .i64 t439, .int .i64 t440, .bool false]) ?_ 5 _ rfl; (with_reducible repeat (first | refine blk_drewN ?_ _ | refine blk_drew ?_ | refine blk_alloc ?_ _)); refine blk_put (cs := #[.string t436, .string t437, .int .i64 t438, .int .i64 t439, .int .i64 0, .bool false]) ?_ 4 _ rfl; (with_reducible repeat (first | refine blk_drewN ?_ _ | refine blk_drew ?_ | refine blk_alloc ?_ _)); refine blk_put (cs := #[.string t436, .string t437, .int .i64 t438, .int .i64 0, .int .i64 0, .bool false]) ?_ 3 _ rfl; (with_reducible repeat (first | refine blk_drewN ?_ _ | refine blk_drew ?_ | refine blk_alloc ?_ _)); refine blk_put (cs := #[.string t436, .string t437, .int .i64 0, .int .i64 0, .int .i64 0, .bool false]) ?_ 2 _ rfl; (with_reducible repeat (first | refine blk_drewN ?_ _ | refine blk_drew ?_ | refine blk_alloc ?_ _)); refine blk_put (cs := #[.string t436, .string (⟨#[]⟩ : ByteArray), .int .i64 0, .int .i64 0, .int .i64 0, .bool false]) ?_ 1 _ rfl; (with_reducible repeat (first | refine blk_drewN ?_ _ | refine blk_drew ?_ | refine blk_alloc ?_ _)); refine blk_put (cs := #[.string (⟨#[]⟩ : ByteArray), .string (⟨#[]⟩ : ByteArray), .int .i64 0, .int .i64 0, .int .i64 0, .bool false]) ?_ 0 _ rfl; (with_reducible repeat (first | refine blk_drewN ?_ _ | refine blk_drew ?_ | refine blk_alloc ?_ _)); exact BK442.out) hb); have n1_ := Aside0.mk (below_step (by repeat (first | (with_reducible first | exact HB.out | apply below_alloc | apply pw_below_drewN | apply below_drew1 | refine below_set ?_ GE442.out) | exact HB.out)) hb); clear BK442; clear HB; have BK442 := n0_; have HB := n1_; clear n0_ n1_; (try clear hb); (try clear hb2); (try clear hk); (try clear hi); have hcz18_0 : w17.cell? ⟨gb442, 0, none⟩ = some (.string t436) := (blk_cell BK442.out 0).trans rfl; have hcz18_1 : w17.cell? ⟨gb442, 1, none⟩ = some (.string t437) := (blk_cell BK442.out 1).trans rfl; have hcz18_2 : w17.cell? ⟨gb442, 2, none⟩ = some (.int .i64 t438) := (blk_cell BK442.out 2).trans rfl; have hcz18_3 : w17.cell? ⟨gb442, 3, none⟩ = some (.int .i64 t439) := (blk_cell BK442.out 3).trans rfl; have hcz18_4 : w17.cell? ⟨gb442, 4, none⟩ = some (.int .i64 t438) := (blk_cell BK442.out 4).trans rfl; have hcz18_5 : w17.cell? ⟨gb442, 5, none⟩ = some (.bool true) := (blk_cell BK442.out 5).trans rfl; have hfz18_0 := blk_frozen BK442.out 0; have hfz18_1 := blk_frozen BK442.out 1; have hfz18_2 := blk_frozen BK442.out 2; have hfz18_3 := blk_frozen BK442.out 3; have hfz18_4 := blk_frozen BK442.out 4; have hfz18_5 := blk_frozen BK442.out 5) | ((with_reducible refine gate_callee (f := 31) rfl ?_); refine goesL_ (some 45) rfl rfl Try.func31 (by kernel_rfl) rfl #[.agg #[.string t436, .string t437, .int .i64 t438, .int .i64 t439, .int .i64 t438, .bool true], .int .i64 (wrap64 (1 + t444))] rfl (by (try simp only [List.map_toArray, List.map_cons, List.map_nil]); first | done | rfl | (simp only [List.length_drop, List.length_take]; rfl)) ?_; (with_reducible refine (impl_FillOf.calls kj2 t436 t437 t438 t439 t438 true (wrap64 (1 + t444)) t447 t448 _ A10.out).mono ?_); rintro e w19 ⟨rfl, hb⟩; refine ⟨_, rfl, ?_⟩; have n0_ := Aside0.mk (blk_below (g := gb442) (o := .cells #[.string t436, .string t437, .int .i64 t438, .int .i64 t439, .int .i64 t438, .bool true] 35 (0, 0)) (by (with_reducible repeat (first | refine blk_drewN ?_ _ | refine blk_drew ?_ | refine blk_alloc ?_ _)); exact BK442.out) hb); have n1_ := Aside0.mk (below_step (by repeat (first | (with_reducible first | exact HB.out | apply below_alloc | apply pw_below_drewN | apply below_drew1 | refine below_set ?_ GE442.out) | exact HB.out)) hb); clear BK442; clear HB; have BK442 := n0_; have HB := n1_; clear n0_ n1_; (try clear hb); (try clear hb2); (try clear hk); (try clear hi); have hcz20_0 : w19.cell? ⟨gb442, 0, none⟩ = some (.string t436) := (blk_cell BK442.out 0).trans rfl; have hcz20_1 : w19.cell? ⟨gb442, 1, none⟩ = some (.string t437) := (blk_cell BK442.out 1).trans rfl; have hcz20_2 : w19.cell? ⟨gb442, 2, none⟩ = some (.int .i64 t438) := (blk_cell BK442.out 2).trans rfl; have hcz20_3 : w19.cell? ⟨gb442, 3, none⟩ = some (.int .i64 t439) := (blk_cell BK442.out 3).trans rfl; have hcz20_4 : w19.cell? ⟨gb442, 4, none⟩ = some (.int .i64 t438) := (blk_cell BK442.out 4).trans rfl; have hcz20_5 : w19.cell? ⟨gb442, 5, none⟩ = some (.bool true) := (blk_cell BK442.out 5).trans rfl; have hfz20_0 := blk_frozen BK442.out 0; have hfz20_1 := blk_frozen BK442.out 1; have hfz20_2 := blk_frozen BK442.out 2; have hfz20_3 := blk_frozen BK442.out 3; have hfz20_4 := blk_frozen BK442.out 4; have hfz20_5 := blk_frozen BK442.out 5) | ((with_reducible refine gate_callee (f := 31) rfl ?_); refine goesL_ (some 53) rfl rfl Try.func31 (by kernel_rfl) rfl #[.agg #[.string t436, .string t437, .int .i64 t438, .int .i64 t439, .int .i64 t438, .bool true], .int .i64 (wrap64 ((wrap64 (1 + t443)) + (wrap64 (1 + t444))))] rfl (by (try simp only [List.map_toArray, List.map_cons, List.map_nil]); first | done | rfl | (simp only [List.length_drop, List.length_take]; rfl)) ?_; (with_reducible refine (impl_FillOf.calls kj2 t436 t437 t438 t439 t438 true (wrap64 ((wrap64 (1 + t443)) + (wrap64 (1 + t444)))) t449 t450 _ A11.out).mono ?_); rintro e w21 ⟨rfl, hb⟩; refine ⟨_, rfl, ?_⟩; have n0_ := Aside0.mk (blk_below (g := gb442) (o := .cells #[.string t436, .string t437, .int .i64 t438, .int .i64 t439, .int .i64 t438, .bool true] 35 (0, 0)) (by (with_reducible repeat (first | refine blk_drewN ?_ _ | refine blk_drew ?_ | refine blk_alloc ?_ _)); exact BK442.out) hb); have n1_ := Aside0.mk (below_step (by repeat (first | (with_reducible first | exact HB.out | apply below_alloc | apply pw_below_drewN | apply below_drew1 | refine below_set ?_ GE442.out) | exact HB.out)) hb); clear BK442; clear HB; have BK442 := n0_; have HB := n1_; clear n0_ n1_; (try clear hb); (try clear hb2); (try clear hk); (try clear hi); have hcz22_0 : w21.cell? ⟨gb442, 0, none⟩ = some (.string t436) := (blk_cell BK442.out 0).trans rfl; have hcz22_1 : w21.cell? ⟨gb442, 1, none⟩ = some (.string t437) := (blk_cell BK442.out 1).trans rfl; have hcz22_2 : w21.cell? ⟨gb442, 2, none⟩ = some (.int .i64 t438) := (blk_cell BK442.out 2).trans rfl; have hcz22_3 : w21.cell? ⟨gb442, 3, none⟩ = some (.int .i64 t439) := (blk_cell BK442.out 3).trans rfl; have hcz22_4 : w21.cell? ⟨gb442, 4, none⟩ = some (.int .i64 t438) := (blk_cell BK442.out 4).trans rfl; have hcz22_5 : w21.cell? ⟨gb442, 5, none⟩ = some (.bool true) := (blk_cell BK442.out 5).trans rfl; have hfz22_0 := blk_frozen BK442.out 0; have hfz22_1 := blk_frozen BK442.out 1; have hfz22_2 := blk_frozen BK442.out 2; have hfz22_3 := blk_frozen BK442.out 3; have hfz22_4 := blk_frozen BK442.out 4; have hfz22_5 := blk_frozen BK442.out 5) | ((with_reducible refine gate_callee (f := 30) rfl ?_); refine goesL_ (some 61) rfl rfl Try.func30 (by kernel_rfl) rfl #[.agg #[.string t436, .string t437, .int .i64 t438, .int .i64 t439, .int .i64 t438, .bool true], .int .i64 (wrap64 ((wrap64 (1 + t443)) + (wrap64 (1 + t444))))] rfl (by (try simp only [List.map_toArray, List.map_cons, List.map_nil]); first | done | rfl | (simp only [List.length_drop, List.length_take]; rfl)) ?_; (with_reducible refine (spec_FillOf.calls kj2 t436 t437 t438 t439 t438 true (wrap64 ((wrap64 (1 + t443)) + (wrap64 (1 + t444)))) t451 t452 _ A12.out).mono ?_); rintro e w23 ⟨rfl, hb⟩; refine ⟨_, rfl, ?_⟩; have n0_ := Aside0.mk (blk_below (g := gb442) (o := .cells #[.string t436, .string t437, .int .i64 t438, .int .i64 t439, .int .i64 t438, .bool true] 35 (0, 0)) (by (with_reducible repeat (first | refine blk_drewN ?_ _ | refine blk_drew ?_ | refine blk_alloc ?_ _)); exact BK442.out) hb); have n1_ := Aside0.mk (below_step (by repeat (first | (with_reducible first | exact HB.out | apply below_alloc | apply pw_below_drewN | apply below_drew1 | refine below_set ?_ GE442.out) | exact HB.out)) hb); clear BK442; clear HB; have BK442 := n0_; have HB := n1_; clear n0_ n1_; (try clear hb); (try clear hb2); (try clear hk); (try clear hi)))
        refine wp_gen (fun w' => w'.heap[gb442]? = some (.cells #[.string t436, .string t437, .int .i64 t438, .int .i64 t439, .int .i64 t438, .bool true] 35 (0, 0)) ∧ Below w.heap.size w w') ⟨by (with_reducible repeat (first | refine blk_drewN ?_ _ | refine blk_drew ?_ | refine blk_alloc ?_ _)); refine blk_put (cs := #[.string t436, .string t437, .int .i64 t438, .int .i64 t439, .int .i64 t440, .bool true]) ?_ 4 _ rfl; (with_reducible repeat (first | refine blk_drewN ?_ _ | refine blk_drew ?_ | refine blk_alloc ?_ _)); refine blk_put (cs := #[.string t436, .string t437, .int .i64 t438, .int .i64 t439, .int .i64 t440, .bool t441]) ?_ 5 _ rfl; (with_reducible repeat (first | refine blk_drewN ?_ _ | refine blk_drew ?_ | refine blk_alloc ?_ _)); refine blk_put (cs := #[.string t436, .string t437, .int .i64 t438, .int .i64 t439, .int .i64 t440, .bool false]) ?_ 5 _ rfl; (with_reducible repeat (first | refine blk_drewN ?_ _ | refine blk_drew ?_ | refine blk_alloc ?_ _)); refine blk_put (cs := #[.string t436, .string t437, .int .i64 t438, .int .i64 t439, .int .i64 0, .bool false]) ?_ 4 _ rfl; (with_reducible repeat (first | refine blk_drewN ?_ _ | refine blk_drew ?_ | refine blk_alloc ?_ _)); refine blk_put (cs := #[.string t436, .string t437, .int .i64 t438, .int .i64 0, .int .i64 0, .bool false]) ?_ 3 _ rfl; (with_reducible repeat (first | refine blk_drewN ?_ _ | refine blk_drew ?_ | refine blk_alloc ?_ _)); refine blk_put (cs := #[.string t436, .string t437, .int .i64 0, .int .i64 0, .int .i64 0, .bool false]) ?_ 2 _ rfl; (with_reducible repeat (first | refine blk_drewN ?_ _ | refine blk_drew ?_ | refine blk_alloc ?_ _)); refine blk_put (cs := #[.string t436, .string (⟨#[]⟩ : ByteArray), .int .i64 0, .int .i64 0, .int .i64 0, .bool false]) ?_ 1 _ rfl; (with_reducible repeat (first | refine blk_drewN ?_ _ | refine blk_drew ?_ | refine blk_alloc ?_ _)); refine blk_put (cs := #[.string (⟨#[]⟩ : ByteArray), .string (⟨#[]⟩ : ByteArray), .int .i64 0, .int .i64 0, .int .i64 0, .bool false]) ?_ 0 _ rfl; (with_reducible repeat (first | refine blk_drewN ?_ _ | refine blk_drew ?_ | refine blk_alloc ?_ _)); exact BK442.out, by repeat (first | (with_reducible first | exact HB.out | apply below_alloc | apply pw_below_drewN | apply below_drew1 | refine below_set ?_ GE442.out) | exact HB.out)⟩ ?_
        rintro w99 ⟨bk99, hb99⟩
        clear BK442 HB
        have BK442 := Aside0.mk bk99
        have HB := Aside0.mk hb99
        clear bk99 hb99
        have hcz99_0 : w99.cell? ⟨gb442, 0, none⟩ = some (.string t436) := (blk_cell BK442.out 0).trans rfl
        have hfz99_0 := blk_frozen BK442.out 0
        have hcz99_1 : w99.cell? ⟨gb442, 1, none⟩ = some (.string t437) := (blk_cell BK442.out 1).trans rfl
        have hfz99_1 := blk_frozen BK442.out 1
        have hcz99_2 : w99.cell? ⟨gb442, 2, none⟩ = some (.int .i64 t438) := (blk_cell BK442.out 2).trans rfl
        have hfz99_2 := blk_frozen BK442.out 2
        have hcz99_3 : w99.cell? ⟨gb442, 3, none⟩ = some (.int .i64 t439) := (blk_cell BK442.out 3).trans rfl
        have hfz99_3 := blk_frozen BK442.out 3
        have hcz99_4 : w99.cell? ⟨gb442, 4, none⟩ = some (.int .i64 t438) := (blk_cell BK442.out 4).trans rfl
        have hfz99_4 := blk_frozen BK442.out 4
        have hcz99_5 : w99.cell? ⟨gb442, 5, none⟩ = some (.bool true) := (blk_cell BK442.out 5).trans rfl
        have hfz99_5 := blk_frozen BK442.out 5
        go_upto_region 12 with (first | ((with_reducible refine gate_callee (f := 32) rfl ?_); refine goesL_ (some 25) rfl rfl Try.func32 (by kernel_rfl) rfl #[.slice A0 l0.length c0] rfl (by (try simp only [List.map_toArray, List.map_cons, List.map_nil]); first | done | rfl | (simp only [List.length_drop, List.length_take]; rfl)) ?_; (with_reducible refine (spec_OrderOf.calls _ _ l0 t436 t437 t438 t439 t440 t441 _ ?side1 ?side2 A6.out).mono ?_); (case side1 => repeat (first | exact (Kd.C_below HR0.out HB.out) | (with_reducible refine Kd.C_alloc ?_ _) | (with_reducible refine Kd.C_drewN ?_ _) | (with_reducible refine Kd.C_drew ?_))); (case side2 => exact HC0.out); rintro e w14 ⟨rfl, hb⟩; refine ⟨_, rfl, ?_⟩; have n0_ := Aside0.mk (below_step (by repeat (first | (with_reducible first | exact HB.out | apply below_alloc | apply pw_below_drewN | apply below_drew1) | exact HB.out)) hb); clear HB; have HB := n0_; clear n0_; (try clear hb); (try clear hb2); (try clear hk); (try clear hi)) | ((with_reducible refine gate_dst (N := 5) rfl ?_); (try (refine gate_guard (by rfl) ?_; dsimp only)); refine box_event ?hg (N := 5) ?hd (cs := #[.string (⟨#[]⟩ : ByteArray), .string (⟨#[]⟩ : ByteArray), .int .i64 0, .int .i64 0, .int .i64 0, .bool false]) (t := 35) ?hr ?_; (case hd => rfl); (case hg => rfl); (case hr => first | (go_simp; done) | (go_simp; rfl)); intro gb442 hg w15 hbox hb; have n0_ := Aside0.mk (below_step (by repeat (first | (with_reducible first | exact HB.out | apply below_alloc | apply pw_below_drewN | apply below_drew1) | exact HB.out)) hb); have n1_ := Aside0.mk (hbox); have n2_ := Aside0.mk ((by rw [hg]; exact (below_size (by repeat (first | (with_reducible first | exact HB.out | apply below_alloc | apply pw_below_drewN | apply below_drew1) | exact HB.out))) : w.heap.size ≤ gb442)); have n3_ := Aside0.mk ((by rw [hg]; exact (below_size (by repeat (first | (with_reducible first | exact HB.out | apply below_alloc | apply pw_below_drewN | apply below_drew1) | exact HB.out))) : w.heap.size ≤ gb442)); clear HB; have HB := n0_; have BK442 := n1_; have GW442 := n2_; have GE442 := n3_; clear n0_ n1_ n2_ n3_; clear hb hbox hg; have hcz16_0 : w15.cell? ⟨gb442, 0, none⟩ = some (.string (⟨#[]⟩ : ByteArray)) := (blk_cell BK442.out 0).trans rfl; have hcz16_1 : w15.cell? ⟨gb442, 1, none⟩ = some (.string (⟨#[]⟩ : ByteArray)) := (blk_cell BK442.out 1).trans rfl; have hcz16_2 : w15.cell? ⟨gb442, 2, none⟩ = some (.int .i64 0) := (blk_cell BK442.out 2).trans rfl; have hcz16_3 : w15.cell? ⟨gb442, 3, none⟩ = some (.int .i64 0) := (blk_cell BK442.out 3).trans rfl; have hcz16_4 : w15.cell? ⟨gb442, 4, none⟩ = some (.int .i64 0) := (blk_cell BK442.out 4).trans rfl; have hcz16_5 : w15.cell? ⟨gb442, 5, none⟩ = some (.bool false) := (blk_cell BK442.out 5).trans rfl; have hfz16_0 := blk_frozen BK442.out 0; have hfz16_1 := blk_frozen BK442.out 1; have hfz16_2 := blk_frozen BK442.out 2; have hfz16_3 := blk_frozen BK442.out 3; have hfz16_4 := blk_frozen BK442.out 4; have hfz16_5 := blk_frozen BK442.out 5) | ((with_reducible refine gate_callee (f := 25) rfl ?_); refine goesL_ (some 31) rfl rfl Try.func25 (by kernel_rfl) rfl #[.slice A1 l1.length c1, .int .i64 0, .int .i64 500] rfl (by (try simp only [List.map_toArray, List.map_cons, List.map_nil]); first | done | rfl | (simp only [List.length_drop, List.length_take]; rfl)) ?_; (with_reducible refine (laws_at.calls _ _ l1 0 500 t443 _ ?side1 ?side2 A7.out).mono ?_); (case side1 => exact Kd.C_below HR1.out (by repeat (first | (with_reducible first | exact HB.out | apply below_alloc | apply pw_below_drewN | apply below_drew1 | refine below_set ?_ GE442.out) | exact HB.out))); (case side2 => exact HC1.out); rintro e w' ⟨rfl, ⟨nd, rfl⟩⟩; refine ⟨_, rfl, ?_⟩) | ((with_reducible refine gate_callee (f := 25) rfl ?_); refine goesL_ (some 34) rfl rfl Try.func25 (by kernel_rfl) rfl #[.slice A1 l1.length c1, .int .i64 1, .int .i64 500] rfl (by (try simp only [List.map_toArray, List.map_cons, List.map_nil]); first | done | rfl | (simp only [List.length_drop, List.length_take]; rfl)) ?_; (with_reducible refine (laws_at.calls _ _ l1 1 500 t444 _ ?side1 ?side2 A8.out).mono ?_); (case side1 => exact Kd.C_below HR1.out (by repeat (first | (with_reducible first | exact HB.out | apply below_alloc | apply pw_below_drewN | apply below_drew1 | refine below_set ?_ GE442.out) | exact HB.out))); (case side2 => exact HC1.out); rintro e w' ⟨rfl, ⟨nd, rfl⟩⟩; refine ⟨_, rfl, ?_⟩) | ((with_reducible refine gate_callee (f := 31) rfl ?_); refine goesL_ (some 39) rfl rfl Try.func31 (by kernel_rfl) rfl #[.agg #[.string t436, .string t437, .int .i64 t438, .int .i64 t439, .int .i64 t438, .bool true], .int .i64 (wrap64 (1 + t443))] rfl (by (try simp only [List.map_toArray, List.map_cons, List.map_nil]); first | done | rfl | (simp only [List.length_drop, List.length_take]; rfl)) ?_; (with_reducible refine (impl_FillOf.calls kj2 t436 t437 t438 t439 t438 true (wrap64 (1 + t443)) t445 t446 _ A9.out).mono ?_); rintro e w17 ⟨rfl, hb⟩; refine ⟨_, rfl, ?_⟩; have n0_ := Aside0.mk (blk_below (g := gb442) (o := .cells #[.string t436, .string t437, .int .i64 t438, .int .i64 t439, .int .i64 t438, .bool true] 35 (0, 0)) (by (with_reducible repeat (first | refine blk_drewN ?_ _ | refine blk_drew ?_ | refine blk_alloc ?_ _)); exact BK442.out) hb); have n1_ := Aside0.mk (below_step (by repeat (first | (with_reducible first | exact HB.out | apply below_alloc | apply pw_below_drewN | apply below_drew1 | refine below_set ?_ GE442.out) | exact HB.out)) hb); clear BK442; clear HB; have BK442 := n0_; have HB := n1_; clear n0_ n1_; (try clear hb); (try clear hb2); (try clear hk); (try clear hi); have hcz18_0 : w17.cell? ⟨gb442, 0, none⟩ = some (.string t436) := (blk_cell BK442.out 0).trans rfl; have hcz18_1 : w17.cell? ⟨gb442, 1, none⟩ = some (.string t437) := (blk_cell BK442.out 1).trans rfl; have hcz18_2 : w17.cell? ⟨gb442, 2, none⟩ = some (.int .i64 t438) := (blk_cell BK442.out 2).trans rfl; have hcz18_3 : w17.cell? ⟨gb442, 3, none⟩ = some (.int .i64 t439) := (blk_cell BK442.out 3).trans rfl; have hcz18_4 : w17.cell? ⟨gb442, 4, none⟩ = some (.int .i64 t438) := (blk_cell BK442.out 4).trans rfl; have hcz18_5 : w17.cell? ⟨gb442, 5, none⟩ = some (.bool true) := (blk_cell BK442.out 5).trans rfl; have hfz18_0 := blk_frozen BK442.out 0; have hfz18_1 := blk_frozen BK442.out 1; have hfz18_2 := blk_frozen BK442.out 2; have hfz18_3 := blk_frozen BK442.out 3; have hfz18_4 := blk_frozen BK442.out 4; have hfz18_5 := blk_frozen BK442.out 5) | ((with_reducible refine gate_callee (f := 31) rfl ?_); refine goesL_ (some 45) rfl rfl Try.func31 (by kernel_rfl) rfl #[.agg #[.string t436, .string t437, .int .i64 t438, .int .i64 t439, .int .i64 t438, .bool true], .int .i64 (wrap64 (1 + t444))] rfl (by (try simp only [List.map_toArray, List.map_cons, List.map_nil]); first | done | rfl | (simp only [List.length_drop, List.length_take]; rfl)) ?_; (with_reducible refine (impl_FillOf.calls kj2 t436 t437 t438 t439 t438 true (wrap64 (1 + t444)) t447 t448 _ A10.out).mono ?_); rintro e w19 ⟨rfl, hb⟩; refine ⟨_, rfl, ?_⟩; have n0_ := Aside0.mk (blk_below (g := gb442) (o := .cells #[.string t436, .string t437, .int .i64 t438, .int .i64 t439, .int .i64 t438, .bool true] 35 (0, 0)) (by (with_reducible repeat (first | refine blk_drewN ?_ _ | refine blk_drew ?_ | refine blk_alloc ?_ _)); exact BK442.out) hb); have n1_ := Aside0.mk (below_step (by repeat (first | (with_reducible first | exact HB.out | apply below_alloc | apply pw_below_drewN | apply below_drew1 | refine below_set ?_ GE442.out) | exact HB.out)) hb); clear BK442; clear HB; have BK442 := n0_; have HB := n1_; clear n0_ n1_; (try clear hb); (try clear hb2); (try clear hk); (try clear hi); have hcz20_0 : w19.cell? ⟨gb442, 0, none⟩ = some (.string t436) := (blk_cell BK442.out 0).trans rfl; have hcz20_1 : w19.cell? ⟨gb442, 1, none⟩ = some (.string t437) := (blk_cell BK442.out 1).trans rfl; have hcz20_2 : w19.cell? ⟨gb442, 2, none⟩ = some (.int .i64 t438) := (blk_cell BK442.out 2).trans rfl; have hcz20_3 : w19.cell? ⟨gb442, 3, none⟩ = some (.int .i64 t439) := (blk_cell BK442.out 3).trans rfl; have hcz20_4 : w19.cell? ⟨gb442, 4, none⟩ = some (.int .i64 t438) := (blk_cell BK442.out 4).trans rfl; have hcz20_5 : w19.cell? ⟨gb442, 5, none⟩ = some (.bool true) := (blk_cell BK442.out 5).trans rfl; have hfz20_0 := blk_frozen BK442.out 0; have hfz20_1 := blk_frozen BK442.out 1; have hfz20_2 := blk_frozen BK442.out 2; have hfz20_3 := blk_frozen BK442.out 3; have hfz20_4 := blk_frozen BK442.out 4; have hfz20_5 := blk_frozen BK442.out 5) | ((with_reducible refine gate_callee (f := 31) rfl ?_); refine goesL_ (some 53) rfl rfl Try.func31 (by kernel_rfl) rfl #[.agg #[.string t436, .string t437, .int .i64 t438, .int .i64 t439, .int .i64 t438, .bool true], .int .i64 (wrap64 ((wrap64 (1 + t443)) + (wrap64 (1 + t444))))] rfl (by (try simp only [List.map_toArray, List.map_cons, List.map_nil]); first | done | rfl | (simp only [List.length_drop, List.length_take]; rfl)) ?_; (with_reducible refine (impl_FillOf.calls kj2 t436 t437 t438 t439 t438 true (wrap64 ((wrap64 (1 + t443)) + (wrap64 (1 + t444)))) t449 t450 _ A11.out).mono ?_); rintro e w21 ⟨rfl, hb⟩; refine ⟨_, rfl, ?_⟩; have n0_ := Aside0.mk (blk_below (g := gb442) (o := .cells #[.string t436, .string t437, .int .i64 t438, .int .i64 t439, .int .i64 t438, .bool true] 35 (0, 0)) (by (with_reducible repeat (first | refine blk_drewN ?_ _ | refine blk_drew ?_ | refine blk_alloc ?_ _)); exact BK442.out) hb); have n1_ := Aside0.mk (below_step (by repeat (first | (with_reducible first | exact HB.out | apply below_alloc | apply pw_below_drewN | apply below_drew1 | refine below_set ?_ GE442.out) | exact HB.out)) hb); clear BK442; clear HB; have BK442 := n0_; have HB := n1_; clear n0_ n1_; (try clear hb); (try clear hb2); (try clear hk); (try clear hi); have hcz22_0 : w21.cell? ⟨gb442, 0, none⟩ = some (.string t436) := (blk_cell BK442.out 0).trans rfl; have hcz22_1 : w21.cell? ⟨gb442, 1, none⟩ = some (.string t437) := (blk_cell BK442.out 1).trans rfl; have hcz22_2 : w21.cell? ⟨gb442, 2, none⟩ = some (.int .i64 t438) := (blk_cell BK442.out 2).trans rfl; have hcz22_3 : w21.cell? ⟨gb442, 3, none⟩ = some (.int .i64 t439) := (blk_cell BK442.out 3).trans rfl; have hcz22_4 : w21.cell? ⟨gb442, 4, none⟩ = some (.int .i64 t438) := (blk_cell BK442.out 4).trans rfl; have hcz22_5 : w21.cell? ⟨gb442, 5, none⟩ = some (.bool true) := (blk_cell BK442.out 5).trans rfl; have hfz22_0 := blk_frozen BK442.out 0; have hfz22_1 := blk_frozen BK442.out 1; have hfz22_2 := blk_frozen BK442.out 2; have hfz22_3 := blk_frozen BK442.out 3; have hfz22_4 := blk_frozen BK442.out 4; have hfz22_5 := blk_frozen BK442.out 5) | ((with_reducible refine gate_callee (f := 30) rfl ?_); refine goesL_ (some 61) rfl rfl Try.func30 (by kernel_rfl) rfl #[.agg #[.string t436, .string t437, .int .i64 t438, .int .i64 t439, .int .i64 t438, .bool true], .int .i64 (wrap64 ((wrap64 (1 + t443)) + (wrap64 (1 + t444))))] rfl (by (try simp only [List.map_toArray, List.map_cons, List.map_nil]); first | done | rfl | (simp only [List.length_drop, List.length_take]; rfl)) ?_; (with_reducible refine (spec_FillOf.calls kj2 t436 t437 t438 t439 t438 true (wrap64 ((wrap64 (1 + t443)) + (wrap64 (1 + t444)))) t451 t452 _ A12.out).mono ?_); rintro e w23 ⟨rfl, hb⟩; refine ⟨_, rfl, ?_⟩; have n0_ := Aside0.mk (blk_below (g := gb442) (o := .cells #[.string t436, .string t437, .int .i64 t438, .int .i64 t439, .int .i64 t438, .bool true] 35 (0, 0)) (by (with_reducible repeat (first | refine blk_drewN ?_ _ | refine blk_drew ?_ | refine blk_alloc ?_ _)); exact BK442.out) hb); have n1_ := Aside0.mk (below_step (by repeat (first | (with_reducible first | exact HB.out | apply below_alloc | apply pw_below_drewN | apply below_drew1 | refine below_set ?_ GE442.out) | exact HB.out)) hb); clear BK442; clear HB; have BK442 := n0_; have HB := n1_; clear n0_ n1_; (try clear hb); (try clear hb2); (try clear hk); (try clear hi)))
        (try simp only [Act.put, List.setIfInBounds_toArray, List.set_cons_zero, List.set_cons_succ])
        go_cut [87] (fun v87 wc => ∃ (kq : Nat) (x87_12 : Bool), v87 = .bool x87_12 ∧ Aside0 (laws_FnSplit.j1 kq t445 t446 t447 t448 t449 t450 x87_12 = some r) ∧ Aside0 (kq ≤ kj2) ∧ Aside0 (wc.heap[gb442]? = some (.cells #[.string t436, .string t437, .int .i64 t438, .int .i64 t439, .int .i64 t438, .bool true] 35 (0, 0))) ∧ Aside0 (Below w.heap.size w wc))
        case first =>
          have H := HC13.out
          clear HC13
          by_cases c24 : t450 = t452
          · rw [if_pos c24] at H
            have c24b0 : (t450 == t452) = true := beq_iff_eq.mpr c24
            have c24b1 : (t450 != t452) = false := bne_eq_false_iff_eq.mpr c24
            clear c24
            (first | rw [c24b0] | (simp only [i64_w, i32_w]; rw [c24b0]) | skip)
            by_cases c25 : t449 = t451
            · rw [if_pos c25] at H
              have c25b0 : (t449 == t451) = true := beq_iff_eq.mpr c25
              have c25b1 : (t449 != t451) = false := bne_eq_false_iff_eq.mpr c25
              clear c25
              by_cases c26 : t446 = 0
              · rw [if_pos c26] at H
                have c26b0 : (t446 == 0) = true := beq_iff_eq.mpr c26
                have c26b1 : (t446 != 0) = false := bne_eq_false_iff_eq.mpr c26
                clear c26
                by_cases c27 : t448 = 0
                · rw [if_pos c27] at H
                  have c27b0 : (t448 == 0) = true := beq_iff_eq.mpr c27
                  have c27b1 : (t448 != 0) = false := bne_eq_false_iff_eq.mpr c27
                  clear c27
                  have H' := Aside0.mk H
                  clear H
                  go_wp2
                  go_meet
                  case rel => exact ⟨_, (false), (by first | rfl | (simp; done) | (simp [*]; done)), H', ⟨by have := HJ2.out; first | omega | exact Nat.le_refl _⟩, ⟨by (with_reducible repeat (first | refine blk_drewN ?_ _ | refine blk_drew ?_ | refine blk_alloc ?_ _)); exact BK442.out⟩, ⟨by repeat (first | (with_reducible first | exact HB.out | apply below_alloc | apply pw_below_drewN | apply below_drew1 | refine below_set ?_ GE442.out) | exact HB.out)⟩⟩
                · rw [if_neg c27] at H
                  have c27b0 : (t448 == 0) = false := beq_eq_false_iff_ne.mpr c27
                  have c27b1 : (t448 != 0) = true := bne_iff_ne.mpr c27
                  have H' := Aside0.mk H
                  clear H
                  go_wp2
                  go_meet
                  case rel => exact ⟨_, ((t447 != 0)), (by first | rfl | (simp; done) | (simp [*]; done)), H', ⟨by have := HJ2.out; first | omega | exact Nat.le_refl _⟩, ⟨by (with_reducible repeat (first | refine blk_drewN ?_ _ | refine blk_drew ?_ | refine blk_alloc ?_ _)); exact BK442.out⟩, ⟨by repeat (first | (with_reducible first | exact HB.out | apply below_alloc | apply pw_below_drewN | apply below_drew1 | refine below_set ?_ GE442.out) | exact HB.out)⟩⟩
              · rw [if_neg c26] at H
                have c26b0 : (t446 == 0) = false := beq_eq_false_iff_ne.mpr c26
                have c26b1 : (t446 != 0) = true := bne_iff_ne.mpr c26
                by_cases c28 : t445 = 0
                · rw [if_pos c28] at H
                  have c28b0 : (t445 == 0) = true := beq_iff_eq.mpr c28
                  have c28b1 : (t445 != 0) = false := bne_eq_false_iff_eq.mpr c28
                  clear c28
                  by_cases c29 : t448 = 0
                  · rw [if_pos c29] at H
                    have c29b0 : (t448 == 0) = true := beq_iff_eq.mpr c29
                    have c29b1 : (t448 != 0) = false := bne_eq_false_iff_eq.mpr c29
                    clear c29
                    have H' := Aside0.mk H
                    clear H
                    go_wp2
                    go_meet
                    case rel => exact ⟨_, (false), (by first | rfl | (simp; done) | (simp [*]; done)), H', ⟨by have := HJ2.out; first | omega | exact Nat.le_refl _⟩, ⟨by (with_reducible repeat (first | refine blk_drewN ?_ _ | refine blk_drew ?_ | refine blk_alloc ?_ _)); exact BK442.out⟩, ⟨by repeat (first | (with_reducible first | exact HB.out | apply below_alloc | apply pw_below_drewN | apply below_drew1 | refine below_set ?_ GE442.out) | exact HB.out)⟩⟩
                  · rw [if_neg c29] at H
                    have c29b0 : (t448 == 0) = false := beq_eq_false_iff_ne.mpr c29
                    have c29b1 : (t448 != 0) = true := bne_iff_ne.mpr c29
                    have H' := Aside0.mk H
                    clear H
                    go_wp2
                    go_meet
                    case rel => exact ⟨_, ((t447 != 0)), (by first | rfl | (simp; done) | (simp [*]; done)), H', ⟨by have := HJ2.out; first | omega | exact Nat.le_refl _⟩, ⟨by (with_reducible repeat (first | refine blk_drewN ?_ _ | refine blk_drew ?_ | refine blk_alloc ?_ _)); exact BK442.out⟩, ⟨by repeat (first | (with_reducible first | exact HB.out | apply below_alloc | apply pw_below_drewN | apply below_drew1 | refine below_set ?_ GE442.out) | exact HB.out)⟩⟩
                · rw [if_neg c28] at H
                  have c28b0 : (t445 == 0) = false := beq_eq_false_iff_ne.mpr c28
                  have c28b1 : (t445 != 0) = true := bne_iff_ne.mpr c28
                  have H' := Aside0.mk H
                  clear H
                  go_wp2
                  go_meet
                  case rel => exact ⟨_, (true), (by first | rfl | (simp; done) | (simp [*]; done)), H', ⟨by have := HJ2.out; first | omega | exact Nat.le_refl _⟩, ⟨by (with_reducible repeat (first | refine blk_drewN ?_ _ | refine blk_drew ?_ | refine blk_alloc ?_ _)); exact BK442.out⟩, ⟨by repeat (first | (with_reducible first | exact HB.out | apply below_alloc | apply pw_below_drewN | apply below_drew1 | refine below_set ?_ GE442.out) | exact HB.out)⟩⟩
            · rw [if_neg c25] at H
              have c25b0 : (t449 == t451) = false := beq_eq_false_iff_ne.mpr c25
              have c25b1 : (t449 != t451) = true := bne_iff_ne.mpr c25
              have H' := Aside0.mk H
              clear H
              go_wp2
              go_meet
              case rel => exact ⟨_, (true), (by first | rfl | (simp; done) | (simp [*]; done)), H', ⟨by have := HJ2.out; first | omega | exact Nat.le_refl _⟩, ⟨by (with_reducible repeat (first | refine blk_drewN ?_ _ | refine blk_drew ?_ | refine blk_alloc ?_ _)); exact BK442.out⟩, ⟨by repeat (first | (with_reducible first | exact HB.out | apply below_alloc | apply pw_below_drewN | apply below_drew1 | refine below_set ?_ GE442.out) | exact HB.out)⟩⟩
          · rw [if_neg c24] at H
            have c24b0 : (t450 == t452) = false := beq_eq_false_iff_ne.mpr c24
            have c24b1 : (t450 != t452) = true := bne_iff_ne.mpr c24
            (first | rw [c24b0] | (simp only [i64_w, i32_w]; rw [c24b0]) | skip)
            have H' := Aside0.mk H
            clear H
            go_wp2
            go_meet
            case rel => exact ⟨_, (true), (by first | rfl | (simp; done) | (simp [*]; done)), H', ⟨by have := HJ2.out; first | omega | exact Nat.le_refl _⟩, ⟨by (with_reducible repeat (first | refine blk_drewN ?_ _ | refine blk_drew ?_ | refine blk_alloc ?_ _)); exact BK442.out⟩, ⟨by repeat (first | (with_reducible first | exact HB.out | apply below_alloc | apply pw_below_drewN | apply below_drew1 | refine below_set ?_ GE442.out) | exact HB.out)⟩⟩
        case rest =>
          clear HC13
          try clear c1
          try clear c2
          try clear p2
          try clear c3
          try clear c4
          try clear c4b0
          try clear c4b1
          try clear c5
          try clear p6
          try clear c13
          try clear c24
          try clear c24b0
          try clear c24b1
          try clear c25
          try clear c25b0
          try clear c25b1
          try clear c26
          try clear c26b0
          try clear c26b1
          try clear c27
          try clear c27b0
          try clear c27b1
          try clear c28
          try clear c28b0
          try clear c28b1
          try clear c29
          try clear c29b0
          try clear c29b1
          try clear hcz16_0
          try clear hcz16_1
          try clear hcz16_2
          try clear hcz16_3
          try clear hcz16_4
          try clear hcz16_5
          try clear hcz18_0
          try clear hcz18_1
          try clear hcz18_2
          try clear hcz18_3
          try clear hcz18_4
          try clear hcz18_5
          try clear hcz20_0
          try clear hcz20_1
          try clear hcz20_2
          try clear hcz20_3
          try clear hcz20_4
          try clear hcz20_5
          try clear hcz22_0
          try clear hcz22_1
          try clear hcz22_2
          try clear hcz22_3
          try clear hcz22_4
          try clear hcz22_5
          try clear hfz16_0
          try clear hfz16_1
          try clear hfz16_2
          try clear hfz16_3
          try clear hfz16_4
          try clear hfz16_5
          try clear hfz18_0
          try clear hfz18_1
          try clear hfz18_2
          try clear hfz18_3
          try clear hfz18_4
          try clear hfz18_5
          try clear hfz20_0
          try clear hfz20_1
          try clear hfz20_2
          try clear hfz20_3
          try clear hfz20_4
          try clear hfz20_5
          try clear hfz22_0
          try clear hfz22_1
          try clear hfz22_2
          try clear hfz22_3
          try clear hfz22_4
          try clear hfz22_5
          try clear p2
          obtain ⟨kq, x87_12, rfl, HA, HJ12, BK442, HB⟩ := hcut
          cases kq with
          | zero => exact absurd HA.out (by simp [laws_FnSplit.j1])
          | succ kj12 =>
            have H := HA.out
            clear HA
            simp only [laws_FnSplit.j1] at H
            by_cases c30 : x87_12 = true
            · subst c30
              have H1 : (some false) = some r := by rw [if_pos rfl] at H; exact H
              clear H
              have H := H1
              clear H1
              obtain rfl := Option.some.inj H
              go_wp2
              go_ret
              exact ⟨by first | rfl | (simp [errW_none, errW_some] <;> rfl) | (simp [*, errW_none, errW_some] <;> rfl), by repeat (first | (with_reducible first | exact HB.out | apply below_alloc | apply pw_below_drewN | apply below_drew1 | refine below_set ?_ GE442.out) | exact HB.out)⟩
            · replace c30 := Bool.eq_false_iff.mpr c30
              subst c30
              have H1 : (if t450 = 0 then (if t446 = 13 then (if t450 = 13 then (some true) else (some (t450 == 17))) else (if t448 = 13 then (if t450 = 13 then (some true) else (some (t450 == 17))) else (if (wrap64 (t445 + t447)) ≤ t449 then (some (decide (t449 ≤ (wrap64 ((wrap64 (t445 + t447)) + 1))))) else (some false)))) else (if t450 = 13 then (some true) else (some (t450 == 17)))) = some r := by rw [if_neg (show ¬ (false = true) by decide)] at H; exact H
              clear H
              have H := H1
              clear H1
              by_cases c31 : t450 = 0
              · rw [if_pos c31] at H
                have c31b0 : (t450 == 0) = true := beq_iff_eq.mpr c31
                have c31b1 : (t450 != 0) = false := bne_eq_false_iff_eq.mpr c31
                clear c31
                by_cases c32 : t446 = 13
                · rw [if_pos c32] at H
                  have c32b0 : (t446 == 13) = true := beq_iff_eq.mpr c32
                  have c32b1 : (t446 != 13) = false := bne_eq_false_iff_eq.mpr c32
                  clear c32
                  by_cases c33 : t450 = 13
                  · rw [if_pos c33] at H
                    have c33b0 : (t450 == 13) = true := beq_iff_eq.mpr c33
                    have c33b1 : (t450 != 13) = false := bne_eq_false_iff_eq.mpr c33
                    clear c33
                    obtain rfl := Option.some.inj H
                    go_wp2
                    go_ret
                    exact ⟨by first | rfl | (simp [errW_none, errW_some] <;> rfl) | (simp [*, errW_none, errW_some] <;> rfl), by repeat (first | (with_reducible first | exact HB.out | apply below_alloc | apply pw_below_drewN | apply below_drew1 | refine below_set ?_ GE442.out) | exact HB.out)⟩
                  · rw [if_neg c33] at H
                    have c33b0 : (t450 == 13) = false := beq_eq_false_iff_ne.mpr c33
                    have c33b1 : (t450 != 13) = true := bne_iff_ne.mpr c33
                    obtain rfl := Option.some.inj H
                    go_wp2
                    go_ret
                    exact ⟨by first | rfl | (simp [errW_none, errW_some] <;> rfl) | (simp [*, errW_none, errW_some] <;> rfl), by repeat (first | (with_reducible first | exact HB.out | apply below_alloc | apply pw_below_drewN | apply below_drew1 | refine below_set ?_ GE442.out) | exact HB.out)⟩
                · rw [if_neg c32] at H
                  have c32b0 : (t446 == 13) = false := beq_eq_false_iff_ne.mpr c32
                  have c32b1 : (t446 != 13) = true := bne_iff_ne.mpr c32
                  by_cases c34 : t448 = 13
                  · rw [if_pos c34] at H
                    have c34b0 : (t448 == 13) = true := beq_iff_eq.mpr c34
                    have c34b1 : (t448 != 13) = false := bne_eq_false_iff_eq.mpr c34
                    clear c34
                    by_cases c35 : t450 = 13
                    · rw [if_pos c35] at H
                      have c35b0 : (t450 == 13) = true := beq_iff_eq.mpr c35
                      have c35b1 : (t450 != 13) = false := bne_eq_false_iff_eq.mpr c35
                      clear c35
                      obtain rfl := Option.some.inj H
                      go_wp2
                      go_ret
                      exact ⟨by first | rfl | (simp [errW_none, errW_some] <;> rfl) | (simp [*, errW_none, errW_some] <;> rfl), by repeat (first | (with_reducible first | exact HB.out | apply below_alloc | apply pw_below_drewN | apply below_drew1 | refine below_set ?_ GE442.out) | exact HB.out)⟩
                    · rw [if_neg c35] at H
                      have c35b0 : (t450 == 13) = false := beq_eq_false_iff_ne.mpr c35
                      have c35b1 : (t450 != 13) = true := bne_iff_ne.mpr c35
                      obtain rfl := Option.some.inj H
                      go_wp2
                      go_ret
                      exact ⟨by first | rfl | (simp [errW_none, errW_some] <;> rfl) | (simp [*, errW_none, errW_some] <;> rfl), by repeat (first | (with_reducible first | exact HB.out | apply below_alloc | apply pw_below_drewN | apply below_drew1 | refine below_set ?_ GE442.out) | exact HB.out)⟩
                  · rw [if_neg c34] at H
                    have c34b0 : (t448 == 13) = false := beq_eq_false_iff_ne.mpr c34
                    have c34b1 : (t448 != 13) = true := bne_iff_ne.mpr c34
                    by_cases c36 : (wrap64 (t445 + t447)) ≤ t449
                    · rw [if_pos c36] at H
                      have c36b0 : decide ((wrap64 (t445 + t447)) ≤ t449) = true := decide_eq_true c36
                      clear c36
                      obtain rfl := Option.some.inj H
                      go_wp2
                      go_ret
                      exact ⟨by first | rfl | (simp [errW_none, errW_some] <;> rfl) | (simp [*, errW_none, errW_some] <;> rfl), by repeat (first | (with_reducible first | exact HB.out | apply below_alloc | apply pw_below_drewN | apply below_drew1 | refine below_set ?_ GE442.out) | exact HB.out)⟩
                    · rw [if_neg c36] at H
                      have c36b0 : decide ((wrap64 (t445 + t447)) ≤ t449) = false := decide_eq_false c36
                      clear c36
                      obtain rfl := Option.some.inj H
                      go_wp2
                      go_ret
                      exact ⟨by first | rfl | (simp [errW_none, errW_some] <;> rfl) | (simp [*, errW_none, errW_some] <;> rfl), by repeat (first | (with_reducible first | exact HB.out | apply below_alloc | apply pw_below_drewN | apply below_drew1 | refine below_set ?_ GE442.out) | exact HB.out)⟩
              · rw [if_neg c31] at H
                have c31b0 : (t450 == 0) = false := beq_eq_false_iff_ne.mpr c31
                have c31b1 : (t450 != 0) = true := bne_iff_ne.mpr c31
                by_cases c37 : t450 = 13
                · rw [if_pos c37] at H
                  have c37b0 : (t450 == 13) = true := beq_iff_eq.mpr c37
                  have c37b1 : (t450 != 13) = false := bne_eq_false_iff_eq.mpr c37
                  clear c37
                  obtain rfl := Option.some.inj H
                  go_wp2
                  go_ret
                  exact ⟨by first | rfl | (simp [errW_none, errW_some] <;> rfl) | (simp [*, errW_none, errW_some] <;> rfl), by repeat (first | (with_reducible first | exact HB.out | apply below_alloc | apply pw_below_drewN | apply below_drew1 | refine below_set ?_ GE442.out) | exact HB.out)⟩
                · rw [if_neg c37] at H
                  have c37b0 : (t450 == 13) = false := beq_eq_false_iff_ne.mpr c37
                  have c37b1 : (t450 != 13) = true := bne_iff_ne.mpr c37
                  obtain rfl := Option.some.inj H
                  go_wp2
                  go_ret
                  exact ⟨by first | rfl | (simp [errW_none, errW_some] <;> rfl) | (simp [*, errW_none, errW_some] <;> rfl), by repeat (first | (with_reducible first | exact HB.out | apply below_alloc | apply pw_below_drewN | apply below_drew1 | refine below_set ?_ GE442.out) | exact HB.out)⟩

/-- THE ONE PURE STATEMENT of laws_FnSplit: yours. -/
def laws_FnSplit.Pure : Prop := ∀ (l0 : List Int) (l1 : List Int), l0.length ≤ maxLen → l0.length * 1 ≤ 140737488351232 → (∀ x ∈ l0, (Lit.int .u8 x).wf = true) → l1.length ≤ maxLen → l1.length * 1 ≤ 140737488351232 → (∀ x ∈ l1, (Lit.int .u8 x).wf = true) → ∃ k, laws_FnSplit.f k l0 l1 = some true
theorem laws_FnSplit.walk (P : laws_FnSplit.Pure) (a0 : Option Addr) (len0 cap0 : Nat) (z0 : List Int) (a1 : Option Addr) (len1 cap1 : Nat) (z1 : List Int) (w : World) (w0 : (a0 = none ∧ len0 = 0 ∧ cap0 = 0 ∧ z0 = []) ∨ ∃ x, a0 = some x ∧ len0 ≤ cap0 ∧ cap0 ≤ maxLen ∧ z0.length = cap0 ∧ (∀ i, i < z0.length → w.cell? (x.add i) = some (.int .u8 (z0.getD i 0))) ∧ ∀ n ∈ z0, (Lit.int .u8 n).wf = true) (y0 : len0 * 1 ≤ 140737488351232) (w1 : (a1 = none ∧ len1 = 0 ∧ cap1 = 0 ∧ z1 = []) ∨ ∃ x, a1 = some x ∧ len1 ≤ cap1 ∧ cap1 ≤ maxLen ∧ z1.length = cap1 ∧ (∀ i, i < z1.length → w.cell? (x.add i) = some (.int .u8 (z1.getD i 0))) ∧ ∀ n ∈ z1, (Lit.int .u8 n).wf = true) (y1 : len1 * 1 ≤ 140737488351232) :
    Calls Try.prog 13 #[.slice a0 len0 cap0, .slice a1 len1 cap1] w fun e w' => e = .returned (.bool true) ∧ Below w.heap.size w w' := by
  obtain ⟨l0, rfl, hr0, hm0, hw0, hc0⟩ := ReadsInt.ofRowC w0
  obtain ⟨l1, rfl, hr1, hm1, hw1, hc1⟩ := ReadsInt.ofRowC w1
  obtain ⟨k, h⟩ := P l0 l1 hm0 y0 hw0 hm1 y1 hw1
  refine (laws_FnSplit.calls k _ _ l0 _ _ l1 true w (Kd.C_of_reads (d := (0 : Int)) (h1 := fun _ => rfl) hr0) hc0 (Kd.C_of_reads (d := (0 : Int)) (h1 := fun _ => rfl) hr1) hc1 h).mono ?_
  rintro e w' ⟨rfl, hd⟩
  exact ⟨rfl, hd⟩

end Go.Proofs.Ytppgnndolgmcfaa.Q

/- Plain arithmetic: products of two amounts in halves of nine digits; long division digit by digit. No program. -/
namespace Go.Proofs.Ytppgnndolgmcfaa.U
open Go Go.RowKit
set_option linter.unusedVariables false
set_option linter.unusedSimpArgs false

theorem wid {n : Int} (h0 : -9223372036854775808 ≤ n) (h1 : n ≤ 9223372036854775807) : wrap64 n = n := IntWalk.wrap64_in n ⟨h0, h1⟩
theorem tdiv_nn {a b : Int} (h : 0 ≤ a) : Int.tdiv a b = a / b := Int.tdiv_eq_ediv_of_nonneg h
theorem tmod_nn {a b : Int} (h : 0 ≤ a) : Int.tmod a b = a % b := Int.tmod_eq_emod_of_nonneg h
theorem u64w (n : Int) : IntKind.u64.wrap n = n % 18446744073709551616 := by simp [IntKind.wrap, IntKind.bits, IntKind.signed]
theorem u64id {n : Int} (h0 : 0 ≤ n) (h1 : n < 18446744073709551616) : IntKind.u64.wrap n = n := by rw [u64w]; exact Int.emod_eq_of_lt h0 h1

theorem mul_bd {x y X Y : Int} (hx : 0 ≤ x) (hx' : x ≤ X) (hy : 0 ≤ y) (hy' : y ≤ Y) : 0 ≤ x * y ∧ x * y ≤ X * Y :=
  ⟨Int.mul_nonneg hx hy, Int.mul_le_mul hx' hy' hy (Int.le_trans hx hx')⟩

theorem wide_eq (a b : Int) (ha : 0 ≤ a) (ha' : a ≤ 1000000000000000000) (hb : 0 ≤ b) (hb' : b ≤ 1000000000000000000) :
    a * b = (a / 1000000000) * (b / 1000000000) * 1000000000000000000 + ((a / 1000000000) * (b % 1000000000) + (a % 1000000000) * (b / 1000000000)) * 1000000000 + (a % 1000000000) * (b % 1000000000) := by
  have e1 : a = (a / 1000000000) * 1000000000 + a % 1000000000 := by omega
  have e2 : b = (b / 1000000000) * 1000000000 + b % 1000000000 := by omega
  generalize a / 1000000000 = x at *
  generalize a % 1000000000 = y at *
  generalize b / 1000000000 = z at *
  generalize b % 1000000000 = u at *
  subst e1 e2
  grind

/-- One digit more of a long division. -/
theorem digit_step (c T out rest low : Int) (hc : 1 ≤ c) (hT : 1 ≤ T) (hr : 0 ≤ rest) (hl : 0 ≤ low) :
    (out * 10 + (10 * rest + low / T % 10) / c) * T + ((10 * rest + low / T % 10) % c * T + low % T) / c = out * (10 * T) + (rest * (10 * T) + low % (10 * T)) / c := by
  have e1 : low % (10 * T) = low / T % 10 * T + low % T := by
    have h1 : low / (10 * T) = low / T / 10 := by rw [Int.mul_comm, Int.ediv_ediv_of_nonneg (by omega)]
    have h2 := Int.mul_ediv_add_emod low (10 * T)
    have h3 := Int.mul_ediv_add_emod low T
    have h4 := Int.mul_ediv_add_emod (low / T) 10
    rw [h1] at h2
    generalize low / T / 10 = p at *
    generalize low / T % 10 = d at *
    generalize low / T = m at *
    subst h4
    generalize low % T = e at *
    generalize low % (10 * T) = f at *
    grind
  have h5 := Int.mul_ediv_add_emod (10 * rest + low / T % 10) c
  generalize low / T % 10 = d at *
  generalize (10 * rest + d) / c = q at *
  generalize (10 * rest + d) % c = s at *
  have e2 : rest * (10 * T) + low % (10 * T) = c * (q * T) + (s * T + low % T) := by
    rw [e1]
    generalize low % T = e at *
    grind
  rw [e2, Int.mul_add_ediv_left _ _ (by omega)]
  grind

/-- Knuth's step: a digit that is guessed too great is told by the lower half. -/
theorem knuth_lower (Y yn1 yn0 u v q : Int) (hY : Y = yn1 * 4294967296 + yn0) (h0 : 0 ≤ yn0) (hv : 0 ≤ v) (hv' : v < 4294967296) (hq : 0 ≤ q) (h : q * Y ≤ u * 4294967296 + v) : q * yn1 ≤ u := by
  have h1 : q * Y = q * yn1 * 4294967296 + q * yn0 := by subst hY; grind
  have h2 : 0 ≤ q * yn0 := Int.mul_nonneg hq h0
  omega

end Go.Proofs.Ytppgnndolgmcfaa.U

/- The reference's draws: one of so many, out of a code of bytes. -/
namespace Go.Proofs.Ytppgnndolgmcfaa.U
open Go Go.RowKit Go.Proofs.Ytppgnndolgmcfaa.Q Go.Proofs.YtppgnndolgmcfaaW.PrintWords Go.Proofs.YtppgnndolgmcfaaW.PrintLast Go.Proofs.YtppgnndolgmcfaaW.PrintMore
set_option linter.unusedVariables false
set_option linter.unusedSimpArgs false

def Bytes (l : List Int) : Prop := ∀ x ∈ l, 0 ≤ x ∧ x < 256
theorem bytes_of {l : List Int} (h : ∀ x ∈ l, (Lit.int .u8 x).wf = true) : Bytes l := by
  intro x hx
  have := h x hx
  simp [Lit.wf, IntKind.min, IntKind.max, IntKind.bits, IntKind.signed] at this
  omega
theorem rd_byte {l : List Int} (h : Bytes l) {i : Int} (h0 : 0 ≤ i) (h1 : i < (l.length : Int)) : 0 ≤ rd l i ∧ rd l i < 256 := by
  obtain ⟨n, rfl⟩ := Int.eq_ofNat_of_zero_le h0
  have hn : n < l.length := by omega
  have : rd l (n : Int) = l[n] := by simp [rd, List.getD_eq_getElem?_getD, List.getElem?_eq_getElem hn]
  rw [this]
  exact h _ (List.getElem_mem hn)

/-- A source's state: how many were drawn (at most n), and the seed. -/
def Src (n a s : Int) : Prop := 0 ≤ a ∧ a ≤ n ∧ 0 ≤ s ∧ s < 2147483648

theorem seed_bd (x : Int) (h : 0 ≤ x) : 0 ≤ Int.tmod x 2147483648 ∧ Int.tmod x 2147483648 < 2147483648 := by
  rw [tmod_nn h]; omega

theorem byte_ok {l : List Int} (hl : Bytes l) {n a s : Int} (h : Src n a s) (hn : n < 1000000000) :
    ∃ v a' s', spec_l00Src_byte.f l a s = some (v, a', s') ∧ 0 ≤ v ∧ v < 256 ∧ Src (n + 1) a' s' := by
  obtain ⟨h0, h1, h2, h3⟩ := h
  unfold spec_l00Src_byte.f
  rw [if_pos h0, if_pos (by omega)]
  by_cases hlt : a < (l.length : Int)
  · rw [if_pos hlt]
    have hb := rd_byte hl h0 hlt
    generalize rd l a = b at *
    rw [wid (n := b) (by omega) (by omega), wid (n := s * 31) (by omega) (by omega), wid (n := s * 31 + b) (by omega) (by omega), wid (n := s * 31 + b + 7) (by omega) (by omega)]
    have := seed_bd (s * 31 + b + 7) (by omega)
    exact ⟨_, _, _, rfl, hb.1, hb.2, by omega, by omega, this.1, this.2⟩
  · rw [if_neg hlt]
    by_cases h5 : a + 1 > 3000
    · rw [if_pos h5]
      exact ⟨_, _, _, rfl, by omega, by omega, by omega, by omega, h2, h3⟩
    · rw [if_neg h5]
      rw [wid (n := s * 1103515245) (by omega) (by omega), wid (n := s * 1103515245 + 12345) (by omega) (by omega)]
      have := seed_bd (s * 1103515245 + 12345) (by omega)
      generalize Int.tmod (s * 1103515245 + 12345) 2147483648 = t at *
      rw [tdiv_nn this.1, wid (n := t / 65536) (by omega) (by omega), tmod_nn (by omega)]
      exact ⟨_, _, _, rfl, by omega, by omega, by omega, by omega, this.1, this.2⟩

theorem next_ok {l : List Int} (hl : Bytes l) {n a s : Int} (h : Src n a s) (hn : n < 900000000) (m : Int) (hm : m ≤ 1000000000000) :
    ∃ v a' s', spec_l00Src_next.f l a s m = some (v, a', s') ∧ 0 ≤ v ∧ (v < m ∨ (m ≤ 1 ∧ v = 0)) ∧ Src (n + 3) a' s' := by
  unfold spec_l00Src_next.f
  by_cases h1 : m ≤ 1
  · rw [if_pos h1]
    obtain ⟨g0, g1, g2, g3⟩ := h
    exact ⟨0, a, s, rfl, by omega, .inr ⟨h1, rfl⟩, g0, by omega, g2, g3⟩
  rw [if_neg h1]
  by_cases h2 : m ≤ 256
  · rw [if_pos h2]
    obtain ⟨v, a', s', e, v0, v1, g⟩ := byte_ok hl h (by omega)
    rw [e]
    simp only [Option.bind_some]
    rw [if_neg (by omega), tmod_nn v0]
    have q1 := Int.emod_nonneg v (by omega : m ≠ 0)
    have q2 := Int.emod_lt_of_pos v (by omega : 0 < m)
    obtain ⟨g0, g1, g2, g3⟩ := g
    exact ⟨_, _, _, rfl, q1, .inl q2, g0, by omega, g2, g3⟩
  · rw [if_neg h2]
    obtain ⟨v, a', s', e, v0, v1, g⟩ := byte_ok hl h (by omega)
    rw [e]
    simp only [Option.bind_some]
    obtain ⟨v', a'', s'', e', v0', v1', g'⟩ := byte_ok hl g (by omega)
    rw [e']
    simp only [Option.bind_some]
    obtain ⟨v2, a3, s3, e2, v02, v12, g2⟩ := byte_ok hl g' (by omega)
    rw [e2]
    simp only [Option.bind_some]
    rw [if_neg (by omega), wid (n := v * 65536) (by omega) (by omega), wid (n := v' * 256) (by omega) (by omega), wid (n := v * 65536 + v' * 256) (by omega) (by omega), wid (n := v * 65536 + v' * 256 + v2) (by omega) (by omega), tmod_nn (by omega)]
    have q1 := Int.emod_nonneg (v * 65536 + v' * 256 + v2) (by omega : m ≠ 0)
    have q2 := Int.emod_lt_of_pos (v * 65536 + v' * 256 + v2) (by omega : 0 < m)
    obtain ⟨g0, g1, g2, g3⟩ := g2
    exact ⟨_, _, _, rfl, q1, .inl q2, g0, by omega, g2, g3⟩

/-- 'at' of the laws: one of n that some bytes make. -/
theorem at_ok {l : List Int} (hl : Bytes l) (hlen : (l.length : Int) ≤ 140737488351232) (i n : Int) (hi : 0 ≤ i) (hi' : i ≤ 1000) (hn : 2 ≤ n) (hn' : n ≤ 1000000) :
    ∃ v, laws_at.f l i n = some v ∧ 0 ≤ v ∧ v < n := by
  unfold laws_at.f
  rw [if_neg (by omega)]
  by_cases h0 : (l.length : Int) = 0
  · rw [if_pos h0, if_neg (by omega), wid (n := i * 7) (by omega) (by omega), tmod_nn (by omega)]
    exact ⟨_, rfl, Int.emod_nonneg _ (by omega), Int.emod_lt_of_pos _ (by omega)⟩
  · rw [if_neg h0]
    have p1 := Int.emod_nonneg i (by omega : (l.length : Int) ≠ 0)
    have p2 := Int.emod_lt_of_pos i (by omega : 0 < (l.length : Int))
    have p3 := Int.emod_nonneg (i + 1) (by omega : (l.length : Int) ≠ 0)
    have p4 := Int.emod_lt_of_pos (i + 1) (by omega : 0 < (l.length : Int))
    rw [tmod_nn hi, wid (n := i + 1) (by omega) (by omega), tmod_nn (by omega)]
    rw [if_pos p1, if_pos p2, if_pos p3, if_pos p4, if_neg (by omega)]
    have b1 := rd_byte hl p1 p2
    have b2 := rd_byte hl p3 p4
    generalize rd l (i % (l.length : Int)) = x at *
    generalize rd l ((i + 1) % (l.length : Int)) = y at *
    have d0 : 0 ≤ i / (l.length : Int) := Int.ediv_nonneg hi (by omega)
    have d1 : i / (l.length : Int) ≤ i := Int.ediv_le_self _ hi
    rw [tdiv_nn hi]
    generalize i / (l.length : Int) = z at *
    rw [wid (n := x) (by omega) (by omega), wid (n := y) (by omega) (by omega), wid (n := z) (by omega) (by omega), wid (n := x * 31) (by omega) (by omega), wid (n := x * 31 + y) (by omega) (by omega), wid (n := x * 31 + y + z) (by omega) (by omega), tmod_nn (by omega)]
    exact ⟨_, rfl, Int.emod_nonneg _ (by omega), Int.emod_lt_of_pos _ (by omega)⟩

theorem pick_ok {l : List Int} (hl : Bytes l) {n a s : Int} (h : Src n a s) (hn : n < 900000000) (ws : List ByteArray) (h0 : ws ≠ []) (hw : ws.length < 200) :
    ∃ w a' s', spec_l00Src_pick.f l a s ws = some (w, a', s') ∧ w ∈ ws ∧ Src (n + 3) a' s' := by
  unfold spec_l00Src_pick.f
  have hlen : 0 < ws.length := List.length_pos_iff.2 h0
  rw [if_neg (by omega)]
  obtain ⟨v, a', s', e, v0, v1, g⟩ := next_ok hl h hn (ws.length : Int) (by omega)
  rw [e]
  simp only [Option.bind_some]
  have hv : v < (ws.length : Int) := by omega
  rw [if_pos v0, if_pos hv]
  obtain ⟨m, rfl⟩ := Int.eq_ofNat_of_zero_le v0
  have hm : m < ws.length := by omega
  have : rdOf ByteArray.empty ws (m : Int) = ws[m] := by simp [rdOf, List.getD_eq_getElem?_getD, List.getElem?_eq_getElem hm]
  exact ⟨_, _, _, rfl, by rw [this]; exact List.getElem_mem hm, g⟩

theorem chance_ok {l : List Int} (hl : Bytes l) {n a s : Int} (h : Src n a s) (hn : n < 900000000) (m : Int) (hm : 0 ≤ m ∧ m ≤ 1000000) :
    ∃ b a' s', spec_l00Src_chance.f l a s m = some (b, a', s') ∧ Src (n + 3) a' s' := by
  unfold spec_l00Src_chance.f
  obtain ⟨v, a', s', e, v0, v1, g⟩ := next_ok hl h hn m (by omega)
  rw [e]
  exact ⟨_, _, _, rfl, g⟩

theorem source_eq (l : List Int) : spec_l00Source.f l = some (l, 0, (l.length : Int) % 1000) := rfl
theorem source_src (l : List Int) : Src 0 0 ((l.length : Int) % 1000) := by unfold Src; omega

end Go.Proofs.Ytppgnndolgmcfaa.U

namespace Go.Proofs.Ytppgnndolgmcfaa.Q
open Go.RowKit Go.Proofs.YtppgnndolgmcfaaW.PrintWords Go.Proofs.YtppgnndolgmcfaaW.PrintLast Go.Proofs.YtppgnndolgmcfaaW.PrintMore
attribute [local go_sem] max2_int min2_int max_two min_two max_three min_three max_four min_four   -- for this text's walks alone
set_option linter.unusedVariables false
set_option linter.unusedSimpArgs false

/-! ### spec_PoolOK: function 14 -/
def spec_PoolOK.j0 : Nat → Bool → Int → Int → Int → Option (Bool)
  | 0, _, _, _, _ => none
  | k + 1, x15, x102000, x102001, x102002 => if x15 = true then (some true) else ((spec_l01In.f x102000 1 1000000000000000000).bind fun t102 => (if t102 = true then ((spec_l01In.f x102001 1 1000000000000000000).bind fun t103 => (if t103 = true then ((spec_l01In.f x102002 1 1000000000000000000).bind fun t104 => (some t104)) else (some false))) else (some false)))
def spec_PoolOK.f (k : Nat) (a0_0 : Int) (a0_1 : Int) (a0_2 : Int) : Option (Bool) := if a0_0 = 0 then (if a0_1 = 0 then (spec_PoolOK.j0 k (a0_2 == 0) a0_0 a0_1 a0_2) else (spec_PoolOK.j0 k false a0_0 a0_1 a0_2)) else (spec_PoolOK.j0 k false a0_0 a0_1 a0_2)
theorem spec_PoolOK.mono_l : ∀ k, (∀ y0 y1 y2 y3, LeO (spec_PoolOK.j0 k y0 y1 y2 y3) (spec_PoolOK.j0 (k + 1) y0 y1 y2 y3))
  | 0 => fun _ _ _ _ r h => by simp [spec_PoolOK.j0] at h
  | k + 1 => by
    have ih0 := spec_PoolOK.mono_l k
    · intro y0 y1 y2 y3
      unfold spec_PoolOK.j0
      repeat' first
      | (with_reducible exact ih0 _ _ _ _)
      | (with_reducible exact LeO.refl _)
      | (with_reducible exact LeO.none _)
      | (with_reducible refine LeO.ite ?_ ?_)
      | (with_reducible refine LeO.bind ?_ (fun _ => ?_))
      | exact ih0 _ _ _ _
      | exact LeO.none _
      | refine LeO.ite ?_ ?_
      | refine LeO.bind ?_ (fun _ => ?_)
theorem spec_PoolOK.mono : ∀ a0 a1 a2 k, LeO (spec_PoolOK.f k a0 a1 a2) (spec_PoolOK.f (k + 1) a0 a1 a2) := by
  intro a0 a1 a2 k
  have ih0 := spec_PoolOK.mono_l k
  unfold spec_PoolOK.f
  repeat' first
      | (with_reducible exact ih0 _ _ _ _)
      | (with_reducible exact LeO.refl _)
      | (with_reducible exact LeO.none _)
      | (with_reducible refine LeO.ite ?_ ?_)
      | (with_reducible refine LeO.bind ?_ (fun _ => ?_))
      | exact ih0 _ _ _ _
      | exact LeO.none _
      | refine LeO.ite ?_ ?_
      | refine LeO.bind ?_ (fun _ => ?_)
set_option maxHeartbeats 8000000 in
set_option maxRecDepth 100000 in
theorem spec_PoolOK.calls (k : Nat) (a0_0 : Int) (a0_1 : Int) (a0_2 : Int) (r : Bool) (w : World) (h : spec_PoolOK.f k a0_0 a0_1 a0_2 = some r) :
    Calls Try.prog 14 #[.agg #[.int .i64 a0_0, .int .i64 a0_1, .int .i64 a0_2]] w fun e w' => e = .returned (.bool r) ∧ Below w.heap.size w w' := by
  have hu25 := Try.underlying25
  have HB := Aside0.mk (Below.refl w.heap.size w)
  have H : (if a0_0 = 0 then (if a0_1 = 0 then (spec_PoolOK.j0 k (a0_2 == 0) a0_0 a0_1 a0_2) else (spec_PoolOK.j0 k false a0_0 a0_1 a0_2)) else (spec_PoolOK.j0 k false a0_0 a0_1 a0_2)) = some r := h
  clear h
  have HC2 := Aside0.mk H
  clear H
  go_enter Try.func14, Try.ntmps14
  go_upto_region 1 with (first | ((with_reducible refine gate_dst (N := 1) rfl ?_); refine box_event ?hg (N := 1) ?hd (cs := #[.int .i64 a0_0, .int .i64 a0_1, .int .i64 a0_2]) (t := 25) ?hr ?_; (case hd => rfl); (case hg => rfl); (case hr => first | (go_simp; done) | (go_simp; rfl)); intro gb101 hg w3 hbox hb; have n0_ := Aside0.mk (below_step (by repeat (first | (with_reducible first | exact HB.out | apply below_alloc | apply pw_below_drewN | apply below_drew1) | exact HB.out)) hb); have n1_ := Aside0.mk (hbox); have n2_ := Aside0.mk ((by rw [hg]; exact (below_size (by repeat (first | (with_reducible first | exact HB.out | apply below_alloc | apply pw_below_drewN | apply below_drew1) | exact HB.out))) : w.heap.size ≤ gb101)); have n3_ := Aside0.mk ((by rw [hg]; exact (below_size (by repeat (first | (with_reducible first | exact HB.out | apply below_alloc | apply pw_below_drewN | apply below_drew1) | exact HB.out))) : w.heap.size ≤ gb101)); clear HB; have HB := n0_; have BK101 := n1_; have GW101 := n2_; have GE101 := n3_; clear n0_ n1_ n2_ n3_; clear hb hbox hg))
  (try simp only [Act.put, List.setIfInBounds_toArray, List.set_cons_zero, List.set_cons_succ])
  go_cut [15] (fun v15 wc => ∃ (kq : Nat) (x15_1 : Bool), v15 = .bool x15_1 ∧ Aside0 (spec_PoolOK.j0 kq x15_1 a0_0 a0_1 a0_2 = some r) ∧ Aside0 (kq ≤ k) ∧ Aside0 (wc.heap[gb101]? = some (.cells #[.int .i64 a0_0, .int .i64 a0_1, .int .i64 a0_2] 25 (0, 0))) ∧ Aside0 (Below w.heap.size w wc))
  case first =>
    have H := HC2.out
    clear HC2
    by_cases c4 : a0_0 = 0
    · rw [if_pos c4] at H
      have c4b0 : (a0_0 == 0) = true := beq_iff_eq.mpr c4
      have c4b1 : (a0_0 != 0) = false := bne_eq_false_iff_eq.mpr c4
      clear c4
      (first | rw [c4b0] | (simp only [i64_w, i32_w]; rw [c4b0]) | skip)
      by_cases c5 : a0_1 = 0
      · rw [if_pos c5] at H
        have c5b0 : (a0_1 == 0) = true := beq_iff_eq.mpr c5
        have c5b1 : (a0_1 != 0) = false := bne_eq_false_iff_eq.mpr c5
        clear c5
        have H' := Aside0.mk H
        clear H
        have hcz6_0 : w3.cell? ⟨gb101, 0, none⟩ = some (.int .i64 a0_0) := (blk_cell BK101.out 0).trans rfl
        have hcz6_1 : w3.cell? ⟨gb101, 1, none⟩ = some (.int .i64 a0_1) := (blk_cell BK101.out 1).trans rfl
        have hcz6_2 : w3.cell? ⟨gb101, 2, none⟩ = some (.int .i64 a0_2) := (blk_cell BK101.out 2).trans rfl
        have hfz6_0 := blk_frozen BK101.out 0
        have hfz6_1 := blk_frozen BK101.out 1
        have hfz6_2 := blk_frozen BK101.out 2
        go_wp2
        go_meet
        case rel => exact ⟨_, ((a0_2 == 0)), (by first | rfl | (simp; done) | (simp [*]; done)), H', ⟨by first | omega | exact Nat.le_refl _⟩, ⟨by (with_reducible repeat (first | refine blk_drewN ?_ _ | refine blk_drew ?_ | refine blk_alloc ?_ _)); exact BK101.out⟩, ⟨by repeat (first | (with_reducible first | exact HB.out | apply below_alloc | apply pw_below_drewN | apply below_drew1 | refine below_set ?_ GE101.out) | exact HB.out)⟩⟩
      · rw [if_neg c5] at H
        have c5b0 : (a0_1 == 0) = false := beq_eq_false_iff_ne.mpr c5
        have c5b1 : (a0_1 != 0) = true := bne_iff_ne.mpr c5
        have H' := Aside0.mk H
        clear H
        have hcz7_0 : w3.cell? ⟨gb101, 0, none⟩ = some (.int .i64 a0_0) := (blk_cell BK101.out 0).trans rfl
        have hcz7_1 : w3.cell? ⟨gb101, 1, none⟩ = some (.int .i64 a0_1) := (blk_cell BK101.out 1).trans rfl
        have hcz7_2 : w3.cell? ⟨gb101, 2, none⟩ = some (.int .i64 a0_2) := (blk_cell BK101.out 2).trans rfl
        have hfz7_0 := blk_frozen BK101.out 0
        have hfz7_1 := blk_frozen BK101.out 1
        have hfz7_2 := blk_frozen BK101.out 2
        go_wp2
        go_meet
        case rel => exact ⟨_, (false), (by first | rfl | (simp; done) | (simp [*]; done)), H', ⟨by first | omega | exact Nat.le_refl _⟩, ⟨by (with_reducible repeat (first | refine blk_drewN ?_ _ | refine blk_drew ?_ | refine blk_alloc ?_ _)); exact BK101.out⟩, ⟨by repeat (first | (with_reducible first | exact HB.out | apply below_alloc | apply pw_below_drewN | apply below_drew1 | refine below_set ?_ GE101.out) | exact HB.out)⟩⟩
    · rw [if_neg c4] at H
      have c4b0 : (a0_0 == 0) = false := beq_eq_false_iff_ne.mpr c4
      have c4b1 : (a0_0 != 0) = true := bne_iff_ne.mpr c4
      (first | rw [c4b0] | (simp only [i64_w, i32_w]; rw [c4b0]) | skip)
      have H' := Aside0.mk H
      clear H
      have hcz8_0 : w3.cell? ⟨gb101, 0, none⟩ = some (.int .i64 a0_0) := (blk_cell BK101.out 0).trans rfl
      have hcz8_1 : w3.cell? ⟨gb101, 1, none⟩ = some (.int .i64 a0_1) := (blk_cell BK101.out 1).trans rfl
      have hcz8_2 : w3.cell? ⟨gb101, 2, none⟩ = some (.int .i64 a0_2) := (blk_cell BK101.out 2).trans rfl
      have hfz8_0 := blk_frozen BK101.out 0
      have hfz8_1 := blk_frozen BK101.out 1
      have hfz8_2 := blk_frozen BK101.out 2
      go_wp2
      go_meet
      case rel => exact ⟨_, (false), (by first | rfl | (simp; done) | (simp [*]; done)), H', ⟨by first | omega | exact Nat.le_refl _⟩, ⟨by (with_reducible repeat (first | refine blk_drewN ?_ _ | refine blk_drew ?_ | refine blk_alloc ?_ _)); exact BK101.out⟩, ⟨by repeat (first | (with_reducible first | exact HB.out | apply below_alloc | apply pw_below_drewN | apply below_drew1 | refine below_set ?_ GE101.out) | exact HB.out)⟩⟩
  case rest =>
    clear HC2
    try clear c1
    try clear p2
    try clear c4
    try clear c4b0
    try clear c4b1
    try clear c5
    try clear c5b0
    try clear c5b1
    try clear hcz6_0
    try clear hcz6_1
    try clear hcz6_2
    try clear hcz7_0
    try clear hcz7_1
    try clear hcz7_2
    try clear hcz8_0
    try clear hcz8_1
    try clear hcz8_2
    try clear hfz6_0
    try clear hfz6_1
    try clear hfz6_2
    try clear hfz7_0
    try clear hfz7_1
    try clear hfz7_2
    try clear hfz8_0
    try clear hfz8_1
    try clear hfz8_2
    obtain ⟨kq, x15_1, rfl, HA, HJ1, BK101, HB⟩ := hcut
    cases kq with
    | zero => exact absurd HA.out (by simp [spec_PoolOK.j0])
    | succ kj1 =>
      have H := HA.out
      clear HA
      simp only [spec_PoolOK.j0] at H
      by_cases c9 : x15_1 = true
      · subst c9
        have H1 : (some true) = some r := by rw [if_pos rfl] at H; exact H
        clear H
        have H := H1
        clear H1
        obtain rfl := Option.some.inj H
        go_wp2
        go_ret
        exact ⟨by first | rfl | (simp [errW_none, errW_some] <;> rfl) | (simp [*, errW_none, errW_some] <;> rfl), by repeat (first | (with_reducible first | exact HB.out | apply below_alloc | apply pw_below_drewN | apply below_drew1 | refine below_set ?_ GE101.out) | exact HB.out)⟩
      · replace c9 := Bool.eq_false_iff.mpr c9
        subst c9
        have H1 : ((spec_l01In.f a0_0 1 1000000000000000000).bind fun t102 => (if t102 = true then ((spec_l01In.f a0_1 1 1000000000000000000).bind fun t103 => (if t103 = true then ((spec_l01In.f a0_2 1 1000000000000000000).bind fun t104 => (some t104)) else (some false))) else (some false))) = some r := by rw [if_neg (show ¬ (false = true) by decide)] at H; exact H
        clear H
        have H := H1
        clear H1
        replace H := Option.bind_eq_some_iff.mp H
        obtain ⟨t102, A100, H⟩ := H
        replace H : (if t102 = true then ((spec_l01In.f a0_1 1 1000000000000000000).bind fun t103 => (if t103 = true then ((spec_l01In.f a0_2 1 1000000000000000000).bind fun t104 => (some t104)) else (some false))) else (some false)) = some r := H
        have A10 := Aside0.mk A100
        clear A100
        by_cases c11 : t102 = true
        · subst c11
          have H1 : ((spec_l01In.f a0_1 1 1000000000000000000).bind fun t103 => (if t103 = true then ((spec_l01In.f a0_2 1 1000000000000000000).bind fun t104 => (some t104)) else (some false))) = some r := by rw [if_pos rfl] at H; exact H
          clear H
          have H := H1
          clear H1
          replace H := Option.bind_eq_some_iff.mp H
          obtain ⟨t103, A120, H⟩ := H
          replace H : (if t103 = true then ((spec_l01In.f a0_2 1 1000000000000000000).bind fun t104 => (some t104)) else (some false)) = some r := H
          have A12 := Aside0.mk A120
          clear A120
          by_cases c13 : t103 = true
          · subst c13
            have H1 : ((spec_l01In.f a0_2 1 1000000000000000000).bind fun t104 => (some t104)) = some r := by rw [if_pos rfl] at H; exact H
            clear H
            have H := H1
            clear H1
            replace H := Option.bind_eq_some_iff.mp H
            obtain ⟨t104, A140, H⟩ := H
            replace H : (some t104) = some r := H
            have A14 := Aside0.mk A140
            clear A140
            obtain rfl := Option.some.inj H
            have hcz15_0 : wc.cell? ⟨gb101, 0, none⟩ = some (.int .i64 a0_0) := (blk_cell BK101.out 0).trans rfl
            have hcz15_1 : wc.cell? ⟨gb101, 1, none⟩ = some (.int .i64 a0_1) := (blk_cell BK101.out 1).trans rfl
            have hcz15_2 : wc.cell? ⟨gb101, 2, none⟩ = some (.int .i64 a0_2) := (blk_cell BK101.out 2).trans rfl
            have hfz15_0 := blk_frozen BK101.out 0
            have hfz15_1 := blk_frozen BK101.out 1
            have hfz15_2 := blk_frozen BK101.out 2
            go_wp2_with (first | ((with_reducible refine gate_callee (f := 33) rfl ?_); refine goesL_ (some 18) rfl rfl Try.func33 (by kernel_rfl) rfl #[.int .i64 a0_0, .int .i64 1, .int .i64 1000000000000000000] rfl (by (try simp only [List.map_toArray, List.map_cons, List.map_nil]); first | done | rfl | (simp only [List.length_drop, List.length_take]; rfl)) ?_; (with_reducible refine (spec_l01In.calls a0_0 1 1000000000000000000 true _ A10.out).mono ?_); rintro e w' ⟨rfl, ⟨nd, rfl⟩⟩; refine ⟨_, rfl, ?_⟩) | (go_at_call 33; (with_reducible refine (spec_l01In.calls a0_1 1 1000000000000000000 true _ A12.out).mono ?_); rintro e w' ⟨rfl, ⟨nd, rfl⟩⟩) | (go_at_call 33; (with_reducible refine (spec_l01In.calls a0_2 1 1000000000000000000 t104 _ A14.out).mono ?_); rintro e w' ⟨rfl, ⟨nd, rfl⟩⟩))
            go_ret
            exact ⟨by first | rfl | (simp [errW_none, errW_some] <;> rfl) | (simp [*, errW_none, errW_some] <;> rfl), by repeat (first | (with_reducible first | exact HB.out | apply below_alloc | apply pw_below_drewN | apply below_drew1 | refine below_set ?_ GE101.out) | exact HB.out)⟩
          · replace c13 := Bool.eq_false_iff.mpr c13
            subst c13
            have H1 : (some false) = some r := by rw [if_neg (show ¬ (false = true) by decide)] at H; exact H
            clear H
            have H := H1
            clear H1
            obtain rfl := Option.some.inj H
            have hcz16_0 : wc.cell? ⟨gb101, 0, none⟩ = some (.int .i64 a0_0) := (blk_cell BK101.out 0).trans rfl
            have hcz16_1 : wc.cell? ⟨gb101, 1, none⟩ = some (.int .i64 a0_1) := (blk_cell BK101.out 1).trans rfl
            have hcz16_2 : wc.cell? ⟨gb101, 2, none⟩ = some (.int .i64 a0_2) := (blk_cell BK101.out 2).trans rfl
            have hfz16_0 := blk_frozen BK101.out 0
            have hfz16_1 := blk_frozen BK101.out 1
            have hfz16_2 := blk_frozen BK101.out 2
            go_wp2_with (first | ((with_reducible refine gate_callee (f := 33) rfl ?_); refine goesL_ (some 18) rfl rfl Try.func33 (by kernel_rfl) rfl #[.int .i64 a0_0, .int .i64 1, .int .i64 1000000000000000000] rfl (by (try simp only [List.map_toArray, List.map_cons, List.map_nil]); first | done | rfl | (simp only [List.length_drop, List.length_take]; rfl)) ?_; (with_reducible refine (spec_l01In.calls a0_0 1 1000000000000000000 true _ A10.out).mono ?_); rintro e w' ⟨rfl, ⟨nd, rfl⟩⟩; refine ⟨_, rfl, ?_⟩) | (go_at_call 33; (with_reducible refine (spec_l01In.calls a0_1 1 1000000000000000000 false _ A12.out).mono ?_); rintro e w' ⟨rfl, ⟨nd, rfl⟩⟩))
            go_ret
            exact ⟨by first | rfl | (simp [errW_none, errW_some] <;> rfl) | (simp [*, errW_none, errW_some] <;> rfl), by repeat (first | (with_reducible first | exact HB.out | apply below_alloc | apply pw_below_drewN | apply below_drew1 | refine below_set ?_ GE101.out) | exact HB.out)⟩
        · replace c11 := Bool.eq_false_iff.mpr c11
          subst c11
          have H1 : (some false) = some r := by rw [if_neg (show ¬ (false = true) by decide)] at H; exact H
          clear H
          have H := H1
          clear H1
          obtain rfl := Option.some.inj H
          have hcz17_0 : wc.cell? ⟨gb101, 0, none⟩ = some (.int .i64 a0_0) := (blk_cell BK101.out 0).trans rfl
          have hcz17_1 : wc.cell? ⟨gb101, 1, none⟩ = some (.int .i64 a0_1) := (blk_cell BK101.out 1).trans rfl
          have hcz17_2 : wc.cell? ⟨gb101, 2, none⟩ = some (.int .i64 a0_2) := (blk_cell BK101.out 2).trans rfl
          have hfz17_0 := blk_frozen BK101.out 0
          have hfz17_1 := blk_frozen BK101.out 1
          have hfz17_2 := blk_frozen BK101.out 2
          go_wp2_with (first | ((with_reducible refine gate_callee (f := 33) rfl ?_); refine goesL_ (some 18) rfl rfl Try.func33 (by kernel_rfl) rfl #[.int .i64 a0_0, .int .i64 1, .int .i64 1000000000000000000] rfl (by (try simp only [List.map_toArray, List.map_cons, List.map_nil]); first | done | rfl | (simp only [List.length_drop, List.length_take]; rfl)) ?_; (with_reducible refine (spec_l01In.calls a0_0 1 1000000000000000000 false _ A10.out).mono ?_); rintro e w' ⟨rfl, ⟨nd, rfl⟩⟩; refine ⟨_, rfl, ?_⟩))
          go_ret
          exact ⟨by first | rfl | (simp [errW_none, errW_some] <;> rfl) | (simp [*, errW_none, errW_some] <;> rfl), by repeat (first | (with_reducible first | exact HB.out | apply below_alloc | apply pw_below_drewN | apply below_drew1 | refine below_set ?_ GE101.out) | exact HB.out)⟩

end Go.Proofs.Ytppgnndolgmcfaa.Q

namespace Go.Proofs.Ytppgnndolgmcfaa.Q
open Go.RowKit Go.Proofs.YtppgnndolgmcfaaW.PrintWords Go.Proofs.YtppgnndolgmcfaaW.PrintLast Go.Proofs.YtppgnndolgmcfaaW.PrintMore
attribute [local go_sem] max2_int min2_int max_two min_two max_three min_three max_four min_four   -- for this text's walks alone
set_option linter.unusedVariables false
set_option linter.unusedSimpArgs false

theorem eqA25 (d : Nat) (w : World) (x0 y0 : Int) (x1 y1 : Int) (x2 y2 : Int) :
    (Op.equalIn (d + 2) 25 (.agg #[.int .i64 x0, .int .i64 x1, .int .i64 x2]) (.agg #[.int .i64 y0, .int .i64 y1, .int .i64 y2])).run Try.prog w = .ok (x0 == y0 && (x1 == y1 && (x2 == y2))) w := by
  refine eqA_of Try.underlying25 (by kernel_rfl) ?_
  refine eqf_cons (by rfl) (by go_simp; rfl) (by go_simp; rfl) (by go_simp) ?_
  refine eqf_cons (by rfl) (by go_simp; rfl) (by go_simp; rfl) (by go_simp) ?_
  exact eqf_last (by rfl) (by go_simp; rfl) (by go_simp; rfl) (by go_simp)
end Go.Proofs.Ytppgnndolgmcfaa.Q

namespace Go.Proofs.Ytppgnndolgmcfaa.Q
open Go.RowKit Go.Proofs.YtppgnndolgmcfaaW.PrintWords Go.Proofs.YtppgnndolgmcfaaW.PrintLast Go.Proofs.YtppgnndolgmcfaaW.PrintMore
attribute [local go_sem] max2_int min2_int max_two min_two max_three min_three max_four min_four   -- for this text's walks alone
set_option linter.unusedVariables false
set_option linter.unusedSimpArgs false

attribute [local go_sem high] eqA25
/-! ### impl_PoolOK: function 16 -/
def impl_PoolOK.f (a0_0 : Int) (a0_1 : Int) (a0_2 : Int) : Option (Bool) := if (a0_0 == 0 && (a0_1 == 0 && (a0_2 == 0))) = true then (some true) else ((impl_isSome.f a0_0).bind fun t110 => (if t110 = true then ((impl_isSome.f a0_1).bind fun t111 => (if t111 = true then ((impl_isSome.f a0_2).bind fun t112 => (some t112)) else (some false))) else (some false)))
set_option maxHeartbeats 8000000 in
set_option maxRecDepth 100000 in
theorem impl_PoolOK.calls (a0_0 : Int) (a0_1 : Int) (a0_2 : Int) (r : Bool) (w : World) (h : impl_PoolOK.f a0_0 a0_1 a0_2 = some r) :
    Calls Try.prog 16 #[.agg #[.int .i64 a0_0, .int .i64 a0_1, .int .i64 a0_2]] w fun e w' => e = .returned (.bool r) ∧ Below w.heap.size w w' := by
  have hu25 := Try.underlying25
  have HB := Aside0.mk (Below.refl w.heap.size w)
  have H : (if (a0_0 == 0 && (a0_1 == 0 && (a0_2 == 0))) = true then (some true) else ((impl_isSome.f a0_0).bind fun t110 => (if t110 = true then ((impl_isSome.f a0_1).bind fun t111 => (if t111 = true then ((impl_isSome.f a0_2).bind fun t112 => (some t112)) else (some false))) else (some false)))) = some r := h
  clear h
  by_cases c2 : (a0_0 == 0 && (a0_1 == 0 && (a0_2 == 0))) = true
  · rw [if_pos c2] at H
    have c2b0 : (a0_0 == 0 && (a0_1 == 0 && (a0_2 == 0))) = true := c2
    (try (have c2b1 : decide (a0_0 = 0 && (a0_1 == 0 && (a0_2 == 0))) = true := by simpa using c2))
    (try (have c2b2 : (a0_0 == 0 && (a0_1 == 0 && (a0_2 == 0))) = true := by simpa using c2))
    clear c2
    obtain rfl := Option.some.inj H
    go_enter Try.func16, Try.ntmps16
    go_wp2_with (first | ((with_reducible refine gate_dst (N := 1) rfl ?_); refine box_event ?hg (N := 1) ?hd (cs := #[.int .i64 a0_0, .int .i64 a0_1, .int .i64 a0_2]) (t := 25) ?hr ?_; (case hd => rfl); (case hg => rfl); (case hr => first | (go_simp; done) | (go_simp; rfl)); intro gb109 hg w3 hbox hb; have n0_ := Aside0.mk (below_step (by repeat (first | (with_reducible first | exact HB.out | apply below_alloc | apply pw_below_drewN | apply below_drew1) | exact HB.out)) hb); have n1_ := Aside0.mk (hbox); have n2_ := Aside0.mk ((by rw [hg]; exact (below_size (by repeat (first | (with_reducible first | exact HB.out | apply below_alloc | apply pw_below_drewN | apply below_drew1) | exact HB.out))) : w.heap.size ≤ gb109)); have n3_ := Aside0.mk ((by rw [hg]; exact (below_size (by repeat (first | (with_reducible first | exact HB.out | apply below_alloc | apply pw_below_drewN | apply below_drew1) | exact HB.out))) : w.heap.size ≤ gb109)); clear HB; have HB := n0_; have BK109 := n1_; have GW109 := n2_; have GE109 := n3_; clear n0_ n1_ n2_ n3_; clear hb hbox hg; have hcz4_0 : w3.cell? ⟨gb109, 0, none⟩ = some (.int .i64 a0_0) := (blk_cell BK109.out 0).trans rfl; have hcz4_1 : w3.cell? ⟨gb109, 1, none⟩ = some (.int .i64 a0_1) := (blk_cell BK109.out 1).trans rfl; have hcz4_2 : w3.cell? ⟨gb109, 2, none⟩ = some (.int .i64 a0_2) := (blk_cell BK109.out 2).trans rfl; have hfz4_0 := blk_frozen BK109.out 0; have hfz4_1 := blk_frozen BK109.out 1; have hfz4_2 := blk_frozen BK109.out 2))
    go_ret
    exact ⟨by first | rfl | (simp [errW_none, errW_some] <;> rfl) | (simp [*, errW_none, errW_some] <;> rfl), by repeat (first | (with_reducible first | exact HB.out | apply below_alloc | apply pw_below_drewN | apply below_drew1 | refine below_set ?_ GE109.out) | exact HB.out)⟩
  · rw [if_neg c2] at H
    have c2b0 : (a0_0 == 0 && (a0_1 == 0 && (a0_2 == 0))) = false := by simpa using c2
    (try (have c2b1 : decide (a0_0 = 0 && (a0_1 == 0 && (a0_2 == 0))) = false := by simpa using c2))
    (try (have c2b2 : (a0_0 == 0 && (a0_1 == 0 && (a0_2 == 0))) = false := by simpa using c2))
    (try (have c2b3 : ¬ (a0_0 = 0 && (a0_1 == 0 && (a0_2 == 0))) := by simpa using c2))
    clear c2
    replace H := Option.bind_eq_some_iff.mp H
    obtain ⟨t110, A50, H⟩ := H
    replace H : (if t110 = true then ((impl_isSome.f a0_1).bind fun t111 => (if t111 = true then ((impl_isSome.f a0_2).bind fun t112 => (some t112)) else (some false))) else (some false)) = some r := H
    have A5 := Aside0.mk A50
    clear A50
    by_cases c6 : t110 = true
    · subst c6
      have H1 : ((impl_isSome.f a0_1).bind fun t111 => (if t111 = true then ((impl_isSome.f a0_2).bind fun t112 => (some t112)) else (some false))) = some r := by rw [if_pos rfl] at H; exact H
      clear H
      have H := H1
      clear H1
      replace H := Option.bind_eq_some_iff.mp H
      obtain ⟨t111, A70, H⟩ := H
      replace H : (if t111 = true then ((impl_isSome.f a0_2).bind fun t112 => (some t112)) else (some false)) = some r := H
      have A7 := Aside0.mk A70
      clear A70
      by_cases c8 : t111 = true
      · subst c8
        have H1 : ((impl_isSome.f a0_2).bind fun t112 => (some t112)) = some r := by rw [if_pos rfl] at H; exact H
        clear H
        have H := H1
        clear H1
        replace H := Option.bind_eq_some_iff.mp H
        obtain ⟨t112, A90, H⟩ := H
        replace H : (some t112) = some r := H
        have A9 := Aside0.mk A90
        clear A90
        obtain rfl := Option.some.inj H
        go_enter Try.func16, Try.ntmps16
        go_wp2_with (first | ((with_reducible refine gate_dst (N := 1) rfl ?_); refine box_event ?hg (N := 1) ?hd (cs := #[.int .i64 a0_0, .int .i64 a0_1, .int .i64 a0_2]) (t := 25) ?hr ?_; (case hd => rfl); (case hg => rfl); (case hr => first | (go_simp; done) | (go_simp; rfl)); intro gb109 hg w10 hbox hb; have n0_ := Aside0.mk (below_step (by repeat (first | (with_reducible first | exact HB.out | apply below_alloc | apply pw_below_drewN | apply below_drew1) | exact HB.out)) hb); have n1_ := Aside0.mk (hbox); have n2_ := Aside0.mk ((by rw [hg]; exact (below_size (by repeat (first | (with_reducible first | exact HB.out | apply below_alloc | apply pw_below_drewN | apply below_drew1) | exact HB.out))) : w.heap.size ≤ gb109)); have n3_ := Aside0.mk ((by rw [hg]; exact (below_size (by repeat (first | (with_reducible first | exact HB.out | apply below_alloc | apply pw_below_drewN | apply below_drew1) | exact HB.out))) : w.heap.size ≤ gb109)); clear HB; have HB := n0_; have BK109 := n1_; have GW109 := n2_; have GE109 := n3_; clear n0_ n1_ n2_ n3_; clear hb hbox hg; have hcz11_0 : w10.cell? ⟨gb109, 0, none⟩ = some (.int .i64 a0_0) := (blk_cell BK109.out 0).trans rfl; have hcz11_1 : w10.cell? ⟨gb109, 1, none⟩ = some (.int .i64 a0_1) := (blk_cell BK109.out 1).trans rfl; have hcz11_2 : w10.cell? ⟨gb109, 2, none⟩ = some (.int .i64 a0_2) := (blk_cell BK109.out 2).trans rfl; have hfz11_0 := blk_frozen BK109.out 0; have hfz11_1 := blk_frozen BK109.out 1; have hfz11_2 := blk_frozen BK109.out 2) | (go_at_call 34; (with_reducible refine (impl_isSome.calls a0_0 true _ A5.out).mono ?_); rintro e w' ⟨rfl, ⟨nd, rfl⟩⟩) | (go_at_call 34; (with_reducible refine (impl_isSome.calls a0_1 true _ A7.out).mono ?_); rintro e w' ⟨rfl, ⟨nd, rfl⟩⟩) | (go_at_call 34; (with_reducible refine (impl_isSome.calls a0_2 t112 _ A9.out).mono ?_); rintro e w' ⟨rfl, ⟨nd, rfl⟩⟩))
        go_ret
        exact ⟨by first | rfl | (simp [errW_none, errW_some] <;> rfl) | (simp [*, errW_none, errW_some] <;> rfl), by repeat (first | (with_reducible first | exact HB.out | apply below_alloc | apply pw_below_drewN | apply below_drew1 | refine below_set ?_ GE109.out) | exact HB.out)⟩
      · replace c8 := Bool.eq_false_iff.mpr c8
        subst c8
        have H1 : (some false) = some r := by rw [if_neg (show ¬ (false = true) by decide)] at H; exact H
        clear H
        have H := H1
        clear H1
        obtain rfl := Option.some.inj H
        go_enter Try.func16, Try.ntmps16
        go_wp2_with (first | ((with_reducible refine gate_dst (N := 1) rfl ?_); refine box_event ?hg (N := 1) ?hd (cs := #[.int .i64 a0_0, .int .i64 a0_1, .int .i64 a0_2]) (t := 25) ?hr ?_; (case hd => rfl); (case hg => rfl); (case hr => first | (go_simp; done) | (go_simp; rfl)); intro gb109 hg w12 hbox hb; have n0_ := Aside0.mk (below_step (by repeat (first | (with_reducible first | exact HB.out | apply below_alloc | apply pw_below_drewN | apply below_drew1) | exact HB.out)) hb); have n1_ := Aside0.mk (hbox); have n2_ := Aside0.mk ((by rw [hg]; exact (below_size (by repeat (first | (with_reducible first | exact HB.out | apply below_alloc | apply pw_below_drewN | apply below_drew1) | exact HB.out))) : w.heap.size ≤ gb109)); have n3_ := Aside0.mk ((by rw [hg]; exact (below_size (by repeat (first | (with_reducible first | exact HB.out | apply below_alloc | apply pw_below_drewN | apply below_drew1) | exact HB.out))) : w.heap.size ≤ gb109)); clear HB; have HB := n0_; have BK109 := n1_; have GW109 := n2_; have GE109 := n3_; clear n0_ n1_ n2_ n3_; clear hb hbox hg; have hcz13_0 : w12.cell? ⟨gb109, 0, none⟩ = some (.int .i64 a0_0) := (blk_cell BK109.out 0).trans rfl; have hcz13_1 : w12.cell? ⟨gb109, 1, none⟩ = some (.int .i64 a0_1) := (blk_cell BK109.out 1).trans rfl; have hcz13_2 : w12.cell? ⟨gb109, 2, none⟩ = some (.int .i64 a0_2) := (blk_cell BK109.out 2).trans rfl; have hfz13_0 := blk_frozen BK109.out 0; have hfz13_1 := blk_frozen BK109.out 1; have hfz13_2 := blk_frozen BK109.out 2) | (go_at_call 34; (with_reducible refine (impl_isSome.calls a0_0 true _ A5.out).mono ?_); rintro e w' ⟨rfl, ⟨nd, rfl⟩⟩) | (go_at_call 34; (with_reducible refine (impl_isSome.calls a0_1 false _ A7.out).mono ?_); rintro e w' ⟨rfl, ⟨nd, rfl⟩⟩))
        go_ret
        exact ⟨by first | rfl | (simp [errW_none, errW_some] <;> rfl) | (simp [*, errW_none, errW_some] <;> rfl), by repeat (first | (with_reducible first | exact HB.out | apply below_alloc | apply pw_below_drewN | apply below_drew1 | refine below_set ?_ GE109.out) | exact HB.out)⟩
    · replace c6 := Bool.eq_false_iff.mpr c6
      subst c6
      have H1 : (some false) = some r := by rw [if_neg (show ¬ (false = true) by decide)] at H; exact H
      clear H
      have H := H1
      clear H1
      obtain rfl := Option.some.inj H
      go_enter Try.func16, Try.ntmps16
      go_wp2_with (first | ((with_reducible refine gate_dst (N := 1) rfl ?_); refine box_event ?hg (N := 1) ?hd (cs := #[.int .i64 a0_0, .int .i64 a0_1, .int .i64 a0_2]) (t := 25) ?hr ?_; (case hd => rfl); (case hg => rfl); (case hr => first | (go_simp; done) | (go_simp; rfl)); intro gb109 hg w14 hbox hb; have n0_ := Aside0.mk (below_step (by repeat (first | (with_reducible first | exact HB.out | apply below_alloc | apply pw_below_drewN | apply below_drew1) | exact HB.out)) hb); have n1_ := Aside0.mk (hbox); have n2_ := Aside0.mk ((by rw [hg]; exact (below_size (by repeat (first | (with_reducible first | exact HB.out | apply below_alloc | apply pw_below_drewN | apply below_drew1) | exact HB.out))) : w.heap.size ≤ gb109)); have n3_ := Aside0.mk ((by rw [hg]; exact (below_size (by repeat (first | (with_reducible first | exact HB.out | apply below_alloc | apply pw_below_drewN | apply below_drew1) | exact HB.out))) : w.heap.size ≤ gb109)); clear HB; have HB := n0_; have BK109 := n1_; have GW109 := n2_; have GE109 := n3_; clear n0_ n1_ n2_ n3_; clear hb hbox hg; have hcz15_0 : w14.cell? ⟨gb109, 0, none⟩ = some (.int .i64 a0_0) := (blk_cell BK109.out 0).trans rfl; have hcz15_1 : w14.cell? ⟨gb109, 1, none⟩ = some (.int .i64 a0_1) := (blk_cell BK109.out 1).trans rfl; have hcz15_2 : w14.cell? ⟨gb109, 2, none⟩ = some (.int .i64 a0_2) := (blk_cell BK109.out 2).trans rfl; have hfz15_0 := blk_frozen BK109.out 0; have hfz15_1 := blk_frozen BK109.out 1; have hfz15_2 := blk_frozen BK109.out 2) | (go_at_call 34; (with_reducible refine (impl_isSome.calls a0_0 false _ A5.out).mono ?_); rintro e w' ⟨rfl, ⟨nd, rfl⟩⟩))
      go_ret
      exact ⟨by first | rfl | (simp [errW_none, errW_some] <;> rfl) | (simp [*, errW_none, errW_some] <;> rfl), by repeat (first | (with_reducible first | exact HB.out | apply below_alloc | apply pw_below_drewN | apply below_drew1 | refine below_set ?_ GE109.out) | exact HB.out)⟩

end Go.Proofs.Ytppgnndolgmcfaa.Q

namespace Go.Proofs.Ytppgnndolgmcfaa.Q
open Go.RowKit Go.Proofs.YtppgnndolgmcfaaW.PrintWords Go.Proofs.YtppgnndolgmcfaaW.PrintLast Go.Proofs.YtppgnndolgmcfaaW.PrintMore
attribute [local go_sem] max2_int min2_int max_two min_two max_three min_three max_four min_four   -- for this text's walks alone
set_option linter.unusedVariables false
set_option linter.unusedSimpArgs false

/-! ### spec_l10Swap: function 43 -/
def spec_l10Swap.f (k : Nat) (a0 : Int) (a1 : Int) (a2 : Int) : Option (Int × Int) := (spec_l02MulDiv.f k a2 997 1000).bind fun bt182 => (if (wrap64 (a0 + a2)) > 1000000000000000000 then (some (0, 13)) else (if bt182.1 = 0 then (some (0, 17)) else ((spec_l02MulDiv.f k a1 bt182.1 (wrap64 (a0 + bt182.1))).bind fun bt184 => (if bt184.2 = true then (if bt184.1 = 0 then (some (0, 17)) else (some (bt184.1, 0))) else (some (0, 17))))))
theorem spec_l10Swap.mono : ∀ a0 a1 a2 k, LeO (spec_l10Swap.f k a0 a1 a2) (spec_l10Swap.f (k + 1) a0 a1 a2) := by
  intro a0 a1 a2 k
  unfold spec_l10Swap.f
  repeat' first
      | (with_reducible exact spec_l02MulDiv.mono _ _ _ _)
      | (with_reducible exact LeO.refl _)
      | (with_reducible exact LeO.none _)
      | (with_reducible refine LeO.ite ?_ ?_)
      | (with_reducible refine LeO.bind ?_ (fun _ => ?_))
      | exact spec_l02MulDiv.mono _ _ _ _
      | exact LeO.none _
      | refine LeO.ite ?_ ?_
      | refine LeO.bind ?_ (fun _ => ?_)
set_option maxHeartbeats 8000000 in
set_option maxRecDepth 100000 in
theorem spec_l10Swap.calls (k : Nat) (a0 : Int) (a1 : Int) (a2 : Int) (r1 : Int) (r2 : Int) (w : World) (h : spec_l10Swap.f k a0 a1 a2 = some (r1, r2)) :
    Calls Try.prog 43 #[.int .i64 a0, .int .i64 a1, .int .i64 a2] w fun e w' => e = .returned (.tuple #[.int .i64 r1, .int .i64 r2]) ∧ Drawn0 w w' := by
  have H : ((spec_l02MulDiv.f k a2 997 1000).bind fun bt182 => (if (wrap64 (a0 + a2)) > 1000000000000000000 then (some (0, 13)) else (if bt182.1 = 0 then (some (0, 17)) else ((spec_l02MulDiv.f k a1 bt182.1 (wrap64 (a0 + bt182.1))).bind fun bt184 => (if bt184.2 = true then (if bt184.1 = 0 then (some (0, 17)) else (some (bt184.1, 0))) else (some (0, 17))))))) = some (r1, r2) := h
  clear h
  replace H := Option.bind_eq_some_iff.mp H
  obtain ⟨⟨t182, t183⟩, A40, H⟩ := H
  replace H : (if (wrap64 (a0 + a2)) > 1000000000000000000 then (some (0, 13)) else (if t182 = 0 then (some (0, 17)) else ((spec_l02MulDiv.f k a1 t182 (wrap64 (a0 + t182))).bind fun bt184 => (if bt184.2 = true then (if bt184.1 = 0 then (some (0, 17)) else (some (bt184.1, 0))) else (some (0, 17)))))) = some (r1, r2) := H
  have A4 := Aside0.mk A40
  clear A40
  by_cases c5 : (wrap64 (a0 + a2)) > 1000000000000000000
  · rw [if_pos c5] at H
    have c5b0 : decide (1000000000000000000 < (wrap64 (a0 + a2))) = true := decide_eq_true c5
    clear c5
    simp only [Option.some.injEq, Prod.mk.injEq] at H
    obtain ⟨rfl, rfl⟩ := H
    go_enter Try.func43, Try.ntmps43
    go_wp2_with (first | ((with_reducible refine gate_callee (f := 57) rfl ?_); refine goesL_ (some 14) rfl rfl Try.func57 (by kernel_rfl) rfl #[.int .i64 a2, .int .i64 997, .int .i64 1000] rfl (by (try simp only [List.map_toArray, List.map_cons, List.map_nil]); first | done | rfl | (simp only [List.length_drop, List.length_take]; rfl)) ?_; (with_reducible refine (spec_l02MulDiv.calls k a2 997 1000 t182 t183 _ A4.out).mono ?_); rintro e w' ⟨rfl, ⟨nd, rfl⟩⟩; refine ⟨_, rfl, ?_⟩))
    go_ret2
    exact ⟨by first | rfl | (simp; done) | (simp [*]; done), by repeat (first | exact Drawn0.refl _ | apply Drawn0.step)⟩
  · rw [if_neg c5] at H
    have c5b0 : decide (1000000000000000000 < (wrap64 (a0 + a2))) = false := decide_eq_false c5
    clear c5
    by_cases c6 : t182 = 0
    · rw [if_pos c6] at H
      have c6b0 : (t182 == 0) = true := beq_iff_eq.mpr c6
      have c6b1 : (t182 != 0) = false := bne_eq_false_iff_eq.mpr c6
      clear c6
      simp only [Option.some.injEq, Prod.mk.injEq] at H
      obtain ⟨rfl, rfl⟩ := H
      go_enter Try.func43, Try.ntmps43
      go_wp2_with (first | ((with_reducible refine gate_callee (f := 57) rfl ?_); refine goesL_ (some 14) rfl rfl Try.func57 (by kernel_rfl) rfl #[.int .i64 a2, .int .i64 997, .int .i64 1000] rfl (by (try simp only [List.map_toArray, List.map_cons, List.map_nil]); first | done | rfl | (simp only [List.length_drop, List.length_take]; rfl)) ?_; (with_reducible refine (spec_l02MulDiv.calls k a2 997 1000 t182 t183 _ A4.out).mono ?_); rintro e w' ⟨rfl, ⟨nd, rfl⟩⟩; refine ⟨_, rfl, ?_⟩))
      go_ret2
      exact ⟨by first | rfl | (simp; done) | (simp [*]; done), by repeat (first | exact Drawn0.refl _ | apply Drawn0.step)⟩
    · rw [if_neg c6] at H
      have c6b0 : (t182 == 0) = false := beq_eq_false_iff_ne.mpr c6
      have c6b1 : (t182 != 0) = true := bne_iff_ne.mpr c6
      replace H := Option.bind_eq_some_iff.mp H
      obtain ⟨⟨t184, t185⟩, A70, H⟩ := H
      replace H : (if t185 = true then (if t184 = 0 then (some (0, 17)) else (some (t184, 0))) else (some (0, 17))) = some (r1, r2) := H
      have A7 := Aside0.mk A70
      clear A70
      by_cases c8 : t185 = true
      · subst c8
        have H1 : (if t184 = 0 then (some (0, 17)) else (some (t184, 0))) = some (r1, r2) := by rw [if_pos rfl] at H; exact H
        clear H
        have H := H1
        clear H1
        by_cases c9 : t184 = 0
        · rw [if_pos c9] at H
          have c9b0 : (t184 == 0) = true := beq_iff_eq.mpr c9
          have c9b1 : (t184 != 0) = false := bne_eq_false_iff_eq.mpr c9
          clear c9
          simp only [Option.some.injEq, Prod.mk.injEq] at H
          obtain ⟨rfl, rfl⟩ := H
          go_enter Try.func43, Try.ntmps43
          go_wp2_with (first | ((with_reducible refine gate_callee (f := 57) rfl ?_); refine goesL_ (some 14) rfl rfl Try.func57 (by kernel_rfl) rfl #[.int .i64 a2, .int .i64 997, .int .i64 1000] rfl (by (try simp only [List.map_toArray, List.map_cons, List.map_nil]); first | done | rfl | (simp only [List.length_drop, List.length_take]; rfl)) ?_; (with_reducible refine (spec_l02MulDiv.calls k a2 997 1000 t182 t183 _ A4.out).mono ?_); rintro e w' ⟨rfl, ⟨nd, rfl⟩⟩; refine ⟨_, rfl, ?_⟩) | ((with_reducible refine gate_callee (f := 57) rfl ?_); refine goesL_ (some 29) rfl rfl Try.func57 (by kernel_rfl) rfl #[.int .i64 a1, .int .i64 t182, .int .i64 (wrap64 (a0 + t182))] rfl (by (try simp only [List.map_toArray, List.map_cons, List.map_nil]); first | done | rfl | (simp only [List.length_drop, List.length_take]; rfl)) ?_; (with_reducible refine (spec_l02MulDiv.calls k a1 t182 (wrap64 (a0 + t182)) t184 true _ A7.out).mono ?_); rintro e w' ⟨rfl, ⟨nd, rfl⟩⟩; refine ⟨_, rfl, ?_⟩))
          go_ret2
          exact ⟨by first | rfl | (simp; done) | (simp [*]; done), by repeat (first | exact Drawn0.refl _ | apply Drawn0.step)⟩
        · rw [if_neg c9] at H
          have c9b0 : (t184 == 0) = false := beq_eq_false_iff_ne.mpr c9
          have c9b1 : (t184 != 0) = true := bne_iff_ne.mpr c9
          simp only [Option.some.injEq, Prod.mk.injEq] at H
          obtain ⟨rfl, rfl⟩ := H
          go_enter Try.func43, Try.ntmps43
          go_wp2_with (first | ((with_reducible refine gate_callee (f := 57) rfl ?_); refine goesL_ (some 14) rfl rfl Try.func57 (by kernel_rfl) rfl #[.int .i64 a2, .int .i64 997, .int .i64 1000] rfl (by (try simp only [List.map_toArray, List.map_cons, List.map_nil]); first | done | rfl | (simp only [List.length_drop, List.length_take]; rfl)) ?_; (with_reducible refine (spec_l02MulDiv.calls k a2 997 1000 t182 t183 _ A4.out).mono ?_); rintro e w' ⟨rfl, ⟨nd, rfl⟩⟩; refine ⟨_, rfl, ?_⟩) | ((with_reducible refine gate_callee (f := 57) rfl ?_); refine goesL_ (some 29) rfl rfl Try.func57 (by kernel_rfl) rfl #[.int .i64 a1, .int .i64 t182, .int .i64 (wrap64 (a0 + t182))] rfl (by (try simp only [List.map_toArray, List.map_cons, List.map_nil]); first | done | rfl | (simp only [List.length_drop, List.length_take]; rfl)) ?_; (with_reducible refine (spec_l02MulDiv.calls k a1 t182 (wrap64 (a0 + t182)) t184 true _ A7.out).mono ?_); rintro e w' ⟨rfl, ⟨nd, rfl⟩⟩; refine ⟨_, rfl, ?_⟩))
          go_ret2
          exact ⟨by first | rfl | (simp; done) | (simp [*]; done), by repeat (first | exact Drawn0.refl _ | apply Drawn0.step)⟩
      · replace c8 := Bool.eq_false_iff.mpr c8
        subst c8
        have H1 : (some (0, 17)) = some (r1, r2) := by rw [if_neg (show ¬ (false = true) by decide)] at H; exact H
        clear H
        have H := H1
        clear H1
        simp only [Option.some.injEq, Prod.mk.injEq] at H
        obtain ⟨rfl, rfl⟩ := H
        go_enter Try.func43, Try.ntmps43
        go_wp2_with (first | ((with_reducible refine gate_callee (f := 57) rfl ?_); refine goesL_ (some 14) rfl rfl Try.func57 (by kernel_rfl) rfl #[.int .i64 a2, .int .i64 997, .int .i64 1000] rfl (by (try simp only [List.map_toArray, List.map_cons, List.map_nil]); first | done | rfl | (simp only [List.length_drop, List.length_take]; rfl)) ?_; (with_reducible refine (spec_l02MulDiv.calls k a2 997 1000 t182 t183 _ A4.out).mono ?_); rintro e w' ⟨rfl, ⟨nd, rfl⟩⟩; refine ⟨_, rfl, ?_⟩) | ((with_reducible refine gate_callee (f := 57) rfl ?_); refine goesL_ (some 29) rfl rfl Try.func57 (by kernel_rfl) rfl #[.int .i64 a1, .int .i64 t182, .int .i64 (wrap64 (a0 + t182))] rfl (by (try simp only [List.map_toArray, List.map_cons, List.map_nil]); first | done | rfl | (simp only [List.length_drop, List.length_take]; rfl)) ?_; (with_reducible refine (spec_l02MulDiv.calls k a1 t182 (wrap64 (a0 + t182)) t184 false _ A7.out).mono ?_); rintro e w' ⟨rfl, ⟨nd, rfl⟩⟩; refine ⟨_, rfl, ?_⟩))
        go_ret2
        exact ⟨by first | rfl | (simp; done) | (simp [*]; done), by repeat (first | exact Drawn0.refl _ | apply Drawn0.step)⟩

end Go.Proofs.Ytppgnndolgmcfaa.Q

namespace Go.Proofs.Ytppgnndolgmcfaa.Q
open Go.RowKit Go.Proofs.YtppgnndolgmcfaaW.PrintWords Go.Proofs.YtppgnndolgmcfaaW.PrintLast Go.Proofs.YtppgnndolgmcfaaW.PrintMore
attribute [local go_sem] max2_int min2_int max_two min_two max_three min_three max_four min_four   -- for this text's walks alone
set_option linter.unusedVariables false
set_option linter.unusedSimpArgs false

/-! ### spec_QuoteSwap: function 23 -/
def spec_QuoteSwap.f (k : Nat) (a0 : Int) (a1 : Int) (a2 : Int) : Option (Int × Int) := (spec_l01In.f a0 1 1000000000000000000).bind fun t186 => (if t186 = true then ((spec_l01In.f a1 1 1000000000000000000).bind fun t187 => (if t187 = true then ((spec_l01In.f a2 1 1000000000000000000).bind fun t188 => (if t188 = true then ((spec_l10Swap.f k a0 a1 a2).bind fun bt189 => (some (bt189.1, bt189.2))) else (some (0, 4)))) else (some (0, 4)))) else (some (0, 4)))
theorem spec_QuoteSwap.mono : ∀ a0 a1 a2 k, LeO (spec_QuoteSwap.f k a0 a1 a2) (spec_QuoteSwap.f (k + 1) a0 a1 a2) := by
  intro a0 a1 a2 k
  unfold spec_QuoteSwap.f
  repeat' first
      | (with_reducible exact spec_l10Swap.mono _ _ _ _)
      | (with_reducible exact LeO.refl _)
      | (with_reducible exact LeO.none _)
      | (with_reducible refine LeO.ite ?_ ?_)
      | (with_reducible refine LeO.bind ?_ (fun _ => ?_))
      | exact spec_l10Swap.mono _ _ _ _
      | exact LeO.none _
      | refine LeO.ite ?_ ?_
      | refine LeO.bind ?_ (fun _ => ?_)
set_option maxHeartbeats 8000000 in
set_option maxRecDepth 100000 in
theorem spec_QuoteSwap.calls (k : Nat) (a0 : Int) (a1 : Int) (a2 : Int) (r1 : Int) (r2 : Int) (w : World) (h : spec_QuoteSwap.f k a0 a1 a2 = some (r1, r2)) :
    Calls Try.prog 23 #[.int .i64 a0, .int .i64 a1, .int .i64 a2] w fun e w' => e = .returned (.tuple #[.int .i64 r1, .int .i64 r2]) ∧ Drawn0 w w' := by
  have H : ((spec_l01In.f a0 1 1000000000000000000).bind fun t186 => (if t186 = true then ((spec_l01In.f a1 1 1000000000000000000).bind fun t187 => (if t187 = true then ((spec_l01In.f a2 1 1000000000000000000).bind fun t188 => (if t188 = true then ((spec_l10Swap.f k a0 a1 a2).bind fun bt189 => (some (bt189.1, bt189.2))) else (some (0, 4)))) else (some (0, 4)))) else (some (0, 4)))) = some (r1, r2) := h
  clear h
  replace H := Option.bind_eq_some_iff.mp H
  obtain ⟨t186, A40, H⟩ := H
  replace H : (if t186 = true then ((spec_l01In.f a1 1 1000000000000000000).bind fun t187 => (if t187 = true then ((spec_l01In.f a2 1 1000000000000000000).bind fun t188 => (if t188 = true then ((spec_l10Swap.f k a0 a1 a2).bind fun bt189 => (some (bt189.1, bt189.2))) else (some (0, 4)))) else (some (0, 4)))) else (some (0, 4))) = some (r1, r2) := H
  have A4 := Aside0.mk A40
  clear A40
  by_cases c5 : t186 = true
  · subst c5
    have H1 : ((spec_l01In.f a1 1 1000000000000000000).bind fun t187 => (if t187 = true then ((spec_l01In.f a2 1 1000000000000000000).bind fun t188 => (if t188 = true then ((spec_l10Swap.f k a0 a1 a2).bind fun bt189 => (some (bt189.1, bt189.2))) else (some (0, 4)))) else (some (0, 4)))) = some (r1, r2) := by rw [if_pos rfl] at H; exact H
    clear H
    have H := H1
    clear H1
    replace H := Option.bind_eq_some_iff.mp H
    obtain ⟨t187, A60, H⟩ := H
    replace H : (if t187 = true then ((spec_l01In.f a2 1 1000000000000000000).bind fun t188 => (if t188 = true then ((spec_l10Swap.f k a0 a1 a2).bind fun bt189 => (some (bt189.1, bt189.2))) else (some (0, 4)))) else (some (0, 4))) = some (r1, r2) := H
    have A6 := Aside0.mk A60
    clear A60
    by_cases c7 : t187 = true
    · subst c7
      have H1 : ((spec_l01In.f a2 1 1000000000000000000).bind fun t188 => (if t188 = true then ((spec_l10Swap.f k a0 a1 a2).bind fun bt189 => (some (bt189.1, bt189.2))) else (some (0, 4)))) = some (r1, r2) := by rw [if_pos rfl] at H; exact H
      clear H
      have H := H1
      clear H1
      replace H := Option.bind_eq_some_iff.mp H
      obtain ⟨t188, A80, H⟩ := H
      replace H : (if t188 = true then ((spec_l10Swap.f k a0 a1 a2).bind fun bt189 => (some (bt189.1, bt189.2))) else (some (0, 4))) = some (r1, r2) := H
      have A8 := Aside0.mk A80
      clear A80
      by_cases c9 : t188 = true
      · subst c9
        have H1 : ((spec_l10Swap.f k a0 a1 a2).bind fun bt189 => (some (bt189.1, bt189.2))) = some (r1, r2) := by rw [if_pos rfl] at H; exact H
        clear H
        have H := H1
        clear H1
        replace H := Option.bind_eq_some_iff.mp H
        obtain ⟨⟨t189, t190⟩, A100, H⟩ := H
        replace H : (some (t189, t190)) = some (r1, r2) := H
        have A10 := Aside0.mk A100
        clear A100
        simp only [Option.some.injEq, Prod.mk.injEq] at H
        obtain ⟨rfl, rfl⟩ := H
        go_enter Try.func23, Try.ntmps23
        go_wp2_with (first | ((with_reducible refine gate_callee (f := 33) rfl ?_); refine goesL_ (some 9) rfl rfl Try.func33 (by kernel_rfl) rfl #[.int .i64 a0, .int .i64 1, .int .i64 1000000000000000000] rfl (by (try simp only [List.map_toArray, List.map_cons, List.map_nil]); first | done | rfl | (simp only [List.length_drop, List.length_take]; rfl)) ?_; (with_reducible refine (spec_l01In.calls a0 1 1000000000000000000 true _ A4.out).mono ?_); rintro e w' ⟨rfl, ⟨nd, rfl⟩⟩; refine ⟨_, rfl, ?_⟩) | (go_at_call 33; (with_reducible refine (spec_l01In.calls a1 1 1000000000000000000 true _ A6.out).mono ?_); rintro e w' ⟨rfl, ⟨nd, rfl⟩⟩) | (go_at_call 33; (with_reducible refine (spec_l01In.calls a2 1 1000000000000000000 true _ A8.out).mono ?_); rintro e w' ⟨rfl, ⟨nd, rfl⟩⟩) | ((with_reducible refine gate_callee (f := 43) rfl ?_); refine goesL_ (some 24) rfl rfl Try.func43 (by kernel_rfl) rfl #[.int .i64 a0, .int .i64 a1, .int .i64 a2] rfl (by (try simp only [List.map_toArray, List.map_cons, List.map_nil]); first | done | rfl | (simp only [List.length_drop, List.length_take]; rfl)) ?_; (with_reducible refine (spec_l10Swap.calls k a0 a1 a2 t189 t190 _ A10.out).mono ?_); rintro e w' ⟨rfl, ⟨nd, rfl⟩⟩; refine ⟨_, rfl, ?_⟩))
        go_ret2
        exact ⟨by first | rfl | (simp; done) | (simp [*]; done), by repeat (first | exact Drawn0.refl _ | apply Drawn0.step)⟩
      · replace c9 := Bool.eq_false_iff.mpr c9
        subst c9
        have H1 : (some (0, 4)) = some (r1, r2) := by rw [if_neg (show ¬ (false = true) by decide)] at H; exact H
        clear H
        have H := H1
        clear H1
        simp only [Option.some.injEq, Prod.mk.injEq] at H
        obtain ⟨rfl, rfl⟩ := H
        go_enter Try.func23, Try.ntmps23
        go_wp2_with (first | ((with_reducible refine gate_callee (f := 33) rfl ?_); refine goesL_ (some 9) rfl rfl Try.func33 (by kernel_rfl) rfl #[.int .i64 a0, .int .i64 1, .int .i64 1000000000000000000] rfl (by (try simp only [List.map_toArray, List.map_cons, List.map_nil]); first | done | rfl | (simp only [List.length_drop, List.length_take]; rfl)) ?_; (with_reducible refine (spec_l01In.calls a0 1 1000000000000000000 true _ A4.out).mono ?_); rintro e w' ⟨rfl, ⟨nd, rfl⟩⟩; refine ⟨_, rfl, ?_⟩) | (go_at_call 33; (with_reducible refine (spec_l01In.calls a1 1 1000000000000000000 true _ A6.out).mono ?_); rintro e w' ⟨rfl, ⟨nd, rfl⟩⟩) | (go_at_call 33; (with_reducible refine (spec_l01In.calls a2 1 1000000000000000000 false _ A8.out).mono ?_); rintro e w' ⟨rfl, ⟨nd, rfl⟩⟩))
        go_ret2
        exact ⟨by first | rfl | (simp; done) | (simp [*]; done), by repeat (first | exact Drawn0.refl _ | apply Drawn0.step)⟩
    · replace c7 := Bool.eq_false_iff.mpr c7
      subst c7
      have H1 : (some (0, 4)) = some (r1, r2) := by rw [if_neg (show ¬ (false = true) by decide)] at H; exact H
      clear H
      have H := H1
      clear H1
      simp only [Option.some.injEq, Prod.mk.injEq] at H
      obtain ⟨rfl, rfl⟩ := H
      go_enter Try.func23, Try.ntmps23
      go_wp2_with (first | ((with_reducible refine gate_callee (f := 33) rfl ?_); refine goesL_ (some 9) rfl rfl Try.func33 (by kernel_rfl) rfl #[.int .i64 a0, .int .i64 1, .int .i64 1000000000000000000] rfl (by (try simp only [List.map_toArray, List.map_cons, List.map_nil]); first | done | rfl | (simp only [List.length_drop, List.length_take]; rfl)) ?_; (with_reducible refine (spec_l01In.calls a0 1 1000000000000000000 true _ A4.out).mono ?_); rintro e w' ⟨rfl, ⟨nd, rfl⟩⟩; refine ⟨_, rfl, ?_⟩) | (go_at_call 33; (with_reducible refine (spec_l01In.calls a1 1 1000000000000000000 false _ A6.out).mono ?_); rintro e w' ⟨rfl, ⟨nd, rfl⟩⟩))
      go_ret2
      exact ⟨by first | rfl | (simp; done) | (simp [*]; done), by repeat (first | exact Drawn0.refl _ | apply Drawn0.step)⟩
  · replace c5 := Bool.eq_false_iff.mpr c5
    subst c5
    have H1 : (some (0, 4)) = some (r1, r2) := by rw [if_neg (show ¬ (false = true) by decide)] at H; exact H
    clear H
    have H := H1
    clear H1
    simp only [Option.some.injEq, Prod.mk.injEq] at H
    obtain ⟨rfl, rfl⟩ := H
    go_enter Try.func23, Try.ntmps23
    go_wp2_with (first | ((with_reducible refine gate_callee (f := 33) rfl ?_); refine goesL_ (some 9) rfl rfl Try.func33 (by kernel_rfl) rfl #[.int .i64 a0, .int .i64 1, .int .i64 1000000000000000000] rfl (by (try simp only [List.map_toArray, List.map_cons, List.map_nil]); first | done | rfl | (simp only [List.length_drop, List.length_take]; rfl)) ?_; (with_reducible refine (spec_l01In.calls a0 1 1000000000000000000 false _ A4.out).mono ?_); rintro e w' ⟨rfl, ⟨nd, rfl⟩⟩; refine ⟨_, rfl, ?_⟩))
    go_ret2
    exact ⟨by first | rfl | (simp; done) | (simp [*]; done), by repeat (first | exact Drawn0.refl _ | apply Drawn0.step)⟩

end Go.Proofs.Ytppgnndolgmcfaa.Q

namespace Go.Proofs.Ytppgnndolgmcfaa.Q
open Go.RowKit Go.Proofs.YtppgnndolgmcfaaW.PrintWords Go.Proofs.YtppgnndolgmcfaaW.PrintLast Go.Proofs.YtppgnndolgmcfaaW.PrintMore
attribute [local go_sem] max2_int min2_int max_two min_two max_three min_three max_four min_four   -- for this text's walks alone
set_option linter.unusedVariables false
set_option linter.unusedSimpArgs false

/-! ### impl_QuoteSwap: function 24 -/
def impl_QuoteSwap.j0 : Nat → Int → Int → Int → Bool → Option (Int × Int)
  | 0, _, _, _, _ => none
  | k + 1, x0, x1, x2, x12 => if x12 = true then (some (0, 4)) else (if (wrap64 (x0 + x2)) > 1000000000000000000 then (some (0, 13)) else ((impl_MulDiv.f k x2 997 1000).bind fun bt203 => ((impl_MulDiv.f k x1 bt203.1 (wrap64 (x0 + bt203.1))).bind fun bt205 => (if bt205.1 = 0 then (some (0, 17)) else (some (bt205.1, 0))))))
def impl_QuoteSwap.f (k : Nat) (a0 : Int) (a1 : Int) (a2 : Int) : Option (Int × Int) := (impl_isSome.f a0).bind fun t200 => (if t200 = true then ((impl_isSome.f a1).bind fun t201 => (if t201 = true then ((impl_isSome.f a2).bind fun t202 => (impl_QuoteSwap.j0 k a0 a1 a2 (!t202))) else (impl_QuoteSwap.j0 k a0 a1 a2 true))) else (impl_QuoteSwap.j0 k a0 a1 a2 true))
theorem impl_QuoteSwap.mono_l : ∀ k, (∀ y0 y1 y2 y3, LeO (impl_QuoteSwap.j0 k y0 y1 y2 y3) (impl_QuoteSwap.j0 (k + 1) y0 y1 y2 y3))
  | 0 => fun _ _ _ _ r h => by simp [impl_QuoteSwap.j0] at h
  | k + 1 => by
    have ih0 := impl_QuoteSwap.mono_l k
    · intro y0 y1 y2 y3
      unfold impl_QuoteSwap.j0
      repeat' first
      | (with_reducible exact ih0 _ _ _ _)
      | (with_reducible exact impl_MulDiv.mono _ _ _ _)
      | (with_reducible exact LeO.refl _)
      | (with_reducible exact LeO.none _)
      | (with_reducible refine LeO.ite ?_ ?_)
      | (with_reducible refine LeO.bind ?_ (fun _ => ?_))
      | exact ih0 _ _ _ _
      | exact impl_MulDiv.mono _ _ _ _
      | exact LeO.none _
      | refine LeO.ite ?_ ?_
      | refine LeO.bind ?_ (fun _ => ?_)
theorem impl_QuoteSwap.mono : ∀ a0 a1 a2 k, LeO (impl_QuoteSwap.f k a0 a1 a2) (impl_QuoteSwap.f (k + 1) a0 a1 a2) := by
  intro a0 a1 a2 k
  have ih0 := impl_QuoteSwap.mono_l k
  unfold impl_QuoteSwap.f
  repeat' first
      | (with_reducible exact ih0 _ _ _ _)
      | (with_reducible exact impl_MulDiv.mono _ _ _ _)
      | (with_reducible exact LeO.refl _)
      | (with_reducible exact LeO.none _)
      | (with_reducible refine LeO.ite ?_ ?_)
      | (with_reducible refine LeO.bind ?_ (fun _ => ?_))
      | exact ih0 _ _ _ _
      | exact impl_MulDiv.mono _ _ _ _
      | exact LeO.none _
      | refine LeO.ite ?_ ?_
      | refine LeO.bind ?_ (fun _ => ?_)
set_option maxHeartbeats 8000000 in
set_option maxRecDepth 100000 in
theorem impl_QuoteSwap.calls (k : Nat) (a0 : Int) (a1 : Int) (a2 : Int) (r1 : Int) (r2 : Int) (w : World) (h : impl_QuoteSwap.f k a0 a1 a2 = some (r1, r2)) :
    Calls Try.prog 24 #[.int .i64 a0, .int .i64 a1, .int .i64 a2] w fun e w' => e = .returned (.tuple #[.int .i64 r1, .int .i64 r2]) ∧ Drawn0 w w' := by
  have H : ((impl_isSome.f a0).bind fun t200 => (if t200 = true then ((impl_isSome.f a1).bind fun t201 => (if t201 = true then ((impl_isSome.f a2).bind fun t202 => (impl_QuoteSwap.j0 k a0 a1 a2 (!t202))) else (impl_QuoteSwap.j0 k a0 a1 a2 true))) else (impl_QuoteSwap.j0 k a0 a1 a2 true))) = some (r1, r2) := h
  clear h
  have HC4 := Aside0.mk H
  clear H
  go_enter Try.func24, Try.ntmps24
  go_upto_region 1 with (fail)
  go_cut [12] (fun v12 wc => ∃ (kq : Nat) (x12_3 : Bool), v12 = .bool x12_3 ∧ Aside0 (impl_QuoteSwap.j0 kq a0 a1 a2 x12_3 = some (r1, r2)) ∧ Aside0 (kq ≤ k) ∧ Drawn0 w wc)
  case first =>
    have H := HC4.out
    clear HC4
    replace H := Option.bind_eq_some_iff.mp H
    obtain ⟨t200, A50, H⟩ := H
    replace H : (if t200 = true then ((impl_isSome.f a1).bind fun t201 => (if t201 = true then ((impl_isSome.f a2).bind fun t202 => (impl_QuoteSwap.j0 k a0 a1 a2 (!t202))) else (impl_QuoteSwap.j0 k a0 a1 a2 true))) else (impl_QuoteSwap.j0 k a0 a1 a2 true)) = some (r1, r2) := H
    have A5 := Aside0.mk A50
    clear A50
    by_cases c6 : t200 = true
    · subst c6
      have H1 : ((impl_isSome.f a1).bind fun t201 => (if t201 = true then ((impl_isSome.f a2).bind fun t202 => (impl_QuoteSwap.j0 k a0 a1 a2 (!t202))) else (impl_QuoteSwap.j0 k a0 a1 a2 true))) = some (r1, r2) := by rw [if_pos rfl] at H; exact H
      clear H
      have H := H1
      clear H1
      replace H := Option.bind_eq_some_iff.mp H
      obtain ⟨t201, A70, H⟩ := H
      replace H : (if t201 = true then ((impl_isSome.f a2).bind fun t202 => (impl_QuoteSwap.j0 k a0 a1 a2 (!t202))) else (impl_QuoteSwap.j0 k a0 a1 a2 true)) = some (r1, r2) := H
      have A7 := Aside0.mk A70
      clear A70
      by_cases c8 : t201 = true
      · subst c8
        have H1 : ((impl_isSome.f a2).bind fun t202 => (impl_QuoteSwap.j0 k a0 a1 a2 (!t202))) = some (r1, r2) := by rw [if_pos rfl] at H; exact H
        clear H
        have H := H1
        clear H1
        replace H := Option.bind_eq_some_iff.mp H
        obtain ⟨t202, A90, H⟩ := H
        replace H : (impl_QuoteSwap.j0 k a0 a1 a2 (!t202)) = some (r1, r2) := H
        have A9 := Aside0.mk A90
        clear A90
        have H' := Aside0.mk H
        clear H
        go_wp2_with (first | ((with_reducible refine gate_callee (f := 34) rfl ?_); refine goesL_ (some 14) rfl rfl Try.func34 (by kernel_rfl) rfl #[.int .i64 a0] rfl (by (try simp only [List.map_toArray, List.map_cons, List.map_nil]); first | done | rfl | (simp only [List.length_drop, List.length_take]; rfl)) ?_; (with_reducible refine (impl_isSome.calls a0 true _ A5.out).mono ?_); rintro e w' ⟨rfl, ⟨nd, rfl⟩⟩; refine ⟨_, rfl, ?_⟩) | (go_at_call 34; (with_reducible refine (impl_isSome.calls a1 true _ A7.out).mono ?_); rintro e w' ⟨rfl, ⟨nd, rfl⟩⟩) | (go_at_call 34; (with_reducible refine (impl_isSome.calls a2 t202 _ A9.out).mono ?_); rintro e w' ⟨rfl, ⟨nd, rfl⟩⟩))
        go_meet
        case rel => exact ⟨_, (!t202), (by first | rfl | (simp; done) | (simp [*]; done)), H', ⟨by first | omega | exact Nat.le_refl _⟩, by repeat (first | exact Drawn0.refl _ | apply Drawn0.step)⟩
      · replace c8 := Bool.eq_false_iff.mpr c8
        subst c8
        have H1 : (impl_QuoteSwap.j0 k a0 a1 a2 true) = some (r1, r2) := by rw [if_neg (show ¬ (false = true) by decide)] at H; exact H
        clear H
        have H := H1
        clear H1
        have H' := Aside0.mk H
        clear H
        go_wp2_with (first | ((with_reducible refine gate_callee (f := 34) rfl ?_); refine goesL_ (some 14) rfl rfl Try.func34 (by kernel_rfl) rfl #[.int .i64 a0] rfl (by (try simp only [List.map_toArray, List.map_cons, List.map_nil]); first | done | rfl | (simp only [List.length_drop, List.length_take]; rfl)) ?_; (with_reducible refine (impl_isSome.calls a0 true _ A5.out).mono ?_); rintro e w' ⟨rfl, ⟨nd, rfl⟩⟩; refine ⟨_, rfl, ?_⟩) | (go_at_call 34; (with_reducible refine (impl_isSome.calls a1 false _ A7.out).mono ?_); rintro e w' ⟨rfl, ⟨nd, rfl⟩⟩))
        go_meet
        case rel => exact ⟨_, (true), (by first | rfl | (simp; done) | (simp [*]; done)), H', ⟨by first | omega | exact Nat.le_refl _⟩, by repeat (first | exact Drawn0.refl _ | apply Drawn0.step)⟩
    · replace c6 := Bool.eq_false_iff.mpr c6
      subst c6
      have H1 : (impl_QuoteSwap.j0 k a0 a1 a2 true) = some (r1, r2) := by rw [if_neg (show ¬ (false = true) by decide)] at H; exact H
      clear H
      have H := H1
      clear H1
      have H' := Aside0.mk H
      clear H
      go_wp2_with (first | ((with_reducible refine gate_callee (f := 34) rfl ?_); refine goesL_ (some 14) rfl rfl Try.func34 (by kernel_rfl) rfl #[.int .i64 a0] rfl (by (try simp only [List.map_toArray, List.map_cons, List.map_nil]); first | done | rfl | (simp only [List.length_drop, List.length_take]; rfl)) ?_; (with_reducible refine (impl_isSome.calls a0 false _ A5.out).mono ?_); rintro e w' ⟨rfl, ⟨nd, rfl⟩⟩; refine ⟨_, rfl, ?_⟩))
      go_meet
      case rel => exact ⟨_, (true), (by first | rfl | (simp; done) | (simp [*]; done)), H', ⟨by first | omega | exact Nat.le_refl _⟩, by repeat (first | exact Drawn0.refl _ | apply Drawn0.step)⟩
  case rest =>
    clear HC4
    try clear c2
    try clear p2
    try clear c3
    try clear c6
    try clear c8
    obtain ⟨kq, x12_3, rfl, HA, HJ3, ⟨mc3, rfl⟩⟩ := hcut
    cases kq with
    | zero => exact absurd HA.out (by simp [impl_QuoteSwap.j0])
    | succ kj3 =>
      have H := HA.out
      clear HA
      simp only [impl_QuoteSwap.j0] at H
      by_cases c10 : x12_3 = true
      · subst c10
        have H1 : (some (0, 4)) = some (r1, r2) := by rw [if_pos rfl] at H; exact H
        clear H
        have H := H1
        clear H1
        simp only [Option.some.injEq, Prod.mk.injEq] at H
        obtain ⟨rfl, rfl⟩ := H
        go_wp2
        go_ret2
        exact ⟨by first | rfl | (simp; done) | (simp [*]; done), by repeat (first | exact Drawn0.refl _ | apply Drawn0.step)⟩
      · replace c10 := Bool.eq_false_iff.mpr c10
        subst c10
        have H1 : (if (wrap64 (a0 + a2)) > 1000000000000000000 then (some (0, 13)) else ((impl_MulDiv.f kj3 a2 997 1000).bind fun bt203 => ((impl_MulDiv.f kj3 a1 bt203.1 (wrap64 (a0 + bt203.1))).bind fun bt205 => (if bt205.1 = 0 then (some (0, 17)) else (some (bt205.1, 0)))))) = some (r1, r2) := by rw [if_neg (show ¬ (false = true) by decide)] at H; exact H
        clear H
        have H := H1
        clear H1
        by_cases c11 : (wrap64 (a0 + a2)) > 1000000000000000000
        · rw [if_pos c11] at H
          have c11b0 : decide (1000000000000000000 < (wrap64 (a0 + a2))) = true := decide_eq_true c11
          clear c11
          simp only [Option.some.injEq, Prod.mk.injEq] at H
          obtain ⟨rfl, rfl⟩ := H
          go_wp2
          go_ret2
          exact ⟨by first | rfl | (simp; done) | (simp [*]; done), by repeat (first | exact Drawn0.refl _ | apply Drawn0.step)⟩
        · rw [if_neg c11] at H
          have c11b0 : decide (1000000000000000000 < (wrap64 (a0 + a2))) = false := decide_eq_false c11
          clear c11
          replace H := Option.bind_eq_some_iff.mp H
          obtain ⟨⟨t203, t204⟩, A120, H⟩ := H
          replace H : ((impl_MulDiv.f kj3 a1 t203 (wrap64 (a0 + t203))).bind fun bt205 => (if bt205.1 = 0 then (some (0, 17)) else (some (bt205.1, 0)))) = some (r1, r2) := H
          have A12 := Aside0.mk A120
          clear A120
          replace H := Option.bind_eq_some_iff.mp H
          obtain ⟨⟨t205, t206⟩, A130, H⟩ := H
          replace H : (if t205 = 0 then (some (0, 17)) else (some (t205, 0))) = some (r1, r2) := H
          have A13 := Aside0.mk A130
          clear A130
          by_cases c14 : t205 = 0
          · rw [if_pos c14] at H
            have c14b0 : (t205 == 0) = true := beq_iff_eq.mpr c14
            have c14b1 : (t205 != 0) = false := bne_eq_false_iff_eq.mpr c14
            clear c14
            simp only [Option.some.injEq, Prod.mk.injEq] at H
            obtain ⟨rfl, rfl⟩ := H
            go_wp2_with (first | ((with_reducible refine gate_callee (f := 44) rfl ?_); refine goesL_ (some 33) rfl rfl Try.func44 (by kernel_rfl) rfl #[.int .i64 a2, .int .i64 997, .int .i64 1000] rfl (by (try simp only [List.map_toArray, List.map_cons, List.map_nil]); first | done | rfl | (simp only [List.length_drop, List.length_take]; rfl)) ?_; (with_reducible refine (impl_MulDiv.calls kj3 a2 997 1000 t203 t204 _ A12.out).mono ?_); rintro e w' ⟨rfl, ⟨nd, rfl⟩⟩; refine ⟨_, rfl, ?_⟩) | ((with_reducible refine gate_callee (f := 44) rfl ?_); refine goesL_ (some 42) rfl rfl Try.func44 (by kernel_rfl) rfl #[.int .i64 a1, .int .i64 t203, .int .i64 (wrap64 (a0 + t203))] rfl (by (try simp only [List.map_toArray, List.map_cons, List.map_nil]); first | done | rfl | (simp only [List.length_drop, List.length_take]; rfl)) ?_; (with_reducible refine (impl_MulDiv.calls kj3 a1 t203 (wrap64 (a0 + t203)) t205 t206 _ A13.out).mono ?_); rintro e w' ⟨rfl, ⟨nd, rfl⟩⟩; refine ⟨_, rfl, ?_⟩))
            go_ret2
            exact ⟨by first | rfl | (simp; done) | (simp [*]; done), by repeat (first | exact Drawn0.refl _ | apply Drawn0.step)⟩
          · rw [if_neg c14] at H
            have c14b0 : (t205 == 0) = false := beq_eq_false_iff_ne.mpr c14
            have c14b1 : (t205 != 0) = true := bne_iff_ne.mpr c14
            simp only [Option.some.injEq, Prod.mk.injEq] at H
            obtain ⟨rfl, rfl⟩ := H
            go_wp2_with (first | ((with_reducible refine gate_callee (f := 44) rfl ?_); refine goesL_ (some 33) rfl rfl Try.func44 (by kernel_rfl) rfl #[.int .i64 a2, .int .i64 997, .int .i64 1000] rfl (by (try simp only [List.map_toArray, List.map_cons, List.map_nil]); first | done | rfl | (simp only [List.length_drop, List.length_take]; rfl)) ?_; (with_reducible refine (impl_MulDiv.calls kj3 a2 997 1000 t203 t204 _ A12.out).mono ?_); rintro e w' ⟨rfl, ⟨nd, rfl⟩⟩; refine ⟨_, rfl, ?_⟩) | ((with_reducible refine gate_callee (f := 44) rfl ?_); refine goesL_ (some 42) rfl rfl Try.func44 (by kernel_rfl) rfl #[.int .i64 a1, .int .i64 t203, .int .i64 (wrap64 (a0 + t203))] rfl (by (try simp only [List.map_toArray, List.map_cons, List.map_nil]); first | done | rfl | (simp only [List.length_drop, List.length_take]; rfl)) ?_; (with_reducible refine (impl_MulDiv.calls kj3 a1 t203 (wrap64 (a0 + t203)) t205 t206 _ A13.out).mono ?_); rintro e w' ⟨rfl, ⟨nd, rfl⟩⟩; refine ⟨_, rfl, ?_⟩))
            go_ret2
            exact ⟨by first | rfl | (simp; done) | (simp [*]; done), by repeat (first | exact Drawn0.refl _ | apply Drawn0.step)⟩

end Go.Proofs.Ytppgnndolgmcfaa.Q

namespace Go.Proofs.Ytppgnndolgmcfaa.Q
open Go.RowKit Go.Proofs.YtppgnndolgmcfaaW.PrintWords Go.Proofs.YtppgnndolgmcfaaW.PrintLast Go.Proofs.YtppgnndolgmcfaaW.PrintMore
attribute [local go_sem] max2_int min2_int max_two min_two max_three min_three max_four min_four   -- for this text's walks alone
set_option linter.unusedVariables false
set_option linter.unusedSimpArgs false

/-! ### spec_l10Remove: function 45 -/
def spec_l10Remove.f (k : Nat) (a0_0 : Int) (a0_1 : Int) (a0_2 : Int) (a1 : Int) : Option (Int × Int × Int) := if a1 > a0_2 then (some (0, 0, 12)) else ((spec_l02MulDiv.f k a0_0 a1 a0_2).bind fun bt223 => ((spec_l02MulDiv.f k a0_1 a1 a0_2).bind fun bt225 => (if bt223.1 = 0 then (some (0, 0, 17)) else (if bt225.1 = 0 then (some (0, 0, 17)) else (some (bt223.1, bt225.1, 0))))))
theorem spec_l10Remove.mono : ∀ a0 a1 a2 a3 k, LeO (spec_l10Remove.f k a0 a1 a2 a3) (spec_l10Remove.f (k + 1) a0 a1 a2 a3) := by
  intro a0 a1 a2 a3 k
  unfold spec_l10Remove.f
  repeat' first
      | (with_reducible exact spec_l02MulDiv.mono _ _ _ _)
      | (with_reducible exact LeO.refl _)
      | (with_reducible exact LeO.none _)
      | (with_reducible refine LeO.ite ?_ ?_)
      | (with_reducible refine LeO.bind ?_ (fun _ => ?_))
      | exact spec_l02MulDiv.mono _ _ _ _
      | exact LeO.none _
      | refine LeO.ite ?_ ?_
      | refine LeO.bind ?_ (fun _ => ?_)
set_option maxHeartbeats 8000000 in
set_option maxRecDepth 100000 in
theorem spec_l10Remove.calls (k : Nat) (a0_0 : Int) (a0_1 : Int) (a0_2 : Int) (a1 : Int) (r1 : Int) (r2 : Int) (r3 : Int) (w : World) (h : spec_l10Remove.f k a0_0 a0_1 a0_2 a1 = some (r1, r2, r3)) :
    Calls Try.prog 45 #[.agg #[.int .i64 a0_0, .int .i64 a0_1, .int .i64 a0_2], .int .i64 a1] w fun e w' => e = .returned (.tuple #[.int .i64 r1, .int .i64 r2, .int .i64 r3]) ∧ Below w.heap.size w w' := by
  have hu25 := Try.underlying25
  have HB := Aside0.mk (Below.refl w.heap.size w)
  have H : (if a1 > a0_2 then (some (0, 0, 12)) else ((spec_l02MulDiv.f k a0_0 a1 a0_2).bind fun bt223 => ((spec_l02MulDiv.f k a0_1 a1 a0_2).bind fun bt225 => (if bt223.1 = 0 then (some (0, 0, 17)) else (if bt225.1 = 0 then (some (0, 0, 17)) else (some (bt223.1, bt225.1, 0))))))) = some (r1, r2, r3) := h
  clear h
  by_cases c3 : a1 > a0_2
  · rw [if_pos c3] at H
    have c3b0 : decide (a0_2 < a1) = true := decide_eq_true c3
    clear c3
    simp only [Option.some.injEq, Prod.mk.injEq] at H
    obtain ⟨rfl, rfl, rfl⟩ := H
    go_enter Try.func45, Try.ntmps45
    go_wp2_with (first | ((with_reducible refine gate_dst (N := 2) rfl ?_); refine box_event ?hg (N := 2) ?hd (cs := #[.int .i64 a0_0, .int .i64 a0_1, .int .i64 a0_2]) (t := 25) ?hr ?_; (case hd => rfl); (case hg => rfl); (case hr => first | (go_simp; done) | (go_simp; rfl)); intro gb222 hg w4 hbox hb; have n0_ := Aside0.mk (below_step (by repeat (first | (with_reducible first | exact HB.out | apply below_alloc | apply pw_below_drewN | apply below_drew1) | exact HB.out)) hb); have n1_ := Aside0.mk (hbox); have n2_ := Aside0.mk ((by rw [hg]; exact (below_size (by repeat (first | (with_reducible first | exact HB.out | apply below_alloc | apply pw_below_drewN | apply below_drew1) | exact HB.out))) : w.heap.size ≤ gb222)); have n3_ := Aside0.mk ((by rw [hg]; exact (below_size (by repeat (first | (with_reducible first | exact HB.out | apply below_alloc | apply pw_below_drewN | apply below_drew1) | exact HB.out))) : w.heap.size ≤ gb222)); clear HB; have HB := n0_; have BK222 := n1_; have GW222 := n2_; have GE222 := n3_; clear n0_ n1_ n2_ n3_; clear hb hbox hg; have hcz5_0 : w4.cell? ⟨gb222, 0, none⟩ = some (.int .i64 a0_0) := (blk_cell BK222.out 0).trans rfl; have hcz5_1 : w4.cell? ⟨gb222, 1, none⟩ = some (.int .i64 a0_1) := (blk_cell BK222.out 1).trans rfl; have hcz5_2 : w4.cell? ⟨gb222, 2, none⟩ = some (.int .i64 a0_2) := (blk_cell BK222.out 2).trans rfl; have hfz5_0 := blk_frozen BK222.out 0; have hfz5_1 := blk_frozen BK222.out 1; have hfz5_2 := blk_frozen BK222.out 2))
    go_ret3
    exact ⟨by first | rfl | (simp [errW_none, errW_some] <;> rfl) | (simp [*, errW_none, errW_some] <;> rfl), by repeat (first | (with_reducible first | exact HB.out | apply below_alloc | apply pw_below_drewN | apply below_drew1 | refine below_set ?_ GE222.out) | exact HB.out)⟩
  · rw [if_neg c3] at H
    have c3b0 : decide (a0_2 < a1) = false := decide_eq_false c3
    clear c3
    replace H := Option.bind_eq_some_iff.mp H
    obtain ⟨⟨t223, t224⟩, A60, H⟩ := H
    replace H : ((spec_l02MulDiv.f k a0_1 a1 a0_2).bind fun bt225 => (if t223 = 0 then (some (0, 0, 17)) else (if bt225.1 = 0 then (some (0, 0, 17)) else (some (t223, bt225.1, 0))))) = some (r1, r2, r3) := H
    have A6 := Aside0.mk A60
    clear A60
    replace H := Option.bind_eq_some_iff.mp H
    obtain ⟨⟨t225, t226⟩, A70, H⟩ := H
    replace H : (if t223 = 0 then (some (0, 0, 17)) else (if t225 = 0 then (some (0, 0, 17)) else (some (t223, t225, 0)))) = some (r1, r2, r3) := H
    have A7 := Aside0.mk A70
    clear A70
    by_cases c8 : t223 = 0
    · rw [if_pos c8] at H
      have c8b0 : (t223 == 0) = true := beq_iff_eq.mpr c8
      have c8b1 : (t223 != 0) = false := bne_eq_false_iff_eq.mpr c8
      clear c8
      simp only [Option.some.injEq, Prod.mk.injEq] at H
      obtain ⟨rfl, rfl, rfl⟩ := H
      go_enter Try.func45, Try.ntmps45
      go_wp2_with (first | ((with_reducible refine gate_dst (N := 2) rfl ?_); refine box_event ?hg (N := 2) ?hd (cs := #[.int .i64 a0_0, .int .i64 a0_1, .int .i64 a0_2]) (t := 25) ?hr ?_; (case hd => rfl); (case hg => rfl); (case hr => first | (go_simp; done) | (go_simp; rfl)); intro gb222 hg w9 hbox hb; have n0_ := Aside0.mk (below_step (by repeat (first | (with_reducible first | exact HB.out | apply below_alloc | apply pw_below_drewN | apply below_drew1) | exact HB.out)) hb); have n1_ := Aside0.mk (hbox); have n2_ := Aside0.mk ((by rw [hg]; exact (below_size (by repeat (first | (with_reducible first | exact HB.out | apply below_alloc | apply pw_below_drewN | apply below_drew1) | exact HB.out))) : w.heap.size ≤ gb222)); have n3_ := Aside0.mk ((by rw [hg]; exact (below_size (by repeat (first | (with_reducible first | exact HB.out | apply below_alloc | apply pw_below_drewN | apply below_drew1) | exact HB.out))) : w.heap.size ≤ gb222)); clear HB; have HB := n0_; have BK222 := n1_; have GW222 := n2_; have GE222 := n3_; clear n0_ n1_ n2_ n3_; clear hb hbox hg; have hcz10_0 : w9.cell? ⟨gb222, 0, none⟩ = some (.int .i64 a0_0) := (blk_cell BK222.out 0).trans rfl; have hcz10_1 : w9.cell? ⟨gb222, 1, none⟩ = some (.int .i64 a0_1) := (blk_cell BK222.out 1).trans rfl; have hcz10_2 : w9.cell? ⟨gb222, 2, none⟩ = some (.int .i64 a0_2) := (blk_cell BK222.out 2).trans rfl; have hfz10_0 := blk_frozen BK222.out 0; have hfz10_1 := blk_frozen BK222.out 1; have hfz10_2 := blk_frozen BK222.out 2) | ((with_reducible refine gate_callee (f := 57) rfl ?_); refine goesL_ (some 21) rfl rfl Try.func57 (by kernel_rfl) rfl #[.int .i64 a0_0, .int .i64 a1, .int .i64 a0_2] rfl (by (try simp only [List.map_toArray, List.map_cons, List.map_nil]); first | done | rfl | (simp only [List.length_drop, List.length_take]; rfl)) ?_; (with_reducible refine (spec_l02MulDiv.calls k a0_0 a1 a0_2 t223 t224 _ A6.out).mono ?_); rintro e w' ⟨rfl, ⟨nd, rfl⟩⟩; refine ⟨_, rfl, ?_⟩) | ((with_reducible refine gate_callee (f := 57) rfl ?_); refine goesL_ (some 30) rfl rfl Try.func57 (by kernel_rfl) rfl #[.int .i64 a0_1, .int .i64 a1, .int .i64 a0_2] rfl (by (try simp only [List.map_toArray, List.map_cons, List.map_nil]); first | done | rfl | (simp only [List.length_drop, List.length_take]; rfl)) ?_; (with_reducible refine (spec_l02MulDiv.calls k a0_1 a1 a0_2 t225 t226 _ A7.out).mono ?_); rintro e w' ⟨rfl, ⟨nd, rfl⟩⟩; refine ⟨_, rfl, ?_⟩))
      go_ret3
      exact ⟨by first | rfl | (simp [errW_none, errW_some] <;> rfl) | (simp [*, errW_none, errW_some] <;> rfl), by repeat (first | (with_reducible first | exact HB.out | apply below_alloc | apply pw_below_drewN | apply below_drew1 | refine below_set ?_ GE222.out) | exact HB.out)⟩
    · rw [if_neg c8] at H
      have c8b0 : (t223 == 0) = false := beq_eq_false_iff_ne.mpr c8
      have c8b1 : (t223 != 0) = true := bne_iff_ne.mpr c8
      by_cases c11 : t225 = 0
      · rw [if_pos c11] at H
        have c11b0 : (t225 == 0) = true := beq_iff_eq.mpr c11
        have c11b1 : (t225 != 0) = false := bne_eq_false_iff_eq.mpr c11
        clear c11
        simp only [Option.some.injEq, Prod.mk.injEq] at H
        obtain ⟨rfl, rfl, rfl⟩ := H
        go_enter Try.func45, Try.ntmps45
        go_wp2_with (first | ((with_reducible refine gate_dst (N := 2) rfl ?_); refine box_event ?hg (N := 2) ?hd (cs := #[.int .i64 a0_0, .int .i64 a0_1, .int .i64 a0_2]) (t := 25) ?hr ?_; (case hd => rfl); (case hg => rfl); (case hr => first | (go_simp; done) | (go_simp; rfl)); intro gb222 hg w12 hbox hb; have n0_ := Aside0.mk (below_step (by repeat (first | (with_reducible first | exact HB.out | apply below_alloc | apply pw_below_drewN | apply below_drew1) | exact HB.out)) hb); have n1_ := Aside0.mk (hbox); have n2_ := Aside0.mk ((by rw [hg]; exact (below_size (by repeat (first | (with_reducible first | exact HB.out | apply below_alloc | apply pw_below_drewN | apply below_drew1) | exact HB.out))) : w.heap.size ≤ gb222)); have n3_ := Aside0.mk ((by rw [hg]; exact (below_size (by repeat (first | (with_reducible first | exact HB.out | apply below_alloc | apply pw_below_drewN | apply below_drew1) | exact HB.out))) : w.heap.size ≤ gb222)); clear HB; have HB := n0_; have BK222 := n1_; have GW222 := n2_; have GE222 := n3_; clear n0_ n1_ n2_ n3_; clear hb hbox hg; have hcz13_0 : w12.cell? ⟨gb222, 0, none⟩ = some (.int .i64 a0_0) := (blk_cell BK222.out 0).trans rfl; have hcz13_1 : w12.cell? ⟨gb222, 1, none⟩ = some (.int .i64 a0_1) := (blk_cell BK222.out 1).trans rfl; have hcz13_2 : w12.cell? ⟨gb222, 2, none⟩ = some (.int .i64 a0_2) := (blk_cell BK222.out 2).trans rfl; have hfz13_0 := blk_frozen BK222.out 0; have hfz13_1 := blk_frozen BK222.out 1; have hfz13_2 := blk_frozen BK222.out 2) | ((with_reducible refine gate_callee (f := 57) rfl ?_); refine goesL_ (some 21) rfl rfl Try.func57 (by kernel_rfl) rfl #[.int .i64 a0_0, .int .i64 a1, .int .i64 a0_2] rfl (by (try simp only [List.map_toArray, List.map_cons, List.map_nil]); first | done | rfl | (simp only [List.length_drop, List.length_take]; rfl)) ?_; (with_reducible refine (spec_l02MulDiv.calls k a0_0 a1 a0_2 t223 t224 _ A6.out).mono ?_); rintro e w' ⟨rfl, ⟨nd, rfl⟩⟩; refine ⟨_, rfl, ?_⟩) | ((with_reducible refine gate_callee (f := 57) rfl ?_); refine goesL_ (some 30) rfl rfl Try.func57 (by kernel_rfl) rfl #[.int .i64 a0_1, .int .i64 a1, .int .i64 a0_2] rfl (by (try simp only [List.map_toArray, List.map_cons, List.map_nil]); first | done | rfl | (simp only [List.length_drop, List.length_take]; rfl)) ?_; (with_reducible refine (spec_l02MulDiv.calls k a0_1 a1 a0_2 t225 t226 _ A7.out).mono ?_); rintro e w' ⟨rfl, ⟨nd, rfl⟩⟩; refine ⟨_, rfl, ?_⟩))
        go_ret3
        exact ⟨by first | rfl | (simp [errW_none, errW_some] <;> rfl) | (simp [*, errW_none, errW_some] <;> rfl), by repeat (first | (with_reducible first | exact HB.out | apply below_alloc | apply pw_below_drewN | apply below_drew1 | refine below_set ?_ GE222.out) | exact HB.out)⟩
      · rw [if_neg c11] at H
        have c11b0 : (t225 == 0) = false := beq_eq_false_iff_ne.mpr c11
        have c11b1 : (t225 != 0) = true := bne_iff_ne.mpr c11
        simp only [Option.some.injEq, Prod.mk.injEq] at H
        obtain ⟨rfl, rfl, rfl⟩ := H
        go_enter Try.func45, Try.ntmps45
        go_wp2_with (first | ((with_reducible refine gate_dst (N := 2) rfl ?_); refine box_event ?hg (N := 2) ?hd (cs := #[.int .i64 a0_0, .int .i64 a0_1, .int .i64 a0_2]) (t := 25) ?hr ?_; (case hd => rfl); (case hg => rfl); (case hr => first | (go_simp; done) | (go_simp; rfl)); intro gb222 hg w14 hbox hb; have n0_ := Aside0.mk (below_step (by repeat (first | (with_reducible first | exact HB.out | apply below_alloc | apply pw_below_drewN | apply below_drew1) | exact HB.out)) hb); have n1_ := Aside0.mk (hbox); have n2_ := Aside0.mk ((by rw [hg]; exact (below_size (by repeat (first | (with_reducible first | exact HB.out | apply below_alloc | apply pw_below_drewN | apply below_drew1) | exact HB.out))) : w.heap.size ≤ gb222)); have n3_ := Aside0.mk ((by rw [hg]; exact (below_size (by repeat (first | (with_reducible first | exact HB.out | apply below_alloc | apply pw_below_drewN | apply below_drew1) | exact HB.out))) : w.heap.size ≤ gb222)); clear HB; have HB := n0_; have BK222 := n1_; have GW222 := n2_; have GE222 := n3_; clear n0_ n1_ n2_ n3_; clear hb hbox hg; have hcz15_0 : w14.cell? ⟨gb222, 0, none⟩ = some (.int .i64 a0_0) := (blk_cell BK222.out 0).trans rfl; have hcz15_1 : w14.cell? ⟨gb222, 1, none⟩ = some (.int .i64 a0_1) := (blk_cell BK222.out 1).trans rfl; have hcz15_2 : w14.cell? ⟨gb222, 2, none⟩ = some (.int .i64 a0_2) := (blk_cell BK222.out 2).trans rfl; have hfz15_0 := blk_frozen BK222.out 0; have hfz15_1 := blk_frozen BK222.out 1; have hfz15_2 := blk_frozen BK222.out 2) | ((with_reducible refine gate_callee (f := 57) rfl ?_); refine goesL_ (some 21) rfl rfl Try.func57 (by kernel_rfl) rfl #[.int .i64 a0_0, .int .i64 a1, .int .i64 a0_2] rfl (by (try simp only [List.map_toArray, List.map_cons, List.map_nil]); first | done | rfl | (simp only [List.length_drop, List.length_take]; rfl)) ?_; (with_reducible refine (spec_l02MulDiv.calls k a0_0 a1 a0_2 t223 t224 _ A6.out).mono ?_); rintro e w' ⟨rfl, ⟨nd, rfl⟩⟩; refine ⟨_, rfl, ?_⟩) | ((with_reducible refine gate_callee (f := 57) rfl ?_); refine goesL_ (some 30) rfl rfl Try.func57 (by kernel_rfl) rfl #[.int .i64 a0_1, .int .i64 a1, .int .i64 a0_2] rfl (by (try simp only [List.map_toArray, List.map_cons, List.map_nil]); first | done | rfl | (simp only [List.length_drop, List.length_take]; rfl)) ?_; (with_reducible refine (spec_l02MulDiv.calls k a0_1 a1 a0_2 t225 t226 _ A7.out).mono ?_); rintro e w' ⟨rfl, ⟨nd, rfl⟩⟩; refine ⟨_, rfl, ?_⟩))
        go_ret3
        exact ⟨by first | rfl | (simp [errW_none, errW_some] <;> rfl) | (simp [*, errW_none, errW_some] <;> rfl), by repeat (first | (with_reducible first | exact HB.out | apply below_alloc | apply pw_below_drewN | apply below_drew1 | refine below_set ?_ GE222.out) | exact HB.out)⟩

end Go.Proofs.Ytppgnndolgmcfaa.Q
