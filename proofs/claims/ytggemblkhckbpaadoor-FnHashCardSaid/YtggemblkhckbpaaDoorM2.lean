/- Parts of the proof: what single Go functions compute, each with its walk, and plain laws over these. -/
import Derived.Test.YtggemblkhckbpaaDoorM0
import Derived.Test.YtggemblkhckbpaaDoorM1
import Derived.Laws.Entries
import Derived.Test.YtggemblkhckbpaaDoorVMore
import Derived.WalkKit
import Derived.ProofKit
import Derived.OpenShut
import Derived.ShutString
import Derived.ChangeOld
import Derived.Below
import Derived.ChangeArms
import Derived.DataReads
import Derived.Test.YtggemblkhckbpaaDoorVWords
namespace Go.Proofs.YtggemblkhckbpaaDoor.Q
open Go.RowKit Go.Proofs.YtggemblkhckbpaaDoorW.PrintWords Go.Proofs.YtggemblkhckbpaaDoorW.PrintLast Go.Proofs.YtggemblkhckbpaaDoorW.PrintMore
attribute [local go_sem] max2_int min2_int max_two min_two max_three min_three max_four min_four   -- for this text's walks alone
set_option linter.unusedVariables false
set_option linter.unusedSimpArgs false

/-! ### spec_l01Hash: function 17 -/
theorem C_one8 {W : World} {g : Nat} {x : Int} (h : W.heap[g]? = some (.cells #[.int .u8 x] 5 (0, 0))) : Kd.C (Kd.int .u8) W (some ⟨g, 0, none⟩) 1 [x] := Kd.C_of_reads (d := (0 : Int)) ⟨rfl, by decide, fun _ => ⟨⟨g, 0, none⟩, rfl, fun j hj => by
  obtain rfl : j = 0 := by omega
  exact (blk_cell h 0).trans rfl⟩⟩
theorem off_add {g a j : Nat} : (⟨g, a, none⟩ : Addr).add j = ⟨g, a + j, none⟩ := by unfold Addr.add; split <;> simp_all
theorem rd_sub {t : List Int} {a j : Nat} (h : j < 64) : rd ((t.drop a).take 64) (j : Int) = rd t ((a + j : Nat) : Int) := by
  show ((t.drop a).take 64).getD ((j : Int)).toNat 0 = t.getD (((a + j : Nat) : Int)).toNat 0
  rw [Int.toNat_natCast, Int.toNat_natCast, List.getD_eq_getElem?_getD, List.getD_eq_getElem?_getD, List.getElem?_take, if_pos h, List.getElem?_drop]
theorem cell_same {W W' : World} {g q : Nat} (h : W'.heap[g]? = W.heap[g]?) : W'.cell? ⟨g, q, none⟩ = W.cell? ⟨g, q, none⟩ := by simp only [World.cell?, h]
def spec_l01Hash.st (K H : List Int) (t : List Int) : Nat → List Int
  | 0 => H
  | i + 1 => spec_l01Block.v (spec_l01Hash.st K H t i) ((t.drop (64 * i)).take 64) K
def spec_l01Hash.lb (n : Nat) : Nat → List Int
  | 0 => []
  | j + 1 => spec_l01Hash.lb n j ++ [8 * (n : Int) / 2 ^ (8 * (7 - j)) % 256]
theorem spec_l01Hash.lb_len (n : Nat) : ∀ j, (spec_l01Hash.lb n j).length = j
  | 0 => rfl
  | j + 1 => by unfold spec_l01Hash.lb; rw [List.length_append, spec_l01Hash.lb_len n j]; rfl
theorem spec_l01Hash.st_len (K H t : List Int) (h : H.length = 8) : ∀ i, (spec_l01Hash.st K H t i).length = 8
  | 0 => h
  | i + 1 => by unfold spec_l01Hash.st spec_l01Block.v; rw [impl_blockHash.adds_len]; exact spec_l01Hash.st_len K H t h i
def spec_l01Hash.h0 : List Int := [1779033703, 3144134277, 1013904242, 2773480762, 1359893119, 2600822924, 528734635, 1541459225]
theorem spec_l01Hash.h0_len : spec_l01Hash.h0.length = 8 := rfl
theorem C_four8 {W : World} {g : Nat} {a b c d : Int} (h : W.heap[g]? = some (.cells #[.int .u8 a, .int .u8 b, .int .u8 c, .int .u8 d] 5 (0, 0))) : Kd.C (Kd.int .u8) W (some ⟨g, 0, none⟩) 4 [a, b, c, d] := Kd.C_of_reads (d := (0 : Int)) ⟨rfl, by decide, fun _ => ⟨⟨g, 0, none⟩, rfl, fun j hj => by
  rw [off_zero]
  match j, hj with
  | 0, _ => exact (blk_cell h 0).trans rfl
  | 1, _ => exact (blk_cell h 1).trans rfl
  | 2, _ => exact (blk_cell h 2).trans rfl
  | 3, _ => exact (blk_cell h 3).trans rfl⟩⟩
def spec_l01Hash.ol (ST : List Int) : Nat → List Int
  | 0 => []
  | j + 1 => spec_l01Hash.ol ST j ++ [IntKind.u8.wrap (rd ST (j : Int) / 16777216), IntKind.u8.wrap (rd ST (j : Int) / 65536), IntKind.u8.wrap (rd ST (j : Int) / 256), IntKind.u8.wrap (rd ST (j : Int))]
theorem spec_l01Hash.ol_len (ST : List Int) : ∀ j, (spec_l01Hash.ol ST j).length = 4 * j
  | 0 => rfl
  | j + 1 => by unfold spec_l01Hash.ol; rw [List.length_append, spec_l01Hash.ol_len ST j]; simp only [List.length_cons, List.length_nil]; omega
def spec_l01Hash.pad (L : List Int) : List Int := ((([] ++ L) ++ [128]) ++ List.replicate ((119 - L.length % 64) % 64) 0) ++ spec_l01Hash.lb L.length 8
def spec_l01Hash.v (L : List Int) : ByteArray := strOfNums (spec_l01Hash.ol (spec_l01Hash.st (spec_l01Consts.f.getD []) spec_l01Hash.h0 (spec_l01Hash.pad L) ((spec_l01Hash.pad L).length / 64)) 8)
def spec_l01Hash.T18 : Bool × List (List Nat × List Nat) := (true, [([], []), ([], []), ([], []), ([1, 2], [1, 2]), ([3], [3]), ([4], [4]), ([5], [5]), ([], []), ([], []), ([7, 8], [7, 8]), ([9], [9]), ([10], [10]), ([11], [11]), ([], []), ([], []), ([13, 14], [13, 14]), ([15], [15]), ([16], [16]), ([17], [17]), ([], []), ([], []), ([19, 20], [19, 20]), ([21], [21]), ([22], [22]), ([6, 12, 18, 23], [6, 12, 18, 23]), ([0, 24], [0, 24]), ([25, 25, 0, 1, 2, 3, 4, 5, 6, 7, 8, 9, 10, 11, 12, 13, 14, 15, 16, 17, 18, 19, 20, 21, 22, 23, 24, 25], [0, 25])])
def spec_l01Hash.B18 : List Nat := [0, 0, 0, 6, 14, 30, 62, 0, 0, 384, 896, 1920, 3968, 0, 0, 24576, 57344, 122880, 253952, 0, 0, 1572864, 3670016, 7864320, 16777214, 33554431, 67108863]
theorem spec_l01Hash.tab18 : rtab .any (opsOf Tryd.f17 18) = spec_l01Hash.T18 := by kernel_rfl
theorem spec_l01Hash.bits18 : waitsOk spec_l01Hash.T18.2 spec_l01Hash.B18 = true := by kernel_rfl
set_option maxHeartbeats 8000000 in
set_option maxRecDepth 100000 in
theorem spec_l01Hash.run (A : Option Addr) (ca : Nat) (L : List Int) (w : World) (hL : Kd.C (Kd.int .u8) w A L.length L) (hc : L.length ≤ ca) (hn : L.length ≤ 1000000) :
    Calls Tryd.prog 17 #[.slice A L.length ca] w fun e w' => e = .returned (.string (spec_l01Hash.v L)) ∧ Below w.heap.size w w' := by
  have hu48 := Tryd.underlying48
  have hu22 := Tryd.underlying22
  have HL := Aside0.mk hL
  have HB := Aside0.mk (Below.refl w.heap.size w)
  have HN := Aside0.mk hn
  clear hL hc hn
  go_enter Tryd.func17, Tryd.ntmps17
  go_wp2_with (first
    | ((with_reducible refine gate_dst (N := 10) rfl ?_); refine lit_event1 ?hg (n := 8) (N := 10) ?hd (cs := ((spec_l01Hash.h0.map (Value.int .u32)).toArray)) (t := 36) ?hr ?_; (case hd => rfl); (case hg => rfl); (case hr => first | (go_simp; done) | (go_simp; rfl)); intro gh hgl wh hbox hb; have Ggh := Aside0.mk ((by rw [hgl]; exact below_size (show Below w.heap.size w _ from by repeat (first | exact HB.out | apply below_alloc | apply pw_below_drewN | apply below_drew1))) : w.heap.size ≤ gh); have n0_ := Aside0.mk (below_step (by repeat (first | exact HB.out | apply below_alloc | apply pw_below_drewN | apply below_drew1)) hb); clear HB; have HB := n0_; clear n0_; have Bgh := Aside0.mk hbox; clear hb hbox hgl)
    | ((with_reducible refine gate_dst (N := 11) rfl ?_); refine Kd.R_lit (Kd.int .u8) w.heap.size 5 ?hg (N := 11) ?hd (w0 := w) (xs := ([] : List Int)) (inner := []) (ok := fun _ => True) (okp := fun _ => True) ?hr ?hp (fun _ hk => hk) trivial HB.out HB.out.size (by simp) ?_; (case hd => rfl); (case hg => rfl); (case hr => first | (go_simp; done) | (go_simp; rfl)); (case hp => exact (Reps.none _ _)); intro vL wL hoL hbL hgL hnL; have n0_ := Aside0.mk (blk_grown Bgh.out hgL (by simp)); clear Bgh HB; have Bgh := n0_; have HB := Aside0.mk hbL; have HOA := Aside0.mk hoL; clear n0_ hoL hbL hgL hnL)
    | ((with_reducible refine gate_dst (N := 13) rfl ?_); refine Kd.R_append_rows (w0 := w) (Rr := (Kd.int .u8).K wL) (Kd.int .u8) w.heap.size ?hg (.tmp 11) (.tmp 12) 22 5 (.int .u8 0) 1 rfl Tryd.underlying22 info5 rfl (by decide) (by decide) vL [] L A L.length ca (fun _ => True) (fun _ => False) rfl rfl HOA.out (Kd.C_below HL.out HB.out) (fun x cs h => h) (fun _ h => h.elim) (fun _ _ => trivial) HB.out HB.out.size (by have := HN.out; simp only [List.length_nil]; omega) ?_; (case hg => rfl); intro vM wM hoM hbM hgM hnM; have n0_ := Aside0.mk (blk_grown Bgh.out hgM (Kd.R_ne HOA.out Bgh.out (by decide))); have n1_ := Aside0.mk (hbM); clear Bgh HB; have Bgh := n0_; have HB := n1_; clear n0_ n1_; clear HOA; have HOA := Aside0.mk hoM; clear hoM hbM hgM hnM)
    | ((with_reducible refine gate_dst (N := 14) rfl ?_); refine lit_event1 ?hg (n := 1) (N := 14) ?hd (cs := #[.int .u8 128]) (t := 5) ?hr ?_; (case hd => rfl); (case hg => rfl); (case hr => first | (go_simp; done) | (go_simp; rfl)); intro g1 hgl w1 hbox hb; have Gg1 := Aside0.mk ((by rw [hgl]; exact below_size (show Below w.heap.size w _ from by repeat (first | exact HB.out | apply below_alloc | apply pw_below_drewN | apply below_drew1))) : w.heap.size ≤ g1); have n0_ := Aside0.mk (blk_below Bgh.out hb); have n1_ := Aside0.mk (Kd.R_below HOA.out hb); have n2_ := Aside0.mk (below_step (by repeat (first | exact HB.out | apply below_alloc | apply pw_below_drewN | apply below_drew1)) hb); clear Bgh HOA HB; have Bgh := n0_; have HOA := n1_; have HB := n2_; clear n0_ n1_ n2_; have Bg1 := Aside0.mk hbox; clear hb hbox hgl)
    | ((with_reducible refine gate_dst (N := 15) rfl ?_); refine Kd.R_append_rows (w0 := w) (Rr := (Kd.int .u8).K w1) (Kd.int .u8) w.heap.size ?hg (.tmp 13) (.tmp 14) 22 5 (.int .u8 0) 1 rfl Tryd.underlying22 info5 rfl (by decide) (by decide) vM ([] ++ L) [128] (some ⟨g1, 0, none⟩) 1 1 (fun _ => True) (fun _ => False) rfl rfl HOA.out (C_one8 Bg1.out) (fun x cs h => h) (fun _ h => h.elim) (fun _ _ => trivial) HB.out HB.out.size (by have := HN.out; simp only [List.length_nil, List.nil_append]; omega) ?_; (case hg => rfl); intro vA wA hoM hbM hgM hnM; have n0_ := Aside0.mk (blk_grown Bgh.out hgM (Kd.R_ne HOA.out Bgh.out (by decide))); have n1_ := Aside0.mk (hbM); clear Bgh HB; have Bgh := n0_; have HB := n1_; clear n0_ n1_; clear HOA; have HOA := Aside0.mk hoM; clear hoM hbM hgM hnM))
  obtain ⟨X, hX⟩ : ∃ l : List Int, l = ([] ++ L) ++ [128] := ⟨_, rfl⟩
  rw [← hX] at HOA
  have lX : X.length = L.length + 1 := by rw [hX]; simp
  obtain ⟨c, hc⟩ : ∃ c : Nat, c = (119 - L.length % 64) % 64 := ⟨_, rfl⟩
  have HX := Aside0.mk hX
  have LX := Aside0.mk lX
  have HC := Aside0.mk hc
  clear hX lX hc
  go_loopg [4] c (fun kq v4 w' => ∃ m : Nat, Aside0 (m + kq = c) ∧ Aside0 (Kd.R (Kd.int .u8) 5 w' w.heap.size (fun _ => True) v4 (X ++ List.replicate m 0)) ∧ Aside0 (w'.heap[gh]? = some (.cells ((spec_l01Hash.h0.map (Value.int .u32)).toArray) 36 (0, 0))) ∧ Aside0 (Below w.heap.size w w'))
  case atStart => exact ⟨0, ⟨by omega⟩, ⟨by rw [List.replicate_zero, List.append_nil]; exact HOA.out⟩, Bgh, HB⟩
  case round =>
    clear HOA Bgh HB
    obtain ⟨m, HI, HOA, Bgh, HB⟩ := hrel
    obtain ⟨Y, hY⟩ : ∃ l : List Int, l = X ++ List.replicate m 0 := ⟨_, rfl⟩
    rw [← hY] at HOA
    have lY : Y.length = L.length + 1 + m := by rw [hY, List.length_append, List.length_replicate, LX.out]
    obtain ⟨Av, cv, ev⟩ := Kd.R_slice HOA.out
    subst ev
    obtain ⟨n, hn⟩ : ∃ n : Nat, n = Y.length := ⟨_, rfl⟩
    have HY := Aside0.mk hY
    have LY := Aside0.mk lY
    have HNN := Aside0.mk hn
    cases gk with
    | succ k1 =>
      have hne : (n : Int) % 64 ≠ 56 := by have := HI.out; have := HC.out; rw [hn, lY]; omega
      rw [← hn]
      rw [← hn] at HOA
      have LB := Aside0.mk (show Y.length ≤ 2000000 by have := HN.out; have := HI.out; have := HC.out; omega)
      clear hY lY hn
      have c1 : decide ((n : Int) % 64 = 56) = false := decide_eq_false hne
      have c2 : ((n : Int) % 64 != 56) = true := bne_iff_ne.mpr hne
      have c3 : ((n : Int) % 64 == 56) = false := beq_eq_false_iff_ne.mpr hne
      have c4 : ((n : Int) % 64 = 56) = False := eq_false hne
      go_wp2_with (first
        | ((with_reducible refine gate_dst (N := 21) rfl ?_); refine lit_event1 ?hg (n := 1) (N := 21) ?hd (cs := #[.int .u8 0]) (t := 5) ?hr ?_; (case hd => rfl); (case hg => rfl); (case hr => first | (go_simp; done) | (go_simp; rfl)); intro g2 hgl w2 hbox hb; have Gg2 := Aside0.mk ((by rw [hgl]; exact below_size (show Below w.heap.size w _ from by repeat (first | exact HB.out | apply below_alloc | apply pw_below_drewN | apply below_drew1))) : w.heap.size ≤ g2); have n0_ := Aside0.mk (blk_below Bgh.out hb); have n1_ := Aside0.mk (Kd.R_below HOA.out hb); have n2_ := Aside0.mk (below_step (by repeat (first | exact HB.out | apply below_alloc | apply pw_below_drewN | apply below_drew1)) hb); clear Bgh HOA HB; have Bgh := n0_; have HOA := n1_; have HB := n2_; clear n0_ n1_ n2_; have Bg2 := Aside0.mk hbox; clear hb hbox hgl)
        | ((with_reducible refine gate_dst (N := 22) rfl ?_); refine Kd.R_append_rows (w0 := w) (Rr := (Kd.int .u8).K w2) (Kd.int .u8) w.heap.size ?hg (.tmp 20) (.tmp 21) 22 5 (.int .u8 0) 1 rfl Tryd.underlying22 info5 rfl (by decide) (by decide) (.slice Av n cv) Y [0] (some ⟨g2, 0, none⟩) 1 1 (fun _ => True) (fun _ => False) rfl rfl HOA.out (C_one8 Bg2.out) (fun x cs h => h) (fun _ h => h.elim) (fun _ _ => trivial) HB.out HB.out.size (by have := LB.out; omega) ?_; (case hg => rfl); intro vB wB hoM hbM hgM hnM; have n0_ := Aside0.mk (blk_grown Bgh.out hgM (Kd.R_ne HOA.out Bgh.out (by decide))); have n1_ := Aside0.mk (hbM); clear Bgh HB; have Bgh := n0_; have HB := n1_; clear n0_ n1_; clear HOA; have HOA := Aside0.mk hoM; clear hoM hbM hgM hnM))
      go_roundg k1
      case measure => omega
      case rel =>
        refine ⟨m + 1, ⟨by have := HI.out; omega⟩, ⟨?_⟩, Bgh, HB⟩
        have e : X ++ List.replicate (m + 1) 0 = Y ++ [0] := by rw [HY.out, List.replicate_succ', List.append_assoc]
        rw [e]
        exact HOA.out
    | zero =>
      have hne : (n : Int) % 64 = 56 := by have := HI.out; have := HC.out; rw [hn, lY]; omega
      rw [← hn]
      rw [← hn] at HOA
      have LB := Aside0.mk (show Y.length ≤ 2000000 by have := HN.out; have := HI.out; have := HC.out; omega)
      clear hY lY hn
      have c1 : decide ((n : Int) % 64 = 56) = true := decide_eq_true hne
      have c2 : ((n : Int) % 64 != 56) = false := by rw [hne]; rfl
      have c3 : ((n : Int) % 64 == 56) = true := by rw [hne]; rfl
      have c4 : ((n : Int) % 64 = 56) = True := eq_true hne
      have hmc : m = c := HI.out
      subst hmc
      clear hne HI
      go_wp2
      go_loopg [4, 5] 8 (fun kq v4 v5 w' => ∃ j : Nat, v5 = .int .i64 (7 - (j : Int)) ∧ Aside0 (j + kq = 8) ∧ Aside0 (Kd.R (Kd.int .u8) 5 w' w.heap.size (fun _ => True) v4 (Y ++ spec_l01Hash.lb L.length j)) ∧ Aside0 (w'.heap[gh]? = some (.cells ((spec_l01Hash.h0.map (Value.int .u32)).toArray) 36 (0, 0))) ∧ Aside0 (Below w.heap.size w w'))
      case atStart => exact ⟨0, rfl, ⟨rfl⟩, ⟨by rw [show spec_l01Hash.lb L.length 0 = [] from rfl, List.append_nil]; exact HOA.out⟩, Bgh, HB⟩
      case round =>
        clear HOA Bgh HB c1 c2 c3 c4
        obtain ⟨j, rfl, HI, HOA, Bgh, HB⟩ := hrel
        cases gk with
        | succ k1 =>
          have hj : j < 8 := by have := HI.out; omega
          have y0 : (0 ≤ 7 - (j : Int)) = True := eq_true (by omega)
          obtain ⟨i, hi⟩ : ∃ i : Nat, (i : Int) = 7 - (j : Int) := ⟨7 - j, by omega⟩
          rw [← hi]
          have HIJ := Aside0.mk hi
          have HJ8 := Aside0.mk hj
          clear hi hj y0
          have i8 : (i : Int) < 8 := by have := HIJ.out; have := HJ8.out; omega
          obtain ⟨s8, hs8⟩ : ∃ x : Nat, x = 8 * i := ⟨_, rfl⟩
          have e8 : wrap64 (8 * (i : Int)) = (s8 : Int) := by rw [IntWalk.wrap64_in _ ⟨by omega, by omega⟩]; omega
          have e9 : IntKind.u64.wrap (s8 : Int) = (s8 : Int) := by show (s8 : Int) % 18446744073709551616 = _; omega
          have e10 : wrap64 (8 * (L.length : Int)) = 8 * (L.length : Int) := IntWalk.wrap64_in _ ⟨by omega, by have := HN.out; omega⟩
          have e11 : (0 ≤ (s8 : Int)) = True := eq_true (by omega)
          have e12 : (s8 ≤ 64) = True := eq_true (by omega)
          have HS8 := Aside0.mk hs8
          clear hs8 i8
          go_upto_region 8 with (fail)
          go_wp2_with (first
            | ((with_reducible refine gate_dst (N := 36) rfl ?_); refine lit_event1 ?hg (n := 1) (N := 36) ?hd (cs := #[.int .u8 (8 * (L.length : Int) / 2 ^ s8 % 256)]) (t := 5) ?hr ?_; (case hd => rfl); (case hg => rfl); (case hr => first | (go_simp; done) | (go_simp; rfl)); intro g3 hgl w3 hbox hb; have Gg3 := Aside0.mk ((by rw [hgl]; exact below_size (show Below w.heap.size w _ from by repeat (first | exact HB.out | apply below_alloc | apply pw_below_drewN | apply below_drew1))) : w.heap.size ≤ g3); have n0_ := Aside0.mk (blk_below Bgh.out hb); have n1_ := Aside0.mk (Kd.R_below HOA.out hb); have n2_ := Aside0.mk (below_step (by repeat (first | exact HB.out | apply below_alloc | apply pw_below_drewN | apply below_drew1)) hb); clear Bgh HOA HB; have Bgh := n0_; have HOA := n1_; have HB := n2_; clear n0_ n1_ n2_; have Bg3 := Aside0.mk hbox; clear hb hbox hgl)
            | ((with_reducible refine gate_dst (N := 37) rfl ?_); refine Kd.R_append_rows (w0 := w) (Rr := (Kd.int .u8).K w3) (Kd.int .u8) w.heap.size ?hg (.tmp 27) (.tmp 36) 22 5 (.int .u8 0) 1 rfl Tryd.underlying22 info5 rfl (by decide) (by decide) u4 (Y ++ spec_l01Hash.lb L.length j) [8 * (L.length : Int) / 2 ^ s8 % 256] (some ⟨g3, 0, none⟩) 1 1 (fun _ => True) (fun _ => False) rfl rfl HOA.out (C_one8 Bg3.out) (fun x cs h => h) (fun _ h => h.elim) (fun _ _ => trivial) HB.out HB.out.size (by rw [List.length_append, spec_l01Hash.lb_len]; have := LB.out; have := HJ8.out; omega) ?_; (case hg => rfl); intro vC wC hoM hbM hgM hnM; have n0_ := Aside0.mk (blk_grown Bgh.out hgM (Kd.R_ne HOA.out Bgh.out (by decide))); have n1_ := Aside0.mk (hbM); clear Bgh HB; have Bgh := n0_; have HB := n1_; clear n0_ n1_; clear HOA; have HOA := Aside0.mk hoM; clear hoM hbM hgM hnM))
          go_roundg k1
          case measure => omega
          case rel =>
            refine ⟨j + 1, ?_, ⟨by have := HI.out; omega⟩, ⟨?_⟩, Bgh, HB⟩
            · have e : wrap64 ((i : Int) - 1) = 7 - ((j + 1 : Nat) : Int) := by rw [IntWalk.wrap64_in _ ⟨by omega, by have := HIJ.out; omega⟩]; have := HIJ.out; omega
              first
                | exact congrArg (Value.int .i64) e
                | (congr 1; have := HIJ.out; omega)
            · have e : Y ++ spec_l01Hash.lb L.length (j + 1) = (Y ++ spec_l01Hash.lb L.length j) ++ [8 * (L.length : Int) / 2 ^ s8 % 256] := by
                rw [HS8.out, show i = 7 - j by have := HIJ.out; omega, List.append_assoc]
                rfl
              rw [e]
              exact HOA.out
        | zero =>
          have hj : j = 8 := HI.out
          subst hj
          clear HI
          obtain ⟨ALL, hALL⟩ : ∃ l : List Int, l = Y ++ spec_l01Hash.lb L.length 8 := ⟨_, rfl⟩
          rw [← hALL] at HOA
          have lALL : ALL.length = L.length + 1 + m + 8 := by rw [hALL, List.length_append, spec_l01Hash.lb_len, LY.out]
          obtain ⟨nb, hnb⟩ : ∃ q : Nat, ALL.length = 64 * q := ⟨ALL.length / 64, by rw [lALL]; have := HC.out; omega⟩
          have HALL := Aside0.mk hALL
          have LALL := Aside0.mk lALL
          have HNB := Aside0.mk hnb
          clear hALL lALL hnb
          obtain ⟨KK, hKK⟩ : ∃ l : List Int, spec_l01Consts.f = some l := ⟨_, rfl⟩
          have lK : KK.length = 64 := by have e := Option.some.inj hKK; rw [← e]; rfl
          have HKK := Aside0.mk hKK
          have LK := Aside0.mk lK
          clear hKK lK
          obtain ⟨ga, ca2, eA, hga1, hga2, _⟩ := Kd.R_form HOA.out (by have := LALL.out; omega)
          subst eA
          have CA : Aside0 (∀ q : Nat, q < ALL.length → wr.cell? ⟨ga, q, none⟩ = some (.int .u8 (rd ALL (q : Int)))) := ⟨fun q hq => by
            obtain ⟨ad, e, hc⟩ := Kd.at_int (Kd.R_reads' HOA.out).2.2 (q : Int) (by omega) (by omega)
            injection e with e
            subst e
            rw [Int.toNat_natCast, off_zero] at hc
            exact hc⟩
          have NGA := Aside0.mk (show ga ≠ gh from fun e => Kd.R_ne HOA.out Bgh.out (by decide) (by rw [e]; rfl))
          have LGA := Aside0.mk hga2
          have CAP := Aside0.mk (Kd.R_reads' HOA.out).2.1
          clear hga1 hga2
          go_wp2_with (first
            | ((with_reducible refine gate_dst (N := 38) rfl ?_); refine goesL_ (some 38) rfl rfl Tryd.func30 (by kernel_rfl) rfl #[] rfl (by (try simp only [List.map_toArray, List.map_cons, List.map_nil]); first | done | rfl) ?_; (with_reducible refine (spec_l01Consts.calls _ _ HKK.out).mono ?_); rintro e wk ⟨vk, rfl, hok, hb⟩; refine ⟨_, rfl, ?_⟩; obtain ⟨gq, ckk, eK, hgk1, hgk2, _⟩ := Kd.R_form hok (by have := LK.out; omega); subst eK; have NGK := Aside0.mk (show gq ≠ gh by have := blk_lt Bgh.out; omega); have CK : Aside0 (∀ q : Nat, q < 64 → wk.cell? ⟨gq, q, none⟩ = some (.int .u32 (rd KK (q : Int)))) := ⟨fun q hq => by (obtain ⟨ad, e, hc⟩ := Kd.at_int (Kd.R_reads' hok).2.2 (q : Int) (by omega) (by have := LK.out; omega)); injection e with e; subst e; rw [Int.toNat_natCast, off_zero] at hc; exact hc⟩; have LGK := Aside0.mk hgk2; have n0_ : Aside0 (∀ q : Nat, q < ALL.length → wk.cell? ⟨ga, q, none⟩ = some (.int .u8 (rd ALL (q : Int)))) := ⟨fun q hq => (hb.cell (World.block_lt_of_cell? _ _ (CA.out q hq))).trans (CA.out q hq)⟩; have n1_ := Aside0.mk (blk_below Bgh.out hb); have n2_ := Aside0.mk (below_step HB.out hb); have n3_ := Aside0.mk (Nat.lt_of_lt_of_le LGA.out hb.size); clear CA Bgh HB LGA HOA; have CA := n0_; have Bgh := n1_; have HB := n2_; have LGA := n3_; clear n0_ n1_ n2_ n3_ hok hb))
          have lK := LK.out
          rw [lK]
          clear lK
          go_wp2
          go_loopg [7] nb (fun kq v7 w' => ∃ i : Nat, v7 = .int .i64 ((64 * i : Nat) : Int) ∧ Aside0 (i + kq = nb) ∧ Aside0 (w'.heap[gh]? = some (.cells (((spec_l01Hash.st KK spec_l01Hash.h0 ALL i).map (Value.int .u32)).toArray) 36 (0, 0))) ∧ Aside0 (∀ q : Nat, q < ALL.length → w'.cell? ⟨ga, q, none⟩ = some (.int .u8 (rd ALL (q : Int)))) ∧ Aside0 (∀ q : Nat, q < 64 → w'.cell? ⟨gq, q, none⟩ = some (.int .u32 (rd KK (q : Int)))) ∧ Aside0 (ga < w'.heap.size) ∧ Aside0 (gq < w'.heap.size) ∧ Aside0 (Below w.heap.size w w'))
          case atStart => exact ⟨0, rfl, ⟨by omega⟩, Bgh, CA, CK, LGA, LGK, HB⟩
          case round =>
            clear Bgh CA CK LGA LGK HB
            obtain ⟨i, rfl, HI, Bgh, CA, CK, LGA, LGK, HB⟩ := hrel
            cases gk with
            | succ k1 =>
              have hi := HI.out
              have hlt : 64 * i < ALL.length := by rw [HNB.out]; omega
              have hsm : ALL.length ≤ 3000000 := by rw [LALL.out]; have := HN.out; have := HC.out; omega
              obtain ⟨a0, ha0⟩ : ∃ q : Nat, q = 64 * i := ⟨_, rfl⟩
              rw [← ha0]
              rw [← ha0] at hlt
              have hle : a0 + 64 ≤ ALL.length := by rw [HNB.out, ha0]; omega
              have x1 : ((a0 : Int) < (ALL.length : Int)) = True := eq_true (by omega)
              have x2 : (a0 < ALL.length) = True := eq_true hlt
              have c1 : decide ((a0 : Int) < (ALL.length : Int)) = true := decide_eq_true (by omega)
              have inc : wrap64 ((a0 : Int) + 64) = (a0 : Int) + 64 := IntWalk.wrap64_in _ ⟨by omega, by omega⟩
              have L8 := Aside0.mk (spec_l01Hash.st_len KK spec_l01Hash.h0 ALL spec_l01Hash.h0_len i)
              have hcap := CAP.out
              have y1 : (a0 + 64 ≤ ca2) = True := eq_true (by omega)
              have y2 : ((a0 : Int) + 64 ≤ (ca2 : Int)) = True := eq_true (by omega)
              have y3 : (ca2 = a0) = False := eq_false (by omega)
              have HBC : Aside0 (∀ q : Nat, q < 64 → wr.cell? ((⟨ga, a0, none⟩ : Addr).add q) = some (.int .u8 (rd ((ALL.drop a0).take 64) (q : Int)))) := ⟨fun q hq => by rw [off_add, rd_sub hq]; exact CA.out (a0 + q) (by omega)⟩
              have HKC : Aside0 (∀ q : Nat, q < 64 → wr.cell? ((⟨gq, 0, none⟩ : Addr).add q) = some (.int .u32 (rd KK (q : Int)))) := ⟨fun q hq => by rw [off_zero]; exact CK.out q hq⟩
              have HA0 := Aside0.mk ha0
              have HLE := Aside0.mk hle
              clear hi hlt hsm ha0 hle hcap
              go_upto_region 13 with (fail)
              go_wp2_with (first
                | (go_at_call 31; refine (spec_l01Block.run gh (ca2 - a0) ckk ⟨ga, a0, none⟩ ⟨gq, 0, none⟩ (spec_l01Hash.st KK spec_l01Hash.h0 ALL i) ((ALL.drop a0).take 64) KK w wr Bgh.out L8.out HBC.out HKC.out HB.out Ggh.out).mono ?_; rintro e wl ⟨rfl, hH', hB', hFR, hSZ⟩; have n0_ := Aside0.mk hH'; have n1_ := Aside0.mk hB'; have n2_ : Aside0 (∀ q : Nat, q < ALL.length → wl.cell? ⟨ga, q, none⟩ = some (.int .u8 (rd ALL (q : Int)))) := ⟨fun q hq => (cell_same (hFR ga LGA.out NGA.out)).trans (CA.out q hq)⟩; have n3_ : Aside0 (∀ q : Nat, q < 64 → wl.cell? ⟨gq, q, none⟩ = some (.int .u32 (rd KK (q : Int)))) := ⟨fun q hq => (cell_same (hFR gq LGK.out NGK.out)).trans (CK.out q hq)⟩; have n4_ := Aside0.mk (Nat.lt_of_lt_of_le LGA.out hSZ); have n5_ := Aside0.mk (Nat.lt_of_lt_of_le LGK.out hSZ); clear HBC HKC; clear Bgh HB CA CK LGA LGK; have Bgh := n0_; have HB := n1_; have CA := n2_; have CK := n3_; have LGA := n4_; have LGK := n5_; clear n0_ n1_ n2_ n3_ n4_ n5_ hH' hB' hFR hSZ))
              go_roundg k1
              case measure => omega
              case rel =>
                refine ⟨i + 1, ?_, ⟨by have := HI.out; omega⟩, ⟨?_⟩, CA, CK, LGA, LGK, HB⟩
                · first
                    | (congr 1; have := HA0.out; omega)
                    | (rw [inc]; congr 1; have := HA0.out; omega)
                · have e : spec_l01Hash.st KK spec_l01Hash.h0 ALL (i + 1) = spec_l01Block.v (spec_l01Hash.st KK spec_l01Hash.h0 ALL i) ((ALL.drop a0).take 64) KK := by rw [HA0.out]; rfl
                  rw [e]
                  exact Bgh.out
            | zero =>
              have hi : i = nb := HI.out
              subst hi
              clear HI
              obtain ⟨ST, hST⟩ : ∃ l : List Int, l = spec_l01Hash.st KK spec_l01Hash.h0 ALL i := ⟨_, rfl⟩
              rw [← hST] at Bgh
              have L8 := Aside0.mk (show ST.length = 8 by rw [hST]; exact spec_l01Hash.st_len KK spec_l01Hash.h0 ALL spec_l01Hash.h0_len i)
              have HST := Aside0.mk hST
              have hx : (64 * i : Nat) = ALL.length := HNB.out.symm
              rw [hx]
              clear hST hx CA CK LGA LGK
              go_wp2_with (first
                | ((with_reducible refine gate_dst (N := 53) rfl ?_); refine Kd.R_lit (Kd.int .u8) w.heap.size 5 ?hg (N := 53) ?hd (w0 := w) (xs := ([] : List Int)) (inner := []) (ok := fun _ => True) (okp := fun _ => True) ?hr ?hp (fun _ hk => hk) trivial HB.out HB.out.size (by simp) ?_; (case hd => rfl); (case hg => rfl); (case hr => first | (go_simp; done) | (go_simp; rfl)); (case hp => exact (Reps.none _ _)); intro vO wO hoL hbL hgL hnL; have n0_ := Aside0.mk (blk_grown Bgh.out hgL (by simp)); clear Bgh HB; have Bgh := n0_; have HB := Aside0.mk hbL; have HOO := Aside0.mk hoL; clear n0_ hoL hbL hgL hnL))
              go_loopg [8, 9] 8 (fun kq v8 v9 w' => ∃ j : Nat, v9 = .int .i64 (j : Int) ∧ Aside0 (j + kq = 8) ∧ Aside0 (Kd.R (Kd.int .u8) 5 w' w.heap.size (fun _ => True) v8 (spec_l01Hash.ol ST j)) ∧ Aside0 (w'.heap[gh]? = some (.cells ((ST.map (Value.int .u32)).toArray) 36 (0, 0))) ∧ Aside0 (Below w.heap.size w w'))
              case atStart => exact ⟨0, rfl, ⟨rfl⟩, HOO, Bgh, HB⟩
              case round =>
                clear HOO Bgh HB
                obtain ⟨j, rfl, HI, HOO, Bgh, HB⟩ := hrel
                cases gk with
                | succ k1 =>
                  have hi := HI.out
                  have hi8 : (j : Int) < 8 := by omega
                  have c8 : decide ((j : Int) < 8) = true := decide_eq_true hi8
                  have x8 : ((j : Int) < 8) = True := eq_true hi8
                  have z0 : (0 ≤ (j : Int)) = True := eq_true (by omega)
                  have INC := Aside0.mk (show wrap64 ((j : Int) + 1) = ((j + 1 : Nat) : Int) by rw [IntWalk.wrap64_in _ ⟨by omega, by omega⟩]; rfl)
                  have H8 := Aside0.mk hi8
                  clear hi hi8
                  go_upto_region 18 with (fail)
                  try go_wp2
                  have n0_ := Aside0.mk (blk_drew Bgh.out)
                  have n1_ := Aside0.mk (Kd.R_drew HOO.out)
                  have n2_ := Aside0.mk (below_drew1 HB.out)
                  clear Bgh HOO HB
                  have Bgh := n0_
                  have HOO := n1_
                  have HB := n2_
                  clear n0_ n1_ n2_
                  refine start_ (n := 27) (S := fun w' => w'.cell? ⟨gh, j, none⟩ = some (.int .u32 (rd ST (j : Int)))) (ds := []) #[false, false, false, false, false, false, false, false, false, false, false, false, false, false, false, false, false, false, false, false, false, false, false, false, false, false, false] (by kernel_rfl) rfl rfl ((blk_cell Bgh.out j).trans (arr_get (by have := L8.out; have := H8.out; omega))) (fun hHeld => ?_); refine with_tabW spec_l01Hash.tab18 spec_l01Hash.bits18 (fun HT_ HW_ => ?_)
                  generalize wr.drew = wd_ at Bgh HOO HB hHeld ⊢
                  refine pure_ (i := 0) (N := some 58) (v := ?_) (a' := ?_) #[true, false, false, false, false, false, false, false, false, false, false, false, false, false, false, false, false, false, false, false, false, false, false, false, false, false, false] rfl rfl (any_of HT_.out (by kernel_rfl)) (fun _ _ _ h => h) (Or.inl ⟨by rfl, ?_⟩) ?_ ?_
                  rotate_left
                  · intro w'
                    go_simp
                    with_reducible rfl
                  rotate_left
                  · simp only [Act.put, List.setIfInBounds_toArray, List.set_cons_zero, List.set_cons_succ, i64_w, i32_w]
                    rfl
                  refine pure_ (i := 1) (N := some 59) (v := ?_) (a' := ?_) #[true, true, false, false, false, false, false, false, false, false, false, false, false, false, false, false, false, false, false, false, false, false, false, false, false, false, false] rfl rfl (any_of HT_.out (by kernel_rfl)) (fun _ _ _ h => h) (Or.inl ⟨by rfl, ?_⟩) ?_ ?_
                  rotate_left
                  · intro w'
                    go_simp
                    with_reducible rfl
                  rotate_left
                  · simp only [Act.put, List.setIfInBounds_toArray, List.set_cons_zero, List.set_cons_succ, i64_w, i32_w]
                    rfl
                  refine pure_ (i := 2) (N := some 60) (v := ?_) (a' := ?_) #[true, true, true, false, false, false, false, false, false, false, false, false, false, false, false, false, false, false, false, false, false, false, false, false, false, false, false] rfl rfl (any_of HT_.out (by kernel_rfl)) (fun _ _ _ h => h) (Or.inl ⟨by rfl, ?_⟩) ?_ ?_
                  rotate_left
                  · intro w'
                    go_simp
                    with_reducible rfl
                  rotate_left
                  · simp only [Act.put, List.setIfInBounds_toArray, List.set_cons_zero, List.set_cons_succ, i64_w, i32_w]
                    rfl
                  refine pure_ (i := 3) (N := some 61) (v := ?_) (a' := ?_) #[true, true, true, true, false, false, false, false, false, false, false, false, false, false, false, false, false, false, false, false, false, false, false, false, false, false, false] rfl rfl (any_of HT_.out (by kernel_rfl)) (fun _ _ _ h => h) (Or.inl ⟨by rfl, ?_⟩) ?_ ?_
                  rotate_left
                  · intro w'
                    go_simp
                    with_reducible rfl
                  rotate_left
                  · simp only [Act.put, List.setIfInBounds_toArray, List.set_cons_zero, List.set_cons_succ, i64_w, i32_w]
                    rfl
                  refine take_ (i := 4) (N := some 62) (v := ?_) (a' := ?_) #[true, true, true, true, true, false, false, false, false, false, false, false, false, false, false, false, false, false, false, false, false, false, false, false, false, false, false] rfl rfl (take_ofW HT_.out HW_.out (by kernel_rfl)) (fun _ _ _ h => h) (Or.inl ⟨by rfl, ?_⟩) hHeld ?_ ?_
                  rotate_left
                  · intro w' s0
                    go_simp
                    with_reducible rfl
                  rotate_left
                  · simp only [Act.put, List.setIfInBounds_toArray, List.set_cons_zero, List.set_cons_succ, i64_w, i32_w]
                    rfl
                  refine pure_ (i := 5) (N := some 63) (v := ?_) (a' := ?_) #[true, true, true, true, true, true, false, false, false, false, false, false, false, false, false, false, false, false, false, false, false, false, false, false, false, false, false] rfl rfl (any_of HT_.out (by kernel_rfl)) (fun _ _ _ h => h) (Or.inl ⟨by rfl, ?_⟩) ?_ ?_
                  rotate_left
                  · intro w'
                    go_simp
                    with_reducible rfl
                  rotate_left
                  · simp only [Act.put, List.setIfInBounds_toArray, List.set_cons_zero, List.set_cons_succ, i64_w, i32_w]
                    rfl
                  refine pure_ (i := 6) (N := some 64) (v := ?_) (a' := ?_) #[true, true, true, true, true, true, true, false, false, false, false, false, false, false, false, false, false, false, false, false, false, false, false, false, false, false, false] rfl rfl (any_of HT_.out (by kernel_rfl)) (fun _ _ _ h => h) (Or.inl ⟨by rfl, ?_⟩) ?_ ?_
                  rotate_left
                  · intro w'
                    go_simp
                    with_reducible rfl
                  rotate_left
                  · simp only [Act.put, List.setIfInBounds_toArray, List.set_cons_zero, List.set_cons_succ, i64_w, i32_w]
                    rfl
                  refine pure_ (i := 7) (N := some 65) (v := ?_) (a' := ?_) #[true, true, true, true, true, true, true, true, false, false, false, false, false, false, false, false, false, false, false, false, false, false, false, false, false, false, false] rfl rfl (any_of HT_.out (by kernel_rfl)) (fun _ _ _ h => h) (Or.inl ⟨by rfl, ?_⟩) ?_ ?_
                  rotate_left
                  · intro w'
                    go_simp
                    with_reducible rfl
                  rotate_left
                  · simp only [Act.put, List.setIfInBounds_toArray, List.set_cons_zero, List.set_cons_succ, i64_w, i32_w]
                    rfl
                  refine pure_ (i := 8) (N := some 66) (v := ?_) (a' := ?_) #[true, true, true, true, true, true, true, true, true, false, false, false, false, false, false, false, false, false, false, false, false, false, false, false, false, false, false] rfl rfl (any_of HT_.out (by kernel_rfl)) (fun _ _ _ h => h) (Or.inl ⟨by rfl, ?_⟩) ?_ ?_
                  rotate_left
                  · intro w'
                    go_simp
                    with_reducible rfl
                  rotate_left
                  · simp only [Act.put, List.setIfInBounds_toArray, List.set_cons_zero, List.set_cons_succ, i64_w, i32_w]
                    rfl
                  refine pure_ (i := 9) (N := some 67) (v := ?_) (a' := ?_) #[true, true, true, true, true, true, true, true, true, true, false, false, false, false, false, false, false, false, false, false, false, false, false, false, false, false, false] rfl rfl (any_of HT_.out (by kernel_rfl)) (fun _ _ _ h => h) (Or.inl ⟨by rfl, ?_⟩) ?_ ?_
                  rotate_left
                  · intro w'
                    go_simp
                    with_reducible rfl
                  rotate_left
                  · simp only [Act.put, List.setIfInBounds_toArray, List.set_cons_zero, List.set_cons_succ, i64_w, i32_w]
                    rfl
                  refine take_ (i := 10) (N := some 68) (v := ?_) (a' := ?_) #[true, true, true, true, true, true, true, true, true, true, true, false, false, false, false, false, false, false, false, false, false, false, false, false, false, false, false] rfl rfl (take_ofW HT_.out HW_.out (by kernel_rfl)) (fun _ _ _ h => h) (Or.inl ⟨by rfl, ?_⟩) hHeld ?_ ?_
                  rotate_left
                  · intro w' s0
                    go_simp
                    with_reducible rfl
                  rotate_left
                  · simp only [Act.put, List.setIfInBounds_toArray, List.set_cons_zero, List.set_cons_succ, i64_w, i32_w]
                    rfl
                  refine pure_ (i := 11) (N := some 69) (v := ?_) (a' := ?_) #[true, true, true, true, true, true, true, true, true, true, true, true, false, false, false, false, false, false, false, false, false, false, false, false, false, false, false] rfl rfl (any_of HT_.out (by kernel_rfl)) (fun _ _ _ h => h) (Or.inl ⟨by rfl, ?_⟩) ?_ ?_
                  rotate_left
                  · intro w'
                    go_simp
                    with_reducible rfl
                  rotate_left
                  · simp only [Act.put, List.setIfInBounds_toArray, List.set_cons_zero, List.set_cons_succ, i64_w, i32_w]
                    rfl
                  refine pure_ (i := 12) (N := some 70) (v := ?_) (a' := ?_) #[true, true, true, true, true, true, true, true, true, true, true, true, true, false, false, false, false, false, false, false, false, false, false, false, false, false, false] rfl rfl (any_of HT_.out (by kernel_rfl)) (fun _ _ _ h => h) (Or.inl ⟨by rfl, ?_⟩) ?_ ?_
                  rotate_left
                  · intro w'
                    go_simp
                    with_reducible rfl
                  rotate_left
                  · simp only [Act.put, List.setIfInBounds_toArray, List.set_cons_zero, List.set_cons_succ, i64_w, i32_w]
                    rfl
                  refine pure_ (i := 13) (N := some 71) (v := ?_) (a' := ?_) #[true, true, true, true, true, true, true, true, true, true, true, true, true, true, false, false, false, false, false, false, false, false, false, false, false, false, false] rfl rfl (any_of HT_.out (by kernel_rfl)) (fun _ _ _ h => h) (Or.inl ⟨by rfl, ?_⟩) ?_ ?_
                  rotate_left
                  · intro w'
                    go_simp
                    with_reducible rfl
                  rotate_left
                  · simp only [Act.put, List.setIfInBounds_toArray, List.set_cons_zero, List.set_cons_succ, i64_w, i32_w]
                    rfl
                  refine pure_ (i := 14) (N := some 72) (v := ?_) (a' := ?_) #[true, true, true, true, true, true, true, true, true, true, true, true, true, true, true, false, false, false, false, false, false, false, false, false, false, false, false] rfl rfl (any_of HT_.out (by kernel_rfl)) (fun _ _ _ h => h) (Or.inl ⟨by rfl, ?_⟩) ?_ ?_
                  rotate_left
                  · intro w'
                    go_simp
                    with_reducible rfl
                  rotate_left
                  · simp only [Act.put, List.setIfInBounds_toArray, List.set_cons_zero, List.set_cons_succ, i64_w, i32_w]
                    rfl
                  refine pure_ (i := 15) (N := some 73) (v := ?_) (a' := ?_) #[true, true, true, true, true, true, true, true, true, true, true, true, true, true, true, true, false, false, false, false, false, false, false, false, false, false, false] rfl rfl (any_of HT_.out (by kernel_rfl)) (fun _ _ _ h => h) (Or.inl ⟨by rfl, ?_⟩) ?_ ?_
                  rotate_left
                  · intro w'
                    go_simp
                    with_reducible rfl
                  rotate_left
                  · simp only [Act.put, List.setIfInBounds_toArray, List.set_cons_zero, List.set_cons_succ, i64_w, i32_w]
                    rfl
                  refine take_ (i := 16) (N := some 74) (v := ?_) (a' := ?_) #[true, true, true, true, true, true, true, true, true, true, true, true, true, true, true, true, true, false, false, false, false, false, false, false, false, false, false] rfl rfl (take_ofW HT_.out HW_.out (by kernel_rfl)) (fun _ _ _ h => h) (Or.inl ⟨by rfl, ?_⟩) hHeld ?_ ?_
                  rotate_left
                  · intro w' s0
                    go_simp
                    with_reducible rfl
                  rotate_left
                  · simp only [Act.put, List.setIfInBounds_toArray, List.set_cons_zero, List.set_cons_succ, i64_w, i32_w]
                    rfl
                  refine pure_ (i := 17) (N := some 75) (v := ?_) (a' := ?_) #[true, true, true, true, true, true, true, true, true, true, true, true, true, true, true, true, true, true, false, false, false, false, false, false, false, false, false] rfl rfl (any_of HT_.out (by kernel_rfl)) (fun _ _ _ h => h) (Or.inl ⟨by rfl, ?_⟩) ?_ ?_
                  rotate_left
                  · intro w'
                    go_simp
                    with_reducible rfl
                  rotate_left
                  · simp only [Act.put, List.setIfInBounds_toArray, List.set_cons_zero, List.set_cons_succ, i64_w, i32_w]
                    rfl
                  refine pure_ (i := 18) (N := some 76) (v := ?_) (a' := ?_) #[true, true, true, true, true, true, true, true, true, true, true, true, true, true, true, true, true, true, true, false, false, false, false, false, false, false, false] rfl rfl (any_of HT_.out (by kernel_rfl)) (fun _ _ _ h => h) (Or.inl ⟨by rfl, ?_⟩) ?_ ?_
                  rotate_left
                  · intro w'
                    go_simp
                    with_reducible rfl
                  rotate_left
                  · simp only [Act.put, List.setIfInBounds_toArray, List.set_cons_zero, List.set_cons_succ, i64_w, i32_w]
                    rfl
                  refine pure_ (i := 19) (N := some 77) (v := ?_) (a' := ?_) #[true, true, true, true, true, true, true, true, true, true, true, true, true, true, true, true, true, true, true, true, false, false, false, false, false, false, false] rfl rfl (any_of HT_.out (by kernel_rfl)) (fun _ _ _ h => h) (Or.inl ⟨by rfl, ?_⟩) ?_ ?_
                  rotate_left
                  · intro w'
                    go_simp
                    with_reducible rfl
                  rotate_left
                  · simp only [Act.put, List.setIfInBounds_toArray, List.set_cons_zero, List.set_cons_succ, i64_w, i32_w]
                    rfl
                  refine pure_ (i := 20) (N := some 78) (v := ?_) (a' := ?_) #[true, true, true, true, true, true, true, true, true, true, true, true, true, true, true, true, true, true, true, true, true, false, false, false, false, false, false] rfl rfl (any_of HT_.out (by kernel_rfl)) (fun _ _ _ h => h) (Or.inl ⟨by rfl, ?_⟩) ?_ ?_
                  rotate_left
                  · intro w'
                    go_simp
                    with_reducible rfl
                  rotate_left
                  · simp only [Act.put, List.setIfInBounds_toArray, List.set_cons_zero, List.set_cons_succ, i64_w, i32_w]
                    rfl
                  refine pure_ (i := 21) (N := some 79) (v := ?_) (a' := ?_) #[true, true, true, true, true, true, true, true, true, true, true, true, true, true, true, true, true, true, true, true, true, true, false, false, false, false, false] rfl rfl (any_of HT_.out (by kernel_rfl)) (fun _ _ _ h => h) (Or.inl ⟨by rfl, ?_⟩) ?_ ?_
                  rotate_left
                  · intro w'
                    go_simp
                    with_reducible rfl
                  rotate_left
                  · simp only [Act.put, List.setIfInBounds_toArray, List.set_cons_zero, List.set_cons_succ, i64_w, i32_w]
                    rfl
                  refine take_ (i := 22) (N := some 80) (v := ?_) (a' := ?_) #[true, true, true, true, true, true, true, true, true, true, true, true, true, true, true, true, true, true, true, true, true, true, true, false, false, false, false] rfl rfl (take_ofW HT_.out HW_.out (by kernel_rfl)) (fun _ _ _ h => h) (Or.inl ⟨by rfl, ?_⟩) hHeld ?_ ?_
                  rotate_left
                  · intro w' s0
                    go_simp
                    with_reducible rfl
                  rotate_left
                  · simp only [Act.put, List.setIfInBounds_toArray, List.set_cons_zero, List.set_cons_succ, i64_w, i32_w]
                    rfl
                  refine pure_ (i := 23) (N := some 81) (v := ?_) (a' := ?_) #[true, true, true, true, true, true, true, true, true, true, true, true, true, true, true, true, true, true, true, true, true, true, true, true, false, false, false] rfl rfl (any_of HT_.out (by kernel_rfl)) (fun _ _ _ h => h) (Or.inl ⟨by rfl, ?_⟩) ?_ ?_
                  rotate_left
                  · intro w'
                    go_simp
                    with_reducible rfl
                  rotate_left
                  · simp only [Act.put, List.setIfInBounds_toArray, List.set_cons_zero, List.set_cons_succ, i64_w, i32_w]
                    rfl
                  refine one_ (i := 24) (N := some 82) #[true, true, true, true, true, true, true, true, true, true, true, true, true, true, true, true, true, true, true, true, true, true, true, true, true, false, false] rfl rfl (one_of HT_.out (by kernel_rfl)) (by decide) (fun K hK => ?_)
                  refine lit_step ?hg (n := 4) (N := 82) ?hd (cs := #[.int .u8 (IntKind.u8.wrap (rd ST (j : Int) / 16777216)), .int .u8 (IntKind.u8.wrap (rd ST (j : Int) / 65536)), .int .u8 (IntKind.u8.wrap (rd ST (j : Int) / 256)), .int .u8 (IntKind.u8.wrap (rd ST (j : Int)))]) (t := 5) ?hr ?_
                  (case hd => rfl)
                  (case hg => rfl)
                  (case hr => first | (go_simp; done) | (go_simp; rfl))
                  intro g4 hgl w4 hbox hb
                  have n0_ := Aside0.mk (blk_below Bgh.out hb)
                  have n1_ := Aside0.mk (Kd.R_below HOO.out hb)
                  have n2_ := Aside0.mk (below_step (by repeat (first | exact HB.out | apply below_alloc | apply pw_below_drewN | apply below_drew1)) hb)
                  clear Bgh HOO HB
                  have Bgh := n0_
                  have HOO := n1_
                  have HB := n2_
                  clear n0_ n1_ n2_
                  have Bg4 := Aside0.mk hbox
                  clear hb hbox hgl
                  refine hK.out _ _ ((blk_cell Bgh.out j).trans (arr_get (by have := L8.out; have := H8.out; omega))) (fun hHeld => ?_)
                  clear hK K
                  refine norm_ (a' := ?_) ?_ ?_
                  rotate_left
                  · show Act.put _ (some 82) _ = _
                    simp only [Act.put, List.setIfInBounds_toArray, List.set_cons_zero, List.set_cons_succ, i64_w, i32_w]
                    rfl
                  refine one_ (i := 25) (N := some 83) #[true, true, true, true, true, true, true, true, true, true, true, true, true, true, true, true, true, true, true, true, true, true, true, true, true, true, false] rfl rfl (one_of HT_.out (by kernel_rfl)) (by decide) (fun K hK => ?_)
                  refine Kd.R_append_rows_step (Kd.int .u8) (w0 := w) (Rr := (Kd.int .u8).K w4) w.heap.size (by rfl) (.tmp 58) (.tmp 82) 22 5 (.int .u8 0) 1 rfl Tryd.underlying22 info5 rfl (by decide) (by decide) u8 (spec_l01Hash.ol ST j) [IntKind.u8.wrap (rd ST (j : Int) / 16777216), IntKind.u8.wrap (rd ST (j : Int) / 65536), IntKind.u8.wrap (rd ST (j : Int) / 256), IntKind.u8.wrap (rd ST (j : Int))] (some ⟨g4, 0, none⟩) 4 4 (fun _ => True) (fun _ => False) rfl rfl HOO.out (C_four8 Bg4.out) (fun x cs h => h) (fun _ h => h.elim) (fun _ _ => trivial) HB.out HB.out.size (by rw [spec_l01Hash.ol_len]; have := H8.out; omega) ?_
                  intro vD wD hoM hbM hgM hnM
                  have n0_ := Aside0.mk (blk_grown Bgh.out hgM (Kd.R_ne HOO.out Bgh.out (by decide)))
                  have n1_ := Aside0.mk (hbM)
                  clear Bgh HB
                  have Bgh := n0_
                  have HB := n1_
                  clear n0_ n1_
                  clear HOO
                  have HOO := Aside0.mk hoM
                  clear hoM hbM hgM hnM
                  refine hK.out _ _ ((blk_cell Bgh.out j).trans (arr_get (by have := L8.out; have := H8.out; omega))) (fun hHeld => ?_)
                  clear hK K
                  refine norm_ (a' := ?_) ?_ ?_
                  rotate_left
                  · show Act.put _ (some 83) _ = _
                    simp only [Act.put, List.setIfInBounds_toArray, List.set_cons_zero, List.set_cons_succ, i64_w, i32_w]
                    rfl
                  refine pure_ (i := 26) (N := some 8) (v := ?_) (a' := ?_) #[true, true, true, true, true, true, true, true, true, true, true, true, true, true, true, true, true, true, true, true, true, true, true, true, true, true, true] rfl rfl (any_of HT_.out (by kernel_rfl)) (fun _ _ _ h => h) (Or.inl ⟨by rfl, ?_⟩) ?_ ?_
                  rotate_left
                  · intro w'
                    go_simp
                    with_reducible rfl
                  rotate_left
                  · simp only [Act.put, List.setIfInBounds_toArray, List.set_cons_zero, List.set_cons_succ, i64_w, i32_w]
                    rfl
                  refine done_ (done_of HT_.out (by kernel_rfl)) ?_
                  go_wp2
                  go_roundg k1
                  case measure => omega
                  case rel => exact ⟨j + 1, by first | rfl | rw [INC.out], ⟨by have := HI.out; omega⟩, HOO, Bgh, HB⟩
                | zero =>
                  have hj : j = 8 := HI.out
                  subst hj
                  have hcv := own_string (P := Tryd.prog) Tryd.underlying22 Tryd.underlying5 Tryd.underlying9 (Kd.own_of_R HOO.out)
                  go_wp2
                  go_ret
                  refine ⟨?_, HB.out⟩
                  have e : spec_l01Hash.v L = strOfNums (spec_l01Hash.ol ST 8) := by
                    have eK := HKK.out
                    have eA := HALL.out
                    have eY := HY.out
                    have eX := HX.out
                    have eC := HC.out
                    have eN := HNB.out
                    have eP : spec_l01Hash.pad L = ALL := by rw [eA, eY, eX]; unfold spec_l01Hash.pad; rw [← eC]
                    unfold spec_l01Hash.v
                    rw [eP, eN, Nat.mul_div_cancel_left _ (by decide : 0 < 64), eK, HST.out]
                    rfl
                  rw [e]
                  rfl
def spec_l01Hash.f (l0 : List Int) : Option ByteArray := if l0.length ≤ 1000000 then some (spec_l01Hash.v l0) else none
theorem spec_l01Hash.calls (A0 : Option Addr) (c0 : Nat) (l0 : List Int) (r : ByteArray) (w : World) (hr0 : Kd.C (Kd.int .u8) w A0 l0.length l0) (hc0 : l0.length ≤ c0) (h : spec_l01Hash.f l0 = some r) :
    Calls Tryd.prog 17 #[.slice A0 l0.length c0] w fun e w' => e = .returned (.string r) ∧ Below w.heap.size w w' := by
  unfold spec_l01Hash.f at h
  split at h
  · rename_i hc
    cases h
    exact spec_l01Hash.run A0 c0 l0 w hr0 hc0 hc
  · cases h

end Go.Proofs.YtggemblkhckbpaaDoor.Q

namespace Go.Proofs.YtggemblkhckbpaaDoor.Q
open Go.RowKit Go.Proofs.YtggemblkhckbpaaDoorW.PrintWords Go.Proofs.YtggemblkhckbpaaDoorW.PrintLast Go.Proofs.YtggemblkhckbpaaDoorW.PrintMore
attribute [local go_sem] max2_int min2_int max_two min_two max_three min_three max_four min_four   -- for this text's walks alone
set_option linter.unusedVariables false
set_option linter.unusedSimpArgs false

/-! ### spec_Hash: function 8 -/
def spec_Hash.f (l0 : List Int) : Option (ByteArray) := if (l0.length : Int) > 65536 then (some (⟨#[]⟩ : ByteArray)) else ((spec_l01Hash.f l0).bind fun t163 => (some t163))
set_option maxHeartbeats 8000000 in
set_option maxRecDepth 100000 in
theorem spec_Hash.calls (A0 : Option Addr) (c0 : Nat) (l0 : List Int) (r : ByteArray) (w : World) (hr0 : Kd.C (Kd.int .u8) w A0 l0.length l0) (hc0 : l0.length ≤ c0) (h : spec_Hash.f l0 = some r) :
    Calls Tryd.prog 8 #[.slice A0 l0.length c0] w fun e w' => e = .returned (.string r) ∧ Below w.heap.size w w' := by
  have HR0 := Aside0.mk hr0
  have HC0 := Aside0.mk hc0
  clear hr0 hc0
  have HB := Aside0.mk (Below.refl w.heap.size w)
  have H : (if (l0.length : Int) > 65536 then (some (⟨#[]⟩ : ByteArray)) else ((spec_l01Hash.f l0).bind fun t163 => (some t163))) = some r := h
  clear h
  by_cases c2 : (l0.length : Int) > 65536
  · rw [if_pos c2] at H
    have c2b0 : decide (65536 < (l0.length : Int)) = true := decide_eq_true c2
    have c2b1 : decide (65536 < l0.length) = true := decide_eq_true (by omega)
    clear c2
    obtain rfl := Option.some.inj H
    go_enter Tryd.func8, Tryd.ntmps8
    go_wp2
    go_ret
    exact ⟨by first | rfl | (simp [errW_none, errW_some] <;> rfl) | (simp [*, errW_none, errW_some] <;> rfl), by repeat (first | (with_reducible first | exact HB.out | apply below_alloc | apply pw_below_drewN | apply below_drew1) | exact HB.out)⟩
  · rw [if_neg c2] at H
    have c2b0 : decide (65536 < (l0.length : Int)) = false := decide_eq_false c2
    have c2b1 : decide (65536 < l0.length) = false := decide_eq_false (by omega)
    clear c2
    replace H := Option.bind_eq_some_iff.mp H
    obtain ⟨t163, A30, H⟩ := H
    replace H : (some t163) = some r := H
    have A3 := Aside0.mk A30
    clear A30
    obtain rfl := Option.some.inj H
    go_enter Tryd.func8, Tryd.ntmps8
    go_wp2_with (first | ((with_reducible refine gate_callee (f := 17) rfl ?_); refine goesL_ (some 7) rfl rfl Tryd.func17 (by kernel_rfl) rfl #[.slice A0 l0.length c0] rfl (by (try simp only [List.map_toArray, List.map_cons, List.map_nil]); first | done | rfl | (simp only [List.length_drop, List.length_take]; rfl)) ?_; (with_reducible refine (spec_l01Hash.calls _ _ l0 t163 _ ?side1 ?side2 A3.out).mono ?_); (case side1 => repeat (first | exact HR0.out | (with_reducible refine Kd.C_alloc ?_ _) | (with_reducible refine Kd.C_drewN ?_ _) | (with_reducible refine Kd.C_drew ?_))); (case side2 => exact HC0.out); rintro e w4 ⟨rfl, hb⟩; refine ⟨_, rfl, ?_⟩; have n0_ := Aside0.mk (below_step (by repeat (first | (with_reducible first | exact HB.out | apply below_alloc | apply pw_below_drewN | apply below_drew1) | exact HB.out)) hb); clear HB; have HB := n0_; clear n0_; (try clear hb); (try clear hb2); (try clear hk); (try clear hi)))
    go_ret
    exact ⟨by first | rfl | (simp [errW_none, errW_some] <;> rfl) | (simp [*, errW_none, errW_some] <;> rfl), by repeat (first | (with_reducible first | exact HB.out | apply below_alloc | apply pw_below_drewN | apply below_drew1) | exact HB.out)⟩

end Go.Proofs.YtggemblkhckbpaaDoor.Q

namespace Go.Proofs.YtggemblkhckbpaaDoor.Q
open Go.RowKit Go.Proofs.YtggemblkhckbpaaDoorW.PrintWords Go.Proofs.YtggemblkhckbpaaDoorW.PrintLast Go.Proofs.YtggemblkhckbpaaDoorW.PrintMore
attribute [local go_sem] max2_int min2_int max_two min_two max_three min_three max_four min_four   -- for this text's walks alone
set_option linter.unusedVariables false
set_option linter.unusedSimpArgs false

/-! ### impl_check32: function 18 -/
mutual
def impl_check32.l0 : Nat → ByteArray → Int → Int → Int → Option (Int)
  | 0, _, _, _, _ => none
  | k + 1, x0, x3, x7, x8 => if x8 < x7 then (if 0 ≤ x8 then (if x8 < (x0.size : Int) then (impl_check32.l1 k x0 (Go.bits .xor .u32 x3 ((bt x0 x8) % 4294967296)) x7 x8 0) else (none)) else (none)) else (some (wrap64 (Go.bits .xor .u32 4294967295 x3)))
def impl_check32.l1 : Nat → ByteArray → Int → Int → Int → Int → Option (Int)
  | 0, _, _, _, _, _ => none
  | k + 1, x0, x3, x7, x8, x17 => if x17 < 8 then (if (Go.bits .and .u32 x3 1) = 1 then (impl_check32.l1 k x0 (Go.bits .xor .u32 (x3 / 2) 3988292384) x7 x8 (wrap64 (x17 + 1))) else (impl_check32.l1 k x0 (x3 / 2) x7 x8 (wrap64 (x17 + 1)))) else (impl_check32.l0 k x0 x3 x7 (wrap64 (x8 + 1)))
end
def impl_check32.f (k : Nat) (a0 : ByteArray) : Option (Int) := impl_check32.l0 k a0 4294967295 (a0.size : Int) 0
set_option maxHeartbeats 8000000 in
set_option maxRecDepth 100000 in
theorem impl_check32.calls (k : Nat) (a0 : ByteArray) (r : Int) (w : World) (h : impl_check32.f k a0 = some r) :
    Calls Tryd.prog 18 #[.string a0] w fun e w' => e = .returned (.int .i64 r) ∧ Drawn0 w w' := by
  have H : (impl_check32.l0 k a0 4294967295 (a0.size : Int) 0) = some r := h
  clear h
  have H' := Aside0.mk H
  clear H
  go_enter Tryd.func18, Tryd.ntmps18
  go_wp2
  go_loopg [3, 8] k (fun kq v3 v8 w' => ∃ (x3_1 : Int) (x8_1 : Int), v3 = .int .u32 x3_1 ∧ v8 = .int .i64 x8_1 ∧ Aside0 (impl_check32.l0 kq a0 x3_1 (a0.size : Int) x8_1 = some r) ∧ Aside0 (kq ≤ k) ∧ Drawn0 w w')
  case atStart => exact ⟨(4294967295), (0), (by first | rfl | (simp; done) | (simp [*]; done)), (by first | rfl | (simp; done) | (simp [*]; done)), H', ⟨Nat.le_refl _⟩, by repeat (first | exact Drawn0.refl _ | apply Drawn0.step)⟩
  case round =>
    clear H'
    try clear c1
    obtain ⟨x3_1, x8_1, rfl, rfl, HA, HK1, ⟨m1, rfl⟩⟩ := hrel
    cases gk with
    | zero => exact absurd HA.out (by simp [impl_check32.l0])
    | succ k1 =>
      have H := HA.out
      clear HA
      simp only [impl_check32.l0] at H
      by_cases c2 : x8_1 < (a0.size : Int)
      · rw [if_pos c2] at H
        have c2b0 : decide (x8_1 < (a0.size : Int)) = true := decide_eq_true c2
        clear c2
        by_cases c3 : 0 ≤ x8_1
        · rw [if_pos c3] at H
          have c3b0 : decide (0 ≤ x8_1) = true := decide_eq_true c3
          clear c3
          by_cases c4 : x8_1 < (a0.size : Int)
          · rw [if_pos c4] at H
            have c4b0 : decide (x8_1 < (a0.size : Int)) = true := decide_eq_true c4
            clear c4
            have H' := Aside0.mk H
            clear H
            have p5 : 0 ≤ (x8_1 : Int) := of_decide_eq_true (by first | (with_reducible assumption) | assumption)
            have q5 : x8_1 < (a0.size : Int) := of_decide_eq_true (by first | (with_reducible assumption) | assumption)
            have hx5 := bt_at a0 x8_1
            replace p5 := eq_true p5
            replace q5 := eq_true q5
            go_wp2
            go_loopg [3, 17] k1 (fun kq v3 v17 w' => ∃ (x3_2 : Int) (x17_2 : Int), v3 = .int .u32 x3_2 ∧ v17 = .int .i64 x17_2 ∧ Aside0 (impl_check32.l1 kq a0 x3_2 (a0.size : Int) x8_1 x17_2 = some r) ∧ Aside0 (kq ≤ k1) ∧ Drawn0 w w')
            case atStart => exact ⟨(Go.bits .xor .u32 x3_1 ((bt a0 x8_1) % 4294967296)), (0), (by first | rfl | (simp; done) | (simp [*]; done)), (by first | rfl | (simp; done) | (simp [*]; done)), H', ⟨Nat.le_refl _⟩, by repeat (first | exact Drawn0.refl _ | apply Drawn0.step)⟩
            case round =>
              clear H'
              try clear c1
              try clear c2
              try clear c2b0
              try clear p2
              try clear c3
              try clear c3b0
              try clear c4
              try clear c4b0
              try clear p5
              try clear q5
              try clear hx5
              try clear p5
              try clear q5
              obtain ⟨x3_2, x17_2, rfl, rfl, HA, HK2, ⟨m2, rfl⟩⟩ := hrel
              cases gk with
              | zero => exact absurd HA.out (by simp [impl_check32.l1])
              | succ k2 =>
                have H := HA.out
                clear HA
                simp only [impl_check32.l1] at H
                by_cases c6 : x17_2 < 8
                · rw [if_pos c6] at H
                  have c6b0 : decide (x17_2 < 8) = true := decide_eq_true c6
                  clear c6
                  by_cases c7 : (Go.bits .and .u32 x3_2 1) = 1
                  · rw [if_pos c7] at H
                    have c7b0 : ((Go.bits .and .u32 x3_2 1) == 1) = true := beq_iff_eq.mpr c7
                    have c7b1 : ((Go.bits .and .u32 x3_2 1) != 1) = false := bne_eq_false_iff_eq.mpr c7
                    clear c7
                    have H' := Aside0.mk H
                    clear H
                    go_wp2
                    go_roundg k2
                    case measure => have := HK1.out; have := HK2.out; omega
                    case rel => exact ⟨(Go.bits .xor .u32 (x3_2 / 2) 3988292384), (wrap64 (x17_2 + 1)), (by first | rfl | (simp; done) | (simp [*]; done)), (by first | rfl | (simp; done) | (simp [*]; done)), H', ⟨by have := HK1.out; have := HK2.out; omega⟩, by repeat (first | exact Drawn0.refl _ | apply Drawn0.step)⟩
                  · rw [if_neg c7] at H
                    have c7b0 : ((Go.bits .and .u32 x3_2 1) == 1) = false := beq_eq_false_iff_ne.mpr c7
                    have c7b1 : ((Go.bits .and .u32 x3_2 1) != 1) = true := bne_iff_ne.mpr c7
                    have H' := Aside0.mk H
                    clear H
                    go_wp2
                    go_roundg k2
                    case measure => have := HK1.out; have := HK2.out; omega
                    case rel => exact ⟨(x3_2 / 2), (wrap64 (x17_2 + 1)), (by first | rfl | (simp; done) | (simp [*]; done)), (by first | rfl | (simp; done) | (simp [*]; done)), H', ⟨by have := HK1.out; have := HK2.out; omega⟩, by repeat (first | exact Drawn0.refl _ | apply Drawn0.step)⟩
                · rw [if_neg c6] at H
                  have c6b0 : decide (x17_2 < 8) = false := decide_eq_false c6
                  clear c6
                  have H' := Aside0.mk H
                  clear H
                  go_wp2
                  go_roundg k2
                  case measure => have := HK1.out; have := HK2.out; omega
                  case rel => exact ⟨(x3_2), (wrap64 (x8_1 + 1)), (by first | rfl | (simp; done) | (simp [*]; done)), (by first | rfl | (simp; done) | (simp [*]; done)), H', ⟨by have := HK1.out; have := HK2.out; omega⟩, by repeat (first | exact Drawn0.refl _ | apply Drawn0.step)⟩
          · rw [if_neg c4] at H
            exact absurd H (by simp)
        · rw [if_neg c3] at H
          exact absurd H (by simp)
      · rw [if_neg c2] at H
        have c2b0 : decide (x8_1 < (a0.size : Int)) = false := decide_eq_false c2
        clear c2
        obtain rfl := Option.some.inj H
        go_wp2
        go_ret
        exact ⟨by first | rfl | (simp; done) | (simp [*]; done), by repeat (first | exact Drawn0.refl _ | apply Drawn0.step)⟩

end Go.Proofs.YtggemblkhckbpaaDoor.Q

namespace Go.Proofs.YtggemblkhckbpaaDoor.Q
open Go.RowKit Go.Proofs.YtggemblkhckbpaaDoorW.PrintWords Go.Proofs.YtggemblkhckbpaaDoorW.PrintLast Go.Proofs.YtggemblkhckbpaaDoorW.PrintMore
attribute [local go_sem] max2_int min2_int max_two min_two max_three min_three max_four min_four   -- for this text's walks alone
set_option linter.unusedVariables false
set_option linter.unusedSimpArgs false

/-! ### impl_Check32: function 9 -/
def impl_Check32.f (k : Nat) (l0 : List Int) : Option (Int) := if (l0.length : Int) > 65536 then (some 0) else ((impl_check32.f k (strOfNums l0)).bind fun t164 => (some t164))
set_option maxHeartbeats 8000000 in
set_option maxRecDepth 100000 in
theorem impl_Check32.calls (k : Nat) (A0 : Option Addr) (c0 : Nat) (l0 : List Int) (r : Int) (w : World) (hr0 : Kd.C (Kd.int .u8) w A0 l0.length l0) (hc0 : l0.length ≤ c0) (h : impl_Check32.f k l0 = some r) :
    Calls Tryd.prog 9 #[.slice A0 l0.length c0] w fun e w' => e = .returned (.int .i64 r) ∧ Drawn0 w w' := by
  have HR0 := Aside0.mk hr0
  have HC0 := Aside0.mk hc0
  clear hr0 hc0
  have H : (if (l0.length : Int) > 65536 then (some 0) else ((impl_check32.f k (strOfNums l0)).bind fun t164 => (some t164))) = some r := h
  clear h
  by_cases c2 : (l0.length : Int) > 65536
  · rw [if_pos c2] at H
    have c2b0 : decide (65536 < (l0.length : Int)) = true := decide_eq_true c2
    have c2b1 : decide (65536 < l0.length) = true := decide_eq_true (by omega)
    clear c2
    obtain rfl := Option.some.inj H
    go_enter Tryd.func9, Tryd.ntmps9
    go_wp2
    go_ret
    exact ⟨by first | rfl | (simp; done) | (simp [*]; done), by repeat (first | exact Drawn0.refl _ | apply Drawn0.step)⟩
  · rw [if_neg c2] at H
    have c2b0 : decide (65536 < (l0.length : Int)) = false := decide_eq_false c2
    have c2b1 : decide (65536 < l0.length) = false := decide_eq_false (by omega)
    clear c2
    replace H := Option.bind_eq_some_iff.mp H
    obtain ⟨t164, A30, H⟩ := H
    replace H : (some t164) = some r := H
    have A3 := Aside0.mk A30
    clear A30
    obtain rfl := Option.some.inj H
    have hcv4 := Kd.C_string (P := Tryd.prog) (A := A0) (c := c0) Tryd.underlying22 Tryd.underlying5 Tryd.underlying9 HR0.out
    go_enter Tryd.func9, Tryd.ntmps9
    go_wp2_with (first | ((with_reducible refine gate_callee (f := 18) rfl ?_); refine goesL_ (some 8) rfl rfl Tryd.func18 (by kernel_rfl) rfl #[.string (strOfNums l0)] rfl (by (try simp only [List.map_toArray, List.map_cons, List.map_nil]); first | done | rfl | (simp only [List.length_drop, List.length_take]; rfl)) ?_; (with_reducible refine (impl_check32.calls k (strOfNums l0) t164 _ A3.out).mono ?_); rintro e w' ⟨rfl, ⟨nd, rfl⟩⟩; refine ⟨_, rfl, ?_⟩))
    go_ret
    exact ⟨by first | rfl | (simp; done) | (simp [*]; done), by repeat (first | exact Drawn0.refl _ | apply Drawn0.step)⟩

end Go.Proofs.YtggemblkhckbpaaDoor.Q

namespace Go.Proofs.YtggemblkhckbpaaDoor.Q
open Go.RowKit Go.Proofs.YtggemblkhckbpaaDoorW.PrintWords Go.Proofs.YtggemblkhckbpaaDoorW.PrintLast Go.Proofs.YtggemblkhckbpaaDoorW.PrintMore
attribute [local go_sem] max2_int min2_int max_two min_two max_three min_three max_four min_four   -- for this text's walks alone
set_option linter.unusedVariables false
set_option linter.unusedSimpArgs false

/-! ### spec_l01Check: function 19 -/
mutual
def spec_l01Check.l0 : Nat → List Int → Int → Int → Option (Int)
  | 0, _, _, _ => none
  | k + 1, x0, x3, x4 => if x4 < (x0.length : Int) then (if 0 ≤ x4 then (spec_l01Check.l1 k x0 (Go.bits .xor .i64 x3 (wrap64 (rd x0 x4))) x4 0) else (none)) else (some (Go.bits .xor .i64 x3 4294967295))
def spec_l01Check.l1 : Nat → List Int → Int → Int → Int → Option (Int)
  | 0, _, _, _, _ => none
  | k + 1, x0, x3, x4, x5 => if x5 < 8 then (if (Int.tmod x3 2) = 1 then (spec_l01Check.l1 k x0 (Go.bits .xor .i64 (wrap64 (Int.tdiv x3 2)) 3988292384) x4 (wrap64 (x5 + 1))) else (spec_l01Check.l1 k x0 (wrap64 (Int.tdiv x3 2)) x4 (wrap64 (x5 + 1)))) else (spec_l01Check.l0 k x0 x3 (wrap64 (x4 + 1)))
end
def spec_l01Check.f (k : Nat) (l0 : List Int) : Option (Int) := spec_l01Check.l0 k l0 4294967295 0
set_option maxHeartbeats 8000000 in
set_option maxRecDepth 100000 in
theorem spec_l01Check.calls (k : Nat) (A0 : Option Addr) (c0 : Nat) (l0 : List Int) (r : Int) (w : World) (hr0 : Kd.C (Kd.int .u8) w A0 l0.length l0) (hc0 : l0.length ≤ c0) (h : spec_l01Check.f k l0 = some r) :
    Calls Tryd.prog 19 #[.slice A0 l0.length c0] w fun e w' => e = .returned (.int .i64 r) ∧ Drawn0 w w' := by
  have HR0 := Aside0.mk hr0
  have HC0 := Aside0.mk hc0
  clear hr0 hc0
  have H : (spec_l01Check.l0 k l0 4294967295 0) = some r := h
  clear h
  have H' := Aside0.mk H
  clear H
  go_enter Tryd.func19, Tryd.ntmps19
  go_wp2
  go_loopg [3, 4] k (fun kq v3 v4 w' => ∃ (x3_1 : Int) (x4_1 : Int), v3 = .int .i64 x3_1 ∧ v4 = .int .i64 x4_1 ∧ Aside0 (spec_l01Check.l0 kq l0 x3_1 x4_1 = some r) ∧ Aside0 (kq ≤ k) ∧ Drawn0 w w')
  case atStart => exact ⟨(4294967295), (0), (by first | rfl | (simp; done) | (simp [*]; done)), (by first | rfl | (simp; done) | (simp [*]; done)), H', ⟨Nat.le_refl _⟩, by repeat (first | exact Drawn0.refl _ | apply Drawn0.step)⟩
  case round =>
    clear H'
    try clear c1
    obtain ⟨x3_1, x4_1, rfl, rfl, HA, HK1, ⟨m1, rfl⟩⟩ := hrel
    cases gk with
    | zero => exact absurd HA.out (by simp [spec_l01Check.l0])
    | succ k1 =>
      have H := HA.out
      clear HA
      simp only [spec_l01Check.l0] at H
      by_cases c2 : x4_1 < (l0.length : Int)
      · rw [if_pos c2] at H
        have c2b0 : decide (x4_1 < (l0.length : Int)) = true := decide_eq_true c2
        clear c2
        by_cases c3 : 0 ≤ x4_1
        · rw [if_pos c3] at H
          have c3b0 : decide (0 ≤ x4_1) = true := decide_eq_true c3
          clear c3
          have H' := Aside0.mk H
          clear H
          have p165 : 0 ≤ (x4_1 : Int) := of_decide_eq_true (by first | (with_reducible assumption) | assumption)
          have q165 : x4_1 < (l0.length : Int) := of_decide_eq_true (by first | (with_reducible assumption) | assumption)
          obtain ⟨ad165, e165, hx165_0⟩ := Kd.at_int HR0.out x4_1 p165 q165
          cases e165
          replace p165 := eq_true p165
          replace q165 := eq_true q165
          go_wp2
          go_loopg [3, 5] k1 (fun kq v3 v5 w' => ∃ (x3_2 : Int) (x5_2 : Int), v3 = .int .i64 x3_2 ∧ v5 = .int .i64 x5_2 ∧ Aside0 (spec_l01Check.l1 kq l0 x3_2 x4_1 x5_2 = some r) ∧ Aside0 (kq ≤ k1) ∧ Drawn0 w w')
          case atStart => exact ⟨(Go.bits .xor .i64 x3_1 (wrap64 (rd l0 x4_1))), (0), (by first | rfl | (simp; done) | (simp [*]; done)), (by first | rfl | (simp; done) | (simp [*]; done)), H', ⟨Nat.le_refl _⟩, by repeat (first | exact Drawn0.refl _ | apply Drawn0.step)⟩
          case round =>
            clear H'
            try clear c1
            try clear p1
            try clear q1
            try clear hx1
            try clear c2
            try clear c2b0
            try clear p2
            try clear c3
            try clear c3b0
            try clear hx165_0
            try clear p165
            try clear q165
            obtain ⟨x3_2, x5_2, rfl, rfl, HA, HK2, ⟨m2, rfl⟩⟩ := hrel
            cases gk with
            | zero => exact absurd HA.out (by simp [spec_l01Check.l1])
            | succ k2 =>
              have H := HA.out
              clear HA
              simp only [spec_l01Check.l1] at H
              by_cases c4 : x5_2 < 8
              · rw [if_pos c4] at H
                have c4b0 : decide (x5_2 < 8) = true := decide_eq_true c4
                clear c4
                by_cases c5 : (Int.tmod x3_2 2) = 1
                · rw [if_pos c5] at H
                  have c5b0 : ((Int.tmod x3_2 2) == 1) = true := beq_iff_eq.mpr c5
                  have c5b1 : ((Int.tmod x3_2 2) != 1) = false := bne_eq_false_iff_eq.mpr c5
                  clear c5
                  have H' := Aside0.mk H
                  clear H
                  go_wp2
                  go_roundg k2
                  case measure => have := HK1.out; have := HK2.out; omega
                  case rel => exact ⟨(Go.bits .xor .i64 (wrap64 (Int.tdiv x3_2 2)) 3988292384), (wrap64 (x5_2 + 1)), (by first | rfl | (simp; done) | (simp [*]; done)), (by first | rfl | (simp; done) | (simp [*]; done)), H', ⟨by have := HK1.out; have := HK2.out; omega⟩, by repeat (first | exact Drawn0.refl _ | apply Drawn0.step)⟩
                · rw [if_neg c5] at H
                  have c5b0 : ((Int.tmod x3_2 2) == 1) = false := beq_eq_false_iff_ne.mpr c5
                  have c5b1 : ((Int.tmod x3_2 2) != 1) = true := bne_iff_ne.mpr c5
                  have H' := Aside0.mk H
                  clear H
                  go_wp2
                  go_roundg k2
                  case measure => have := HK1.out; have := HK2.out; omega
                  case rel => exact ⟨(wrap64 (Int.tdiv x3_2 2)), (wrap64 (x5_2 + 1)), (by first | rfl | (simp; done) | (simp [*]; done)), (by first | rfl | (simp; done) | (simp [*]; done)), H', ⟨by have := HK1.out; have := HK2.out; omega⟩, by repeat (first | exact Drawn0.refl _ | apply Drawn0.step)⟩
              · rw [if_neg c4] at H
                have c4b0 : decide (x5_2 < 8) = false := decide_eq_false c4
                clear c4
                have H' := Aside0.mk H
                clear H
                go_wp2
                go_roundg k2
                case measure => have := HK1.out; have := HK2.out; omega
                case rel => exact ⟨(x3_2), (wrap64 (x4_1 + 1)), (by first | rfl | (simp; done) | (simp [*]; done)), (by first | rfl | (simp; done) | (simp [*]; done)), H', ⟨by have := HK1.out; have := HK2.out; omega⟩, by repeat (first | exact Drawn0.refl _ | apply Drawn0.step)⟩
        · rw [if_neg c3] at H
          exact absurd H (by simp)
      · rw [if_neg c2] at H
        have c2b0 : decide (x4_1 < (l0.length : Int)) = false := decide_eq_false c2
        clear c2
        obtain rfl := Option.some.inj H
        go_wp2
        go_ret
        exact ⟨by first | rfl | (simp; done) | (simp [*]; done), by repeat (first | exact Drawn0.refl _ | apply Drawn0.step)⟩

end Go.Proofs.YtggemblkhckbpaaDoor.Q

namespace Go.Proofs.YtggemblkhckbpaaDoor.Q
open Go.RowKit Go.Proofs.YtggemblkhckbpaaDoorW.PrintWords Go.Proofs.YtggemblkhckbpaaDoorW.PrintLast Go.Proofs.YtggemblkhckbpaaDoorW.PrintMore
attribute [local go_sem] max2_int min2_int max_two min_two max_three min_three max_four min_four   -- for this text's walks alone
set_option linter.unusedVariables false
set_option linter.unusedSimpArgs false

/-! ### spec_Check32: function 10 -/
def spec_Check32.f (k : Nat) (l0 : List Int) : Option (Int) := if (l0.length : Int) > 65536 then (some 0) else ((spec_l01Check.f k l0).bind fun t166 => (some t166))
set_option maxHeartbeats 8000000 in
set_option maxRecDepth 100000 in
theorem spec_Check32.calls (k : Nat) (A0 : Option Addr) (c0 : Nat) (l0 : List Int) (r : Int) (w : World) (hr0 : Kd.C (Kd.int .u8) w A0 l0.length l0) (hc0 : l0.length ≤ c0) (h : spec_Check32.f k l0 = some r) :
    Calls Tryd.prog 10 #[.slice A0 l0.length c0] w fun e w' => e = .returned (.int .i64 r) ∧ Drawn0 w w' := by
  have HR0 := Aside0.mk hr0
  have HC0 := Aside0.mk hc0
  clear hr0 hc0
  have H : (if (l0.length : Int) > 65536 then (some 0) else ((spec_l01Check.f k l0).bind fun t166 => (some t166))) = some r := h
  clear h
  by_cases c2 : (l0.length : Int) > 65536
  · rw [if_pos c2] at H
    have c2b0 : decide (65536 < (l0.length : Int)) = true := decide_eq_true c2
    have c2b1 : decide (65536 < l0.length) = true := decide_eq_true (by omega)
    clear c2
    obtain rfl := Option.some.inj H
    go_enter Tryd.func10, Tryd.ntmps10
    go_wp2
    go_ret
    exact ⟨by first | rfl | (simp; done) | (simp [*]; done), by repeat (first | exact Drawn0.refl _ | apply Drawn0.step)⟩
  · rw [if_neg c2] at H
    have c2b0 : decide (65536 < (l0.length : Int)) = false := decide_eq_false c2
    have c2b1 : decide (65536 < l0.length) = false := decide_eq_false (by omega)
    clear c2
    replace H := Option.bind_eq_some_iff.mp H
    obtain ⟨t166, A30, H⟩ := H
    replace H : (some t166) = some r := H
    have A3 := Aside0.mk A30
    clear A30
    obtain rfl := Option.some.inj H
    go_enter Tryd.func10, Tryd.ntmps10
    go_wp2_with (first | ((with_reducible refine gate_callee (f := 19) rfl ?_); refine goesL_ (some 7) rfl rfl Tryd.func19 (by kernel_rfl) rfl #[.slice A0 l0.length c0] rfl (by (try simp only [List.map_toArray, List.map_cons, List.map_nil]); first | done | rfl | (simp only [List.length_drop, List.length_take]; rfl)) ?_; (with_reducible refine (spec_l01Check.calls k _ _ l0 t166 _ ?side1 ?side2 A3.out).mono ?_); (case side1 => repeat (first | exact HR0.out | (with_reducible refine Kd.C_alloc ?_ _) | (with_reducible refine Kd.C_drewN ?_ _) | (with_reducible refine Kd.C_drew ?_))); (case side2 => exact HC0.out); rintro e w' ⟨rfl, ⟨nd, rfl⟩⟩; refine ⟨_, rfl, ?_⟩))
    go_ret
    exact ⟨by first | rfl | (simp; done) | (simp [*]; done), by repeat (first | exact Drawn0.refl _ | apply Drawn0.step)⟩

end Go.Proofs.YtggemblkhckbpaaDoor.Q

namespace Go.Proofs.YtggemblkhckbpaaDoor.Q
open Go.RowKit Go.Proofs.YtggemblkhckbpaaDoorW.PrintWords Go.Proofs.YtggemblkhckbpaaDoorW.PrintLast Go.Proofs.YtggemblkhckbpaaDoorW.PrintMore
attribute [local go_sem] max2_int min2_int max_two min_two max_three min_three max_four min_four   -- for this text's walks alone
set_option linter.unusedVariables false
set_option linter.unusedSimpArgs false

/-! ### laws_FnHash: function 3 -/
def laws_FnHash.f (k : Nat) (l0 : List Int) : Option (Bool) := if (l0.length : Int) > 1048576 then (some true) else (if (l0.length : Int) > 65536 then ((impl_Hash.f l0).bind fun t167 => (some (t167.toList == ([] : List UInt8)))) else ((impl_Hash.f l0).bind fun t168 => ((impl_HashText.f k t168).bind fun bt169 => ((impl_ReadHash.f k bt169.1).bind fun bt171 => ((impl_HashBits.f k t168).bind fun bt173 => (if (t168.size : Int) = 32 then ((spec_Hash.f l0).bind fun t175 => (if t168.toList = t175.toList then (if bt169.2 = 0 then (if (bt169.1.size : Int) = 64 then (if bt171.2 = 0 then (if bt171.1.toList = t168.toList then (if bt173.2 = 0 then (if (bt173.1.size : Int) = 256 then ((impl_Check32.f k l0).bind fun t176 => ((spec_Check32.f k l0).bind fun t177 => (some (t176 == t177)))) else (some false)) else (some false)) else (some false)) else (some false)) else (some false)) else (some false)) else (some false))) else (some false)))))))
set_option maxHeartbeats 8000000 in
set_option maxRecDepth 100000 in
theorem laws_FnHash.calls (k : Nat) (A0 : Option Addr) (c0 : Nat) (l0 : List Int) (r : Bool) (w : World) (hr0 : Kd.C (Kd.int .u8) w A0 l0.length l0) (hc0 : l0.length ≤ c0) (h : laws_FnHash.f k l0 = some r) :
    Calls Tryd.prog 3 #[.slice A0 l0.length c0] w fun e w' => e = .returned (.bool r) ∧ Below w.heap.size w w' := by
  have HR0 := Aside0.mk hr0
  have HC0 := Aside0.mk hc0
  clear hr0 hc0
  have HB := Aside0.mk (Below.refl w.heap.size w)
  have H : (if (l0.length : Int) > 1048576 then (some true) else (if (l0.length : Int) > 65536 then ((impl_Hash.f l0).bind fun t167 => (some (t167.toList == ([] : List UInt8)))) else ((impl_Hash.f l0).bind fun t168 => ((impl_HashText.f k t168).bind fun bt169 => ((impl_ReadHash.f k bt169.1).bind fun bt171 => ((impl_HashBits.f k t168).bind fun bt173 => (if (t168.size : Int) = 32 then ((spec_Hash.f l0).bind fun t175 => (if t168.toList = t175.toList then (if bt169.2 = 0 then (if (bt169.1.size : Int) = 64 then (if bt171.2 = 0 then (if bt171.1.toList = t168.toList then (if bt173.2 = 0 then (if (bt173.1.size : Int) = 256 then ((impl_Check32.f k l0).bind fun t176 => ((spec_Check32.f k l0).bind fun t177 => (some (t176 == t177)))) else (some false)) else (some false)) else (some false)) else (some false)) else (some false)) else (some false)) else (some false))) else (some false)))))))) = some r := h
  clear h
  by_cases c2 : (l0.length : Int) > 1048576
  · rw [if_pos c2] at H
    have c2b0 : decide (1048576 < (l0.length : Int)) = true := decide_eq_true c2
    have c2b1 : decide (1048576 < l0.length) = true := decide_eq_true (by omega)
    clear c2
    obtain rfl := Option.some.inj H
    go_enter Tryd.func3, Tryd.ntmps3
    go_wp2
    go_ret
    exact ⟨by first | rfl | (simp [errW_none, errW_some] <;> rfl) | (simp [*, errW_none, errW_some] <;> rfl), by repeat (first | (with_reducible first | exact HB.out | apply below_alloc | apply pw_below_drewN | apply below_drew1) | exact HB.out)⟩
  · rw [if_neg c2] at H
    have c2b0 : decide (1048576 < (l0.length : Int)) = false := decide_eq_false c2
    have c2b1 : decide (1048576 < l0.length) = false := decide_eq_false (by omega)
    clear c2
    by_cases c3 : (l0.length : Int) > 65536
    · rw [if_pos c3] at H
      have c3b0 : decide (65536 < (l0.length : Int)) = true := decide_eq_true c3
      have c3b1 : decide (65536 < l0.length) = true := decide_eq_true (by omega)
      clear c3
      replace H := Option.bind_eq_some_iff.mp H
      obtain ⟨t167, A40, H⟩ := H
      replace H : (some (t167.toList == ([] : List UInt8))) = some r := H
      have A4 := Aside0.mk A40
      clear A40
      obtain rfl := Option.some.inj H
      go_enter Tryd.func3, Tryd.ntmps3
      go_wp2_with (first | ((with_reducible refine gate_callee (f := 4) rfl ?_); refine goesL_ (some 17) rfl rfl Tryd.func4 (by kernel_rfl) rfl #[.slice A0 l0.length c0] rfl (by (try simp only [List.map_toArray, List.map_cons, List.map_nil]); first | done | rfl | (simp only [List.length_drop, List.length_take]; rfl)) ?_; (with_reducible refine (impl_Hash.calls _ _ l0 t167 _ ?side1 ?side2 A4.out).mono ?_); (case side1 => repeat (first | exact HR0.out | (with_reducible refine Kd.C_alloc ?_ _) | (with_reducible refine Kd.C_drewN ?_ _) | (with_reducible refine Kd.C_drew ?_))); (case side2 => exact HC0.out); rintro e w5 ⟨rfl, hb⟩; refine ⟨_, rfl, ?_⟩; have n0_ := Aside0.mk (below_step (by repeat (first | (with_reducible first | exact HB.out | apply below_alloc | apply pw_below_drewN | apply below_drew1) | exact HB.out)) hb); clear HB; have HB := n0_; clear n0_; (try clear hb); (try clear hb2); (try clear hk); (try clear hi)))
      go_ret
      exact ⟨by first | rfl | (simp [errW_none, errW_some] <;> rfl) | (simp [*, errW_none, errW_some] <;> rfl), by repeat (first | (with_reducible first | exact HB.out | apply below_alloc | apply pw_below_drewN | apply below_drew1) | exact HB.out)⟩
    · rw [if_neg c3] at H
      have c3b0 : decide (65536 < (l0.length : Int)) = false := decide_eq_false c3
      have c3b1 : decide (65536 < l0.length) = false := decide_eq_false (by omega)
      clear c3
      replace H := Option.bind_eq_some_iff.mp H
      obtain ⟨t168, A60, H⟩ := H
      replace H : ((impl_HashText.f k t168).bind fun bt169 => ((impl_ReadHash.f k bt169.1).bind fun bt171 => ((impl_HashBits.f k t168).bind fun bt173 => (if (t168.size : Int) = 32 then ((spec_Hash.f l0).bind fun t175 => (if t168.toList = t175.toList then (if bt169.2 = 0 then (if (bt169.1.size : Int) = 64 then (if bt171.2 = 0 then (if bt171.1.toList = t168.toList then (if bt173.2 = 0 then (if (bt173.1.size : Int) = 256 then ((impl_Check32.f k l0).bind fun t176 => ((spec_Check32.f k l0).bind fun t177 => (some (t176 == t177)))) else (some false)) else (some false)) else (some false)) else (some false)) else (some false)) else (some false)) else (some false))) else (some false))))) = some r := H
      have A6 := Aside0.mk A60
      clear A60
      replace H := Option.bind_eq_some_iff.mp H
      obtain ⟨⟨t169, t170⟩, A70, H⟩ := H
      replace H : ((impl_ReadHash.f k t169).bind fun bt171 => ((impl_HashBits.f k t168).bind fun bt173 => (if (t168.size : Int) = 32 then ((spec_Hash.f l0).bind fun t175 => (if t168.toList = t175.toList then (if t170 = 0 then (if (t169.size : Int) = 64 then (if bt171.2 = 0 then (if bt171.1.toList = t168.toList then (if bt173.2 = 0 then (if (bt173.1.size : Int) = 256 then ((impl_Check32.f k l0).bind fun t176 => ((spec_Check32.f k l0).bind fun t177 => (some (t176 == t177)))) else (some false)) else (some false)) else (some false)) else (some false)) else (some false)) else (some false)) else (some false))) else (some false)))) = some r := H
      have A7 := Aside0.mk A70
      clear A70
      replace H := Option.bind_eq_some_iff.mp H
      obtain ⟨⟨t171, t172⟩, A80, H⟩ := H
      replace H : ((impl_HashBits.f k t168).bind fun bt173 => (if (t168.size : Int) = 32 then ((spec_Hash.f l0).bind fun t175 => (if t168.toList = t175.toList then (if t170 = 0 then (if (t169.size : Int) = 64 then (if t172 = 0 then (if t171.toList = t168.toList then (if bt173.2 = 0 then (if (bt173.1.size : Int) = 256 then ((impl_Check32.f k l0).bind fun t176 => ((spec_Check32.f k l0).bind fun t177 => (some (t176 == t177)))) else (some false)) else (some false)) else (some false)) else (some false)) else (some false)) else (some false)) else (some false))) else (some false))) = some r := H
      have A8 := Aside0.mk A80
      clear A80
      replace H := Option.bind_eq_some_iff.mp H
      obtain ⟨⟨t173, t174⟩, A90, H⟩ := H
      replace H : (if (t168.size : Int) = 32 then ((spec_Hash.f l0).bind fun t175 => (if t168.toList = t175.toList then (if t170 = 0 then (if (t169.size : Int) = 64 then (if t172 = 0 then (if t171.toList = t168.toList then (if t174 = 0 then (if (t173.size : Int) = 256 then ((impl_Check32.f k l0).bind fun t176 => ((spec_Check32.f k l0).bind fun t177 => (some (t176 == t177)))) else (some false)) else (some false)) else (some false)) else (some false)) else (some false)) else (some false)) else (some false))) else (some false)) = some r := H
      have A9 := Aside0.mk A90
      clear A90
      by_cases c10 : (t168.size : Int) = 32
      · rw [if_pos c10] at H
        have c10b0 : ((t168.size : Int) == 32) = true := beq_iff_eq.mpr c10
        have c10b1 : ((t168.size : Int) != 32) = false := bne_eq_false_iff_eq.mpr c10
        clear c10
        replace H := Option.bind_eq_some_iff.mp H
        obtain ⟨t175, A110, H⟩ := H
        replace H : (if t168.toList = t175.toList then (if t170 = 0 then (if (t169.size : Int) = 64 then (if t172 = 0 then (if t171.toList = t168.toList then (if t174 = 0 then (if (t173.size : Int) = 256 then ((impl_Check32.f k l0).bind fun t176 => ((spec_Check32.f k l0).bind fun t177 => (some (t176 == t177)))) else (some false)) else (some false)) else (some false)) else (some false)) else (some false)) else (some false)) else (some false)) = some r := H
        have A11 := Aside0.mk A110
        clear A110
        by_cases c12 : t168.toList = t175.toList
        · rw [if_pos c12] at H
          have c12b0 : (t168.toList == t175.toList) = true := beq_iff_eq.mpr c12
          have c12b1 : (t168.toList != t175.toList) = false := bne_eq_false_iff_eq.mpr c12
          clear c12
          by_cases c13 : t170 = 0
          · rw [if_pos c13] at H
            have c13b0 : (t170 == 0) = true := beq_iff_eq.mpr c13
            have c13b1 : (t170 != 0) = false := bne_eq_false_iff_eq.mpr c13
            clear c13
            by_cases c14 : (t169.size : Int) = 64
            · rw [if_pos c14] at H
              have c14b0 : ((t169.size : Int) == 64) = true := beq_iff_eq.mpr c14
              have c14b1 : ((t169.size : Int) != 64) = false := bne_eq_false_iff_eq.mpr c14
              clear c14
              by_cases c15 : t172 = 0
              · rw [if_pos c15] at H
                have c15b0 : (t172 == 0) = true := beq_iff_eq.mpr c15
                have c15b1 : (t172 != 0) = false := bne_eq_false_iff_eq.mpr c15
                clear c15
                by_cases c16 : t171.toList = t168.toList
                · rw [if_pos c16] at H
                  have c16b0 : (t171.toList == t168.toList) = true := beq_iff_eq.mpr c16
                  have c16b1 : (t171.toList != t168.toList) = false := bne_eq_false_iff_eq.mpr c16
                  clear c16
                  by_cases c17 : t174 = 0
                  · rw [if_pos c17] at H
                    have c17b0 : (t174 == 0) = true := beq_iff_eq.mpr c17
                    have c17b1 : (t174 != 0) = false := bne_eq_false_iff_eq.mpr c17
                    clear c17
                    by_cases c18 : (t173.size : Int) = 256
                    · rw [if_pos c18] at H
                      have c18b0 : ((t173.size : Int) == 256) = true := beq_iff_eq.mpr c18
                      have c18b1 : ((t173.size : Int) != 256) = false := bne_eq_false_iff_eq.mpr c18
                      clear c18
                      replace H := Option.bind_eq_some_iff.mp H
                      obtain ⟨t176, A190, H⟩ := H
                      replace H : ((spec_Check32.f k l0).bind fun t177 => (some (t176 == t177))) = some r := H
                      have A19 := Aside0.mk A190
                      clear A190
                      replace H := Option.bind_eq_some_iff.mp H
                      obtain ⟨t177, A200, H⟩ := H
                      replace H : (some (t176 == t177)) = some r := H
                      have A20 := Aside0.mk A200
                      clear A200
                      obtain rfl := Option.some.inj H
                      go_enter Tryd.func3, Tryd.ntmps3
                      go_wp2_with (first | ((with_reducible refine gate_callee (f := 4) rfl ?_); refine goesL_ (some 20) rfl rfl Tryd.func4 (by kernel_rfl) rfl #[.slice A0 l0.length c0] rfl (by (try simp only [List.map_toArray, List.map_cons, List.map_nil]); first | done | rfl | (simp only [List.length_drop, List.length_take]; rfl)) ?_; (with_reducible refine (impl_Hash.calls _ _ l0 t168 _ ?side1 ?side2 A6.out).mono ?_); (case side1 => repeat (first | exact HR0.out | (with_reducible refine Kd.C_alloc ?_ _) | (with_reducible refine Kd.C_drewN ?_ _) | (with_reducible refine Kd.C_drew ?_))); (case side2 => exact HC0.out); rintro e w21 ⟨rfl, hb⟩; refine ⟨_, rfl, ?_⟩; have n0_ := Aside0.mk (below_step (by repeat (first | (with_reducible first | exact HB.out | apply below_alloc | apply pw_below_drewN | apply below_drew1) | exact HB.out)) hb); clear HB; have HB := n0_; clear n0_; (try clear hb); (try clear hb2); (try clear hk); (try clear hi)) | ((with_reducible refine gate_callee (f := 5) rfl ?_); refine goesL_ (some 23) rfl rfl Tryd.func5 (by kernel_rfl) rfl #[.string t168] rfl (by (try simp only [List.map_toArray, List.map_cons, List.map_nil]); first | done | rfl | (simp only [List.length_drop, List.length_take]; rfl)) ?_; (with_reducible refine (impl_HashText.calls k t168 t169 t170 _ A7.out).mono ?_); rintro e w22 ⟨rfl, hb⟩; refine ⟨_, rfl, ?_⟩; have n0_ := Aside0.mk (below_step (by repeat (first | (with_reducible first | exact HB.out | apply below_alloc | apply pw_below_drewN | apply below_drew1) | exact HB.out)) hb); clear HB; have HB := n0_; clear n0_; (try clear hb); (try clear hb2); (try clear hk); (try clear hi)) | ((with_reducible refine gate_callee (f := 6) rfl ?_); refine goesL_ (some 28) rfl rfl Tryd.func6 (by kernel_rfl) rfl #[.string t169] rfl (by (try simp only [List.map_toArray, List.map_cons, List.map_nil]); first | done | rfl | (simp only [List.length_drop, List.length_take]; rfl)) ?_; (with_reducible refine (impl_ReadHash.calls k t169 t171 t172 _ A8.out).mono ?_); rintro e w23 ⟨rfl, hb⟩; refine ⟨_, rfl, ?_⟩; have n0_ := Aside0.mk (below_step (by repeat (first | (with_reducible first | exact HB.out | apply below_alloc | apply pw_below_drewN | apply below_drew1) | exact HB.out)) hb); clear HB; have HB := n0_; clear n0_; (try clear hb); (try clear hb2); (try clear hk); (try clear hi)) | ((with_reducible refine gate_callee (f := 7) rfl ?_); refine goesL_ (some 33) rfl rfl Tryd.func7 (by kernel_rfl) rfl #[.string t168] rfl (by (try simp only [List.map_toArray, List.map_cons, List.map_nil]); first | done | rfl | (simp only [List.length_drop, List.length_take]; rfl)) ?_; (with_reducible refine (impl_HashBits.calls k t168 t173 t174 _ A9.out).mono ?_); rintro e w24 ⟨rfl, hb⟩; refine ⟨_, rfl, ?_⟩; have n0_ := Aside0.mk (below_step (by repeat (first | (with_reducible first | exact HB.out | apply below_alloc | apply pw_below_drewN | apply below_drew1) | exact HB.out)) hb); clear HB; have HB := n0_; clear n0_; (try clear hb); (try clear hb2); (try clear hk); (try clear hi)) | (go_at_call 8; (with_reducible refine (spec_Hash.calls _ _ l0 t175 _ ?side1 ?side2 A11.out).mono ?_); (case side1 => repeat (first | exact (Kd.C_below HR0.out HB.out) | (with_reducible refine Kd.C_alloc ?_ _) | (with_reducible refine Kd.C_drewN ?_ _) | (with_reducible refine Kd.C_drew ?_))); (case side2 => exact HC0.out); rintro e w25 ⟨rfl, hb⟩; have n0_ := Aside0.mk (below_step (by repeat (first | (with_reducible first | exact HB.out | apply below_alloc | apply pw_below_drewN | apply below_drew1) | exact HB.out)) hb); clear HB; have HB := n0_; clear n0_; (try clear hb); (try clear hb2); (try clear hk); (try clear hi)) | (go_at_call 9; (with_reducible refine (impl_Check32.calls k _ _ l0 t176 _ ?side1 ?side2 A19.out).mono ?_); (case side1 => repeat (first | exact (Kd.C_below HR0.out HB.out) | (with_reducible refine Kd.C_alloc ?_ _) | (with_reducible refine Kd.C_drewN ?_ _) | (with_reducible refine Kd.C_drew ?_))); (case side2 => exact HC0.out); rintro e w' ⟨rfl, ⟨nd, rfl⟩⟩) | (go_at_call 10; (with_reducible refine (spec_Check32.calls k _ _ l0 t177 _ ?side1 ?side2 A20.out).mono ?_); (case side1 => repeat (first | exact (Kd.C_below HR0.out (by repeat (first | (with_reducible first | exact HB.out | apply below_alloc | apply pw_below_drewN | apply below_drew1) | exact HB.out))) | (with_reducible refine Kd.C_alloc ?_ _) | (with_reducible refine Kd.C_drewN ?_ _) | (with_reducible refine Kd.C_drew ?_))); (case side2 => exact HC0.out); rintro e w' ⟨rfl, ⟨nd, rfl⟩⟩))
                      go_ret
                      exact ⟨by first | rfl | (simp [errW_none, errW_some] <;> rfl) | (simp [*, errW_none, errW_some] <;> rfl), by repeat (first | (with_reducible first | exact HB.out | apply below_alloc | apply pw_below_drewN | apply below_drew1) | exact HB.out)⟩
                    · rw [if_neg c18] at H
                      have c18b0 : ((t173.size : Int) == 256) = false := beq_eq_false_iff_ne.mpr c18
                      have c18b1 : ((t173.size : Int) != 256) = true := bne_iff_ne.mpr c18
                      obtain rfl := Option.some.inj H
                      go_enter Tryd.func3, Tryd.ntmps3
                      go_wp2_with (first | ((with_reducible refine gate_callee (f := 4) rfl ?_); refine goesL_ (some 20) rfl rfl Tryd.func4 (by kernel_rfl) rfl #[.slice A0 l0.length c0] rfl (by (try simp only [List.map_toArray, List.map_cons, List.map_nil]); first | done | rfl | (simp only [List.length_drop, List.length_take]; rfl)) ?_; (with_reducible refine (impl_Hash.calls _ _ l0 t168 _ ?side1 ?side2 A6.out).mono ?_); (case side1 => repeat (first | exact HR0.out | (with_reducible refine Kd.C_alloc ?_ _) | (with_reducible refine Kd.C_drewN ?_ _) | (with_reducible refine Kd.C_drew ?_))); (case side2 => exact HC0.out); rintro e w26 ⟨rfl, hb⟩; refine ⟨_, rfl, ?_⟩; have n0_ := Aside0.mk (below_step (by repeat (first | (with_reducible first | exact HB.out | apply below_alloc | apply pw_below_drewN | apply below_drew1) | exact HB.out)) hb); clear HB; have HB := n0_; clear n0_; (try clear hb); (try clear hb2); (try clear hk); (try clear hi)) | ((with_reducible refine gate_callee (f := 5) rfl ?_); refine goesL_ (some 23) rfl rfl Tryd.func5 (by kernel_rfl) rfl #[.string t168] rfl (by (try simp only [List.map_toArray, List.map_cons, List.map_nil]); first | done | rfl | (simp only [List.length_drop, List.length_take]; rfl)) ?_; (with_reducible refine (impl_HashText.calls k t168 t169 t170 _ A7.out).mono ?_); rintro e w27 ⟨rfl, hb⟩; refine ⟨_, rfl, ?_⟩; have n0_ := Aside0.mk (below_step (by repeat (first | (with_reducible first | exact HB.out | apply below_alloc | apply pw_below_drewN | apply below_drew1) | exact HB.out)) hb); clear HB; have HB := n0_; clear n0_; (try clear hb); (try clear hb2); (try clear hk); (try clear hi)) | ((with_reducible refine gate_callee (f := 6) rfl ?_); refine goesL_ (some 28) rfl rfl Tryd.func6 (by kernel_rfl) rfl #[.string t169] rfl (by (try simp only [List.map_toArray, List.map_cons, List.map_nil]); first | done | rfl | (simp only [List.length_drop, List.length_take]; rfl)) ?_; (with_reducible refine (impl_ReadHash.calls k t169 t171 t172 _ A8.out).mono ?_); rintro e w28 ⟨rfl, hb⟩; refine ⟨_, rfl, ?_⟩; have n0_ := Aside0.mk (below_step (by repeat (first | (with_reducible first | exact HB.out | apply below_alloc | apply pw_below_drewN | apply below_drew1) | exact HB.out)) hb); clear HB; have HB := n0_; clear n0_; (try clear hb); (try clear hb2); (try clear hk); (try clear hi)) | ((with_reducible refine gate_callee (f := 7) rfl ?_); refine goesL_ (some 33) rfl rfl Tryd.func7 (by kernel_rfl) rfl #[.string t168] rfl (by (try simp only [List.map_toArray, List.map_cons, List.map_nil]); first | done | rfl | (simp only [List.length_drop, List.length_take]; rfl)) ?_; (with_reducible refine (impl_HashBits.calls k t168 t173 t174 _ A9.out).mono ?_); rintro e w29 ⟨rfl, hb⟩; refine ⟨_, rfl, ?_⟩; have n0_ := Aside0.mk (below_step (by repeat (first | (with_reducible first | exact HB.out | apply below_alloc | apply pw_below_drewN | apply below_drew1) | exact HB.out)) hb); clear HB; have HB := n0_; clear n0_; (try clear hb); (try clear hb2); (try clear hk); (try clear hi)) | (go_at_call 8; (with_reducible refine (spec_Hash.calls _ _ l0 t175 _ ?side1 ?side2 A11.out).mono ?_); (case side1 => repeat (first | exact (Kd.C_below HR0.out HB.out) | (with_reducible refine Kd.C_alloc ?_ _) | (with_reducible refine Kd.C_drewN ?_ _) | (with_reducible refine Kd.C_drew ?_))); (case side2 => exact HC0.out); rintro e w30 ⟨rfl, hb⟩; have n0_ := Aside0.mk (below_step (by repeat (first | (with_reducible first | exact HB.out | apply below_alloc | apply pw_below_drewN | apply below_drew1) | exact HB.out)) hb); clear HB; have HB := n0_; clear n0_; (try clear hb); (try clear hb2); (try clear hk); (try clear hi)))
                      go_ret
                      exact ⟨by first | rfl | (simp [errW_none, errW_some] <;> rfl) | (simp [*, errW_none, errW_some] <;> rfl), by repeat (first | (with_reducible first | exact HB.out | apply below_alloc | apply pw_below_drewN | apply below_drew1) | exact HB.out)⟩
                  · rw [if_neg c17] at H
                    have c17b0 : (t174 == 0) = false := beq_eq_false_iff_ne.mpr c17
                    have c17b1 : (t174 != 0) = true := bne_iff_ne.mpr c17
                    obtain rfl := Option.some.inj H
                    go_enter Tryd.func3, Tryd.ntmps3
                    go_wp2_with (first | ((with_reducible refine gate_callee (f := 4) rfl ?_); refine goesL_ (some 20) rfl rfl Tryd.func4 (by kernel_rfl) rfl #[.slice A0 l0.length c0] rfl (by (try simp only [List.map_toArray, List.map_cons, List.map_nil]); first | done | rfl | (simp only [List.length_drop, List.length_take]; rfl)) ?_; (with_reducible refine (impl_Hash.calls _ _ l0 t168 _ ?side1 ?side2 A6.out).mono ?_); (case side1 => repeat (first | exact HR0.out | (with_reducible refine Kd.C_alloc ?_ _) | (with_reducible refine Kd.C_drewN ?_ _) | (with_reducible refine Kd.C_drew ?_))); (case side2 => exact HC0.out); rintro e w31 ⟨rfl, hb⟩; refine ⟨_, rfl, ?_⟩; have n0_ := Aside0.mk (below_step (by repeat (first | (with_reducible first | exact HB.out | apply below_alloc | apply pw_below_drewN | apply below_drew1) | exact HB.out)) hb); clear HB; have HB := n0_; clear n0_; (try clear hb); (try clear hb2); (try clear hk); (try clear hi)) | ((with_reducible refine gate_callee (f := 5) rfl ?_); refine goesL_ (some 23) rfl rfl Tryd.func5 (by kernel_rfl) rfl #[.string t168] rfl (by (try simp only [List.map_toArray, List.map_cons, List.map_nil]); first | done | rfl | (simp only [List.length_drop, List.length_take]; rfl)) ?_; (with_reducible refine (impl_HashText.calls k t168 t169 t170 _ A7.out).mono ?_); rintro e w32 ⟨rfl, hb⟩; refine ⟨_, rfl, ?_⟩; have n0_ := Aside0.mk (below_step (by repeat (first | (with_reducible first | exact HB.out | apply below_alloc | apply pw_below_drewN | apply below_drew1) | exact HB.out)) hb); clear HB; have HB := n0_; clear n0_; (try clear hb); (try clear hb2); (try clear hk); (try clear hi)) | ((with_reducible refine gate_callee (f := 6) rfl ?_); refine goesL_ (some 28) rfl rfl Tryd.func6 (by kernel_rfl) rfl #[.string t169] rfl (by (try simp only [List.map_toArray, List.map_cons, List.map_nil]); first | done | rfl | (simp only [List.length_drop, List.length_take]; rfl)) ?_; (with_reducible refine (impl_ReadHash.calls k t169 t171 t172 _ A8.out).mono ?_); rintro e w33 ⟨rfl, hb⟩; refine ⟨_, rfl, ?_⟩; have n0_ := Aside0.mk (below_step (by repeat (first | (with_reducible first | exact HB.out | apply below_alloc | apply pw_below_drewN | apply below_drew1) | exact HB.out)) hb); clear HB; have HB := n0_; clear n0_; (try clear hb); (try clear hb2); (try clear hk); (try clear hi)) | ((with_reducible refine gate_callee (f := 7) rfl ?_); refine goesL_ (some 33) rfl rfl Tryd.func7 (by kernel_rfl) rfl #[.string t168] rfl (by (try simp only [List.map_toArray, List.map_cons, List.map_nil]); first | done | rfl | (simp only [List.length_drop, List.length_take]; rfl)) ?_; (with_reducible refine (impl_HashBits.calls k t168 t173 t174 _ A9.out).mono ?_); rintro e w34 ⟨rfl, hb⟩; refine ⟨_, rfl, ?_⟩; have n0_ := Aside0.mk (below_step (by repeat (first | (with_reducible first | exact HB.out | apply below_alloc | apply pw_below_drewN | apply below_drew1) | exact HB.out)) hb); clear HB; have HB := n0_; clear n0_; (try clear hb); (try clear hb2); (try clear hk); (try clear hi)) | (go_at_call 8; (with_reducible refine (spec_Hash.calls _ _ l0 t175 _ ?side1 ?side2 A11.out).mono ?_); (case side1 => repeat (first | exact (Kd.C_below HR0.out HB.out) | (with_reducible refine Kd.C_alloc ?_ _) | (with_reducible refine Kd.C_drewN ?_ _) | (with_reducible refine Kd.C_drew ?_))); (case side2 => exact HC0.out); rintro e w35 ⟨rfl, hb⟩; have n0_ := Aside0.mk (below_step (by repeat (first | (with_reducible first | exact HB.out | apply below_alloc | apply pw_below_drewN | apply below_drew1) | exact HB.out)) hb); clear HB; have HB := n0_; clear n0_; (try clear hb); (try clear hb2); (try clear hk); (try clear hi)))
                    go_ret
                    exact ⟨by first | rfl | (simp [errW_none, errW_some] <;> rfl) | (simp [*, errW_none, errW_some] <;> rfl), by repeat (first | (with_reducible first | exact HB.out | apply below_alloc | apply pw_below_drewN | apply below_drew1) | exact HB.out)⟩
                · rw [if_neg c16] at H
                  have c16b0 : (t171.toList == t168.toList) = false := beq_eq_false_iff_ne.mpr c16
                  have c16b1 : (t171.toList != t168.toList) = true := bne_iff_ne.mpr c16
                  obtain rfl := Option.some.inj H
                  go_enter Tryd.func3, Tryd.ntmps3
                  go_wp2_with (first | ((with_reducible refine gate_callee (f := 4) rfl ?_); refine goesL_ (some 20) rfl rfl Tryd.func4 (by kernel_rfl) rfl #[.slice A0 l0.length c0] rfl (by (try simp only [List.map_toArray, List.map_cons, List.map_nil]); first | done | rfl | (simp only [List.length_drop, List.length_take]; rfl)) ?_; (with_reducible refine (impl_Hash.calls _ _ l0 t168 _ ?side1 ?side2 A6.out).mono ?_); (case side1 => repeat (first | exact HR0.out | (with_reducible refine Kd.C_alloc ?_ _) | (with_reducible refine Kd.C_drewN ?_ _) | (with_reducible refine Kd.C_drew ?_))); (case side2 => exact HC0.out); rintro e w36 ⟨rfl, hb⟩; refine ⟨_, rfl, ?_⟩; have n0_ := Aside0.mk (below_step (by repeat (first | (with_reducible first | exact HB.out | apply below_alloc | apply pw_below_drewN | apply below_drew1) | exact HB.out)) hb); clear HB; have HB := n0_; clear n0_; (try clear hb); (try clear hb2); (try clear hk); (try clear hi)) | ((with_reducible refine gate_callee (f := 5) rfl ?_); refine goesL_ (some 23) rfl rfl Tryd.func5 (by kernel_rfl) rfl #[.string t168] rfl (by (try simp only [List.map_toArray, List.map_cons, List.map_nil]); first | done | rfl | (simp only [List.length_drop, List.length_take]; rfl)) ?_; (with_reducible refine (impl_HashText.calls k t168 t169 t170 _ A7.out).mono ?_); rintro e w37 ⟨rfl, hb⟩; refine ⟨_, rfl, ?_⟩; have n0_ := Aside0.mk (below_step (by repeat (first | (with_reducible first | exact HB.out | apply below_alloc | apply pw_below_drewN | apply below_drew1) | exact HB.out)) hb); clear HB; have HB := n0_; clear n0_; (try clear hb); (try clear hb2); (try clear hk); (try clear hi)) | ((with_reducible refine gate_callee (f := 6) rfl ?_); refine goesL_ (some 28) rfl rfl Tryd.func6 (by kernel_rfl) rfl #[.string t169] rfl (by (try simp only [List.map_toArray, List.map_cons, List.map_nil]); first | done | rfl | (simp only [List.length_drop, List.length_take]; rfl)) ?_; (with_reducible refine (impl_ReadHash.calls k t169 t171 t172 _ A8.out).mono ?_); rintro e w38 ⟨rfl, hb⟩; refine ⟨_, rfl, ?_⟩; have n0_ := Aside0.mk (below_step (by repeat (first | (with_reducible first | exact HB.out | apply below_alloc | apply pw_below_drewN | apply below_drew1) | exact HB.out)) hb); clear HB; have HB := n0_; clear n0_; (try clear hb); (try clear hb2); (try clear hk); (try clear hi)) | ((with_reducible refine gate_callee (f := 7) rfl ?_); refine goesL_ (some 33) rfl rfl Tryd.func7 (by kernel_rfl) rfl #[.string t168] rfl (by (try simp only [List.map_toArray, List.map_cons, List.map_nil]); first | done | rfl | (simp only [List.length_drop, List.length_take]; rfl)) ?_; (with_reducible refine (impl_HashBits.calls k t168 t173 t174 _ A9.out).mono ?_); rintro e w39 ⟨rfl, hb⟩; refine ⟨_, rfl, ?_⟩; have n0_ := Aside0.mk (below_step (by repeat (first | (with_reducible first | exact HB.out | apply below_alloc | apply pw_below_drewN | apply below_drew1) | exact HB.out)) hb); clear HB; have HB := n0_; clear n0_; (try clear hb); (try clear hb2); (try clear hk); (try clear hi)) | (go_at_call 8; (with_reducible refine (spec_Hash.calls _ _ l0 t175 _ ?side1 ?side2 A11.out).mono ?_); (case side1 => repeat (first | exact (Kd.C_below HR0.out HB.out) | (with_reducible refine Kd.C_alloc ?_ _) | (with_reducible refine Kd.C_drewN ?_ _) | (with_reducible refine Kd.C_drew ?_))); (case side2 => exact HC0.out); rintro e w40 ⟨rfl, hb⟩; have n0_ := Aside0.mk (below_step (by repeat (first | (with_reducible first | exact HB.out | apply below_alloc | apply pw_below_drewN | apply below_drew1) | exact HB.out)) hb); clear HB; have HB := n0_; clear n0_; (try clear hb); (try clear hb2); (try clear hk); (try clear hi)))
                  go_ret
                  exact ⟨by first | rfl | (simp [errW_none, errW_some] <;> rfl) | (simp [*, errW_none, errW_some] <;> rfl), by repeat (first | (with_reducible first | exact HB.out | apply below_alloc | apply pw_below_drewN | apply below_drew1) | exact HB.out)⟩
              · rw [if_neg c15] at H
                have c15b0 : (t172 == 0) = false := beq_eq_false_iff_ne.mpr c15
                have c15b1 : (t172 != 0) = true := bne_iff_ne.mpr c15
                obtain rfl := Option.some.inj H
                go_enter Tryd.func3, Tryd.ntmps3
                go_wp2_with (first | ((with_reducible refine gate_callee (f := 4) rfl ?_); refine goesL_ (some 20) rfl rfl Tryd.func4 (by kernel_rfl) rfl #[.slice A0 l0.length c0] rfl (by (try simp only [List.map_toArray, List.map_cons, List.map_nil]); first | done | rfl | (simp only [List.length_drop, List.length_take]; rfl)) ?_; (with_reducible refine (impl_Hash.calls _ _ l0 t168 _ ?side1 ?side2 A6.out).mono ?_); (case side1 => repeat (first | exact HR0.out | (with_reducible refine Kd.C_alloc ?_ _) | (with_reducible refine Kd.C_drewN ?_ _) | (with_reducible refine Kd.C_drew ?_))); (case side2 => exact HC0.out); rintro e w41 ⟨rfl, hb⟩; refine ⟨_, rfl, ?_⟩; have n0_ := Aside0.mk (below_step (by repeat (first | (with_reducible first | exact HB.out | apply below_alloc | apply pw_below_drewN | apply below_drew1) | exact HB.out)) hb); clear HB; have HB := n0_; clear n0_; (try clear hb); (try clear hb2); (try clear hk); (try clear hi)) | ((with_reducible refine gate_callee (f := 5) rfl ?_); refine goesL_ (some 23) rfl rfl Tryd.func5 (by kernel_rfl) rfl #[.string t168] rfl (by (try simp only [List.map_toArray, List.map_cons, List.map_nil]); first | done | rfl | (simp only [List.length_drop, List.length_take]; rfl)) ?_; (with_reducible refine (impl_HashText.calls k t168 t169 t170 _ A7.out).mono ?_); rintro e w42 ⟨rfl, hb⟩; refine ⟨_, rfl, ?_⟩; have n0_ := Aside0.mk (below_step (by repeat (first | (with_reducible first | exact HB.out | apply below_alloc | apply pw_below_drewN | apply below_drew1) | exact HB.out)) hb); clear HB; have HB := n0_; clear n0_; (try clear hb); (try clear hb2); (try clear hk); (try clear hi)) | ((with_reducible refine gate_callee (f := 6) rfl ?_); refine goesL_ (some 28) rfl rfl Tryd.func6 (by kernel_rfl) rfl #[.string t169] rfl (by (try simp only [List.map_toArray, List.map_cons, List.map_nil]); first | done | rfl | (simp only [List.length_drop, List.length_take]; rfl)) ?_; (with_reducible refine (impl_ReadHash.calls k t169 t171 t172 _ A8.out).mono ?_); rintro e w43 ⟨rfl, hb⟩; refine ⟨_, rfl, ?_⟩; have n0_ := Aside0.mk (below_step (by repeat (first | (with_reducible first | exact HB.out | apply below_alloc | apply pw_below_drewN | apply below_drew1) | exact HB.out)) hb); clear HB; have HB := n0_; clear n0_; (try clear hb); (try clear hb2); (try clear hk); (try clear hi)) | ((with_reducible refine gate_callee (f := 7) rfl ?_); refine goesL_ (some 33) rfl rfl Tryd.func7 (by kernel_rfl) rfl #[.string t168] rfl (by (try simp only [List.map_toArray, List.map_cons, List.map_nil]); first | done | rfl | (simp only [List.length_drop, List.length_take]; rfl)) ?_; (with_reducible refine (impl_HashBits.calls k t168 t173 t174 _ A9.out).mono ?_); rintro e w44 ⟨rfl, hb⟩; refine ⟨_, rfl, ?_⟩; have n0_ := Aside0.mk (below_step (by repeat (first | (with_reducible first | exact HB.out | apply below_alloc | apply pw_below_drewN | apply below_drew1) | exact HB.out)) hb); clear HB; have HB := n0_; clear n0_; (try clear hb); (try clear hb2); (try clear hk); (try clear hi)) | (go_at_call 8; (with_reducible refine (spec_Hash.calls _ _ l0 t175 _ ?side1 ?side2 A11.out).mono ?_); (case side1 => repeat (first | exact (Kd.C_below HR0.out HB.out) | (with_reducible refine Kd.C_alloc ?_ _) | (with_reducible refine Kd.C_drewN ?_ _) | (with_reducible refine Kd.C_drew ?_))); (case side2 => exact HC0.out); rintro e w45 ⟨rfl, hb⟩; have n0_ := Aside0.mk (below_step (by repeat (first | (with_reducible first | exact HB.out | apply below_alloc | apply pw_below_drewN | apply below_drew1) | exact HB.out)) hb); clear HB; have HB := n0_; clear n0_; (try clear hb); (try clear hb2); (try clear hk); (try clear hi)))
                go_ret
                exact ⟨by first | rfl | (simp [errW_none, errW_some] <;> rfl) | (simp [*, errW_none, errW_some] <;> rfl), by repeat (first | (with_reducible first | exact HB.out | apply below_alloc | apply pw_below_drewN | apply below_drew1) | exact HB.out)⟩
            · rw [if_neg c14] at H
              have c14b0 : ((t169.size : Int) == 64) = false := beq_eq_false_iff_ne.mpr c14
              have c14b1 : ((t169.size : Int) != 64) = true := bne_iff_ne.mpr c14
              obtain rfl := Option.some.inj H
              go_enter Tryd.func3, Tryd.ntmps3
              go_wp2_with (first | ((with_reducible refine gate_callee (f := 4) rfl ?_); refine goesL_ (some 20) rfl rfl Tryd.func4 (by kernel_rfl) rfl #[.slice A0 l0.length c0] rfl (by (try simp only [List.map_toArray, List.map_cons, List.map_nil]); first | done | rfl | (simp only [List.length_drop, List.length_take]; rfl)) ?_; (with_reducible refine (impl_Hash.calls _ _ l0 t168 _ ?side1 ?side2 A6.out).mono ?_); (case side1 => repeat (first | exact HR0.out | (with_reducible refine Kd.C_alloc ?_ _) | (with_reducible refine Kd.C_drewN ?_ _) | (with_reducible refine Kd.C_drew ?_))); (case side2 => exact HC0.out); rintro e w46 ⟨rfl, hb⟩; refine ⟨_, rfl, ?_⟩; have n0_ := Aside0.mk (below_step (by repeat (first | (with_reducible first | exact HB.out | apply below_alloc | apply pw_below_drewN | apply below_drew1) | exact HB.out)) hb); clear HB; have HB := n0_; clear n0_; (try clear hb); (try clear hb2); (try clear hk); (try clear hi)) | ((with_reducible refine gate_callee (f := 5) rfl ?_); refine goesL_ (some 23) rfl rfl Tryd.func5 (by kernel_rfl) rfl #[.string t168] rfl (by (try simp only [List.map_toArray, List.map_cons, List.map_nil]); first | done | rfl | (simp only [List.length_drop, List.length_take]; rfl)) ?_; (with_reducible refine (impl_HashText.calls k t168 t169 t170 _ A7.out).mono ?_); rintro e w47 ⟨rfl, hb⟩; refine ⟨_, rfl, ?_⟩; have n0_ := Aside0.mk (below_step (by repeat (first | (with_reducible first | exact HB.out | apply below_alloc | apply pw_below_drewN | apply below_drew1) | exact HB.out)) hb); clear HB; have HB := n0_; clear n0_; (try clear hb); (try clear hb2); (try clear hk); (try clear hi)) | ((with_reducible refine gate_callee (f := 6) rfl ?_); refine goesL_ (some 28) rfl rfl Tryd.func6 (by kernel_rfl) rfl #[.string t169] rfl (by (try simp only [List.map_toArray, List.map_cons, List.map_nil]); first | done | rfl | (simp only [List.length_drop, List.length_take]; rfl)) ?_; (with_reducible refine (impl_ReadHash.calls k t169 t171 t172 _ A8.out).mono ?_); rintro e w48 ⟨rfl, hb⟩; refine ⟨_, rfl, ?_⟩; have n0_ := Aside0.mk (below_step (by repeat (first | (with_reducible first | exact HB.out | apply below_alloc | apply pw_below_drewN | apply below_drew1) | exact HB.out)) hb); clear HB; have HB := n0_; clear n0_; (try clear hb); (try clear hb2); (try clear hk); (try clear hi)) | ((with_reducible refine gate_callee (f := 7) rfl ?_); refine goesL_ (some 33) rfl rfl Tryd.func7 (by kernel_rfl) rfl #[.string t168] rfl (by (try simp only [List.map_toArray, List.map_cons, List.map_nil]); first | done | rfl | (simp only [List.length_drop, List.length_take]; rfl)) ?_; (with_reducible refine (impl_HashBits.calls k t168 t173 t174 _ A9.out).mono ?_); rintro e w49 ⟨rfl, hb⟩; refine ⟨_, rfl, ?_⟩; have n0_ := Aside0.mk (below_step (by repeat (first | (with_reducible first | exact HB.out | apply below_alloc | apply pw_below_drewN | apply below_drew1) | exact HB.out)) hb); clear HB; have HB := n0_; clear n0_; (try clear hb); (try clear hb2); (try clear hk); (try clear hi)) | (go_at_call 8; (with_reducible refine (spec_Hash.calls _ _ l0 t175 _ ?side1 ?side2 A11.out).mono ?_); (case side1 => repeat (first | exact (Kd.C_below HR0.out HB.out) | (with_reducible refine Kd.C_alloc ?_ _) | (with_reducible refine Kd.C_drewN ?_ _) | (with_reducible refine Kd.C_drew ?_))); (case side2 => exact HC0.out); rintro e w50 ⟨rfl, hb⟩; have n0_ := Aside0.mk (below_step (by repeat (first | (with_reducible first | exact HB.out | apply below_alloc | apply pw_below_drewN | apply below_drew1) | exact HB.out)) hb); clear HB; have HB := n0_; clear n0_; (try clear hb); (try clear hb2); (try clear hk); (try clear hi)))
              go_ret
              exact ⟨by first | rfl | (simp [errW_none, errW_some] <;> rfl) | (simp [*, errW_none, errW_some] <;> rfl), by repeat (first | (with_reducible first | exact HB.out | apply below_alloc | apply pw_below_drewN | apply below_drew1) | exact HB.out)⟩
          · rw [if_neg c13] at H
            have c13b0 : (t170 == 0) = false := beq_eq_false_iff_ne.mpr c13
            have c13b1 : (t170 != 0) = true := bne_iff_ne.mpr c13
            obtain rfl := Option.some.inj H
            go_enter Tryd.func3, Tryd.ntmps3
            go_wp2_with (first | ((with_reducible refine gate_callee (f := 4) rfl ?_); refine goesL_ (some 20) rfl rfl Tryd.func4 (by kernel_rfl) rfl #[.slice A0 l0.length c0] rfl (by (try simp only [List.map_toArray, List.map_cons, List.map_nil]); first | done | rfl | (simp only [List.length_drop, List.length_take]; rfl)) ?_; (with_reducible refine (impl_Hash.calls _ _ l0 t168 _ ?side1 ?side2 A6.out).mono ?_); (case side1 => repeat (first | exact HR0.out | (with_reducible refine Kd.C_alloc ?_ _) | (with_reducible refine Kd.C_drewN ?_ _) | (with_reducible refine Kd.C_drew ?_))); (case side2 => exact HC0.out); rintro e w51 ⟨rfl, hb⟩; refine ⟨_, rfl, ?_⟩; have n0_ := Aside0.mk (below_step (by repeat (first | (with_reducible first | exact HB.out | apply below_alloc | apply pw_below_drewN | apply below_drew1) | exact HB.out)) hb); clear HB; have HB := n0_; clear n0_; (try clear hb); (try clear hb2); (try clear hk); (try clear hi)) | ((with_reducible refine gate_callee (f := 5) rfl ?_); refine goesL_ (some 23) rfl rfl Tryd.func5 (by kernel_rfl) rfl #[.string t168] rfl (by (try simp only [List.map_toArray, List.map_cons, List.map_nil]); first | done | rfl | (simp only [List.length_drop, List.length_take]; rfl)) ?_; (with_reducible refine (impl_HashText.calls k t168 t169 t170 _ A7.out).mono ?_); rintro e w52 ⟨rfl, hb⟩; refine ⟨_, rfl, ?_⟩; have n0_ := Aside0.mk (below_step (by repeat (first | (with_reducible first | exact HB.out | apply below_alloc | apply pw_below_drewN | apply below_drew1) | exact HB.out)) hb); clear HB; have HB := n0_; clear n0_; (try clear hb); (try clear hb2); (try clear hk); (try clear hi)) | ((with_reducible refine gate_callee (f := 6) rfl ?_); refine goesL_ (some 28) rfl rfl Tryd.func6 (by kernel_rfl) rfl #[.string t169] rfl (by (try simp only [List.map_toArray, List.map_cons, List.map_nil]); first | done | rfl | (simp only [List.length_drop, List.length_take]; rfl)) ?_; (with_reducible refine (impl_ReadHash.calls k t169 t171 t172 _ A8.out).mono ?_); rintro e w53 ⟨rfl, hb⟩; refine ⟨_, rfl, ?_⟩; have n0_ := Aside0.mk (below_step (by repeat (first | (with_reducible first | exact HB.out | apply below_alloc | apply pw_below_drewN | apply below_drew1) | exact HB.out)) hb); clear HB; have HB := n0_; clear n0_; (try clear hb); (try clear hb2); (try clear hk); (try clear hi)) | ((with_reducible refine gate_callee (f := 7) rfl ?_); refine goesL_ (some 33) rfl rfl Tryd.func7 (by kernel_rfl) rfl #[.string t168] rfl (by (try simp only [List.map_toArray, List.map_cons, List.map_nil]); first | done | rfl | (simp only [List.length_drop, List.length_take]; rfl)) ?_; (with_reducible refine (impl_HashBits.calls k t168 t173 t174 _ A9.out).mono ?_); rintro e w54 ⟨rfl, hb⟩; refine ⟨_, rfl, ?_⟩; have n0_ := Aside0.mk (below_step (by repeat (first | (with_reducible first | exact HB.out | apply below_alloc | apply pw_below_drewN | apply below_drew1) | exact HB.out)) hb); clear HB; have HB := n0_; clear n0_; (try clear hb); (try clear hb2); (try clear hk); (try clear hi)) | (go_at_call 8; (with_reducible refine (spec_Hash.calls _ _ l0 t175 _ ?side1 ?side2 A11.out).mono ?_); (case side1 => repeat (first | exact (Kd.C_below HR0.out HB.out) | (with_reducible refine Kd.C_alloc ?_ _) | (with_reducible refine Kd.C_drewN ?_ _) | (with_reducible refine Kd.C_drew ?_))); (case side2 => exact HC0.out); rintro e w55 ⟨rfl, hb⟩; have n0_ := Aside0.mk (below_step (by repeat (first | (with_reducible first | exact HB.out | apply below_alloc | apply pw_below_drewN | apply below_drew1) | exact HB.out)) hb); clear HB; have HB := n0_; clear n0_; (try clear hb); (try clear hb2); (try clear hk); (try clear hi)))
            go_ret
            exact ⟨by first | rfl | (simp [errW_none, errW_some] <;> rfl) | (simp [*, errW_none, errW_some] <;> rfl), by repeat (first | (with_reducible first | exact HB.out | apply below_alloc | apply pw_below_drewN | apply below_drew1) | exact HB.out)⟩
        · rw [if_neg c12] at H
          have c12b0 : (t168.toList == t175.toList) = false := beq_eq_false_iff_ne.mpr c12
          have c12b1 : (t168.toList != t175.toList) = true := bne_iff_ne.mpr c12
          obtain rfl := Option.some.inj H
          go_enter Tryd.func3, Tryd.ntmps3
          go_wp2_with (first | ((with_reducible refine gate_callee (f := 4) rfl ?_); refine goesL_ (some 20) rfl rfl Tryd.func4 (by kernel_rfl) rfl #[.slice A0 l0.length c0] rfl (by (try simp only [List.map_toArray, List.map_cons, List.map_nil]); first | done | rfl | (simp only [List.length_drop, List.length_take]; rfl)) ?_; (with_reducible refine (impl_Hash.calls _ _ l0 t168 _ ?side1 ?side2 A6.out).mono ?_); (case side1 => repeat (first | exact HR0.out | (with_reducible refine Kd.C_alloc ?_ _) | (with_reducible refine Kd.C_drewN ?_ _) | (with_reducible refine Kd.C_drew ?_))); (case side2 => exact HC0.out); rintro e w56 ⟨rfl, hb⟩; refine ⟨_, rfl, ?_⟩; have n0_ := Aside0.mk (below_step (by repeat (first | (with_reducible first | exact HB.out | apply below_alloc | apply pw_below_drewN | apply below_drew1) | exact HB.out)) hb); clear HB; have HB := n0_; clear n0_; (try clear hb); (try clear hb2); (try clear hk); (try clear hi)) | ((with_reducible refine gate_callee (f := 5) rfl ?_); refine goesL_ (some 23) rfl rfl Tryd.func5 (by kernel_rfl) rfl #[.string t168] rfl (by (try simp only [List.map_toArray, List.map_cons, List.map_nil]); first | done | rfl | (simp only [List.length_drop, List.length_take]; rfl)) ?_; (with_reducible refine (impl_HashText.calls k t168 t169 t170 _ A7.out).mono ?_); rintro e w57 ⟨rfl, hb⟩; refine ⟨_, rfl, ?_⟩; have n0_ := Aside0.mk (below_step (by repeat (first | (with_reducible first | exact HB.out | apply below_alloc | apply pw_below_drewN | apply below_drew1) | exact HB.out)) hb); clear HB; have HB := n0_; clear n0_; (try clear hb); (try clear hb2); (try clear hk); (try clear hi)) | ((with_reducible refine gate_callee (f := 6) rfl ?_); refine goesL_ (some 28) rfl rfl Tryd.func6 (by kernel_rfl) rfl #[.string t169] rfl (by (try simp only [List.map_toArray, List.map_cons, List.map_nil]); first | done | rfl | (simp only [List.length_drop, List.length_take]; rfl)) ?_; (with_reducible refine (impl_ReadHash.calls k t169 t171 t172 _ A8.out).mono ?_); rintro e w58 ⟨rfl, hb⟩; refine ⟨_, rfl, ?_⟩; have n0_ := Aside0.mk (below_step (by repeat (first | (with_reducible first | exact HB.out | apply below_alloc | apply pw_below_drewN | apply below_drew1) | exact HB.out)) hb); clear HB; have HB := n0_; clear n0_; (try clear hb); (try clear hb2); (try clear hk); (try clear hi)) | ((with_reducible refine gate_callee (f := 7) rfl ?_); refine goesL_ (some 33) rfl rfl Tryd.func7 (by kernel_rfl) rfl #[.string t168] rfl (by (try simp only [List.map_toArray, List.map_cons, List.map_nil]); first | done | rfl | (simp only [List.length_drop, List.length_take]; rfl)) ?_; (with_reducible refine (impl_HashBits.calls k t168 t173 t174 _ A9.out).mono ?_); rintro e w59 ⟨rfl, hb⟩; refine ⟨_, rfl, ?_⟩; have n0_ := Aside0.mk (below_step (by repeat (first | (with_reducible first | exact HB.out | apply below_alloc | apply pw_below_drewN | apply below_drew1) | exact HB.out)) hb); clear HB; have HB := n0_; clear n0_; (try clear hb); (try clear hb2); (try clear hk); (try clear hi)) | (go_at_call 8; (with_reducible refine (spec_Hash.calls _ _ l0 t175 _ ?side1 ?side2 A11.out).mono ?_); (case side1 => repeat (first | exact (Kd.C_below HR0.out HB.out) | (with_reducible refine Kd.C_alloc ?_ _) | (with_reducible refine Kd.C_drewN ?_ _) | (with_reducible refine Kd.C_drew ?_))); (case side2 => exact HC0.out); rintro e w60 ⟨rfl, hb⟩; have n0_ := Aside0.mk (below_step (by repeat (first | (with_reducible first | exact HB.out | apply below_alloc | apply pw_below_drewN | apply below_drew1) | exact HB.out)) hb); clear HB; have HB := n0_; clear n0_; (try clear hb); (try clear hb2); (try clear hk); (try clear hi)))
          go_ret
          exact ⟨by first | rfl | (simp [errW_none, errW_some] <;> rfl) | (simp [*, errW_none, errW_some] <;> rfl), by repeat (first | (with_reducible first | exact HB.out | apply below_alloc | apply pw_below_drewN | apply below_drew1) | exact HB.out)⟩
      · rw [if_neg c10] at H
        have c10b0 : ((t168.size : Int) == 32) = false := beq_eq_false_iff_ne.mpr c10
        have c10b1 : ((t168.size : Int) != 32) = true := bne_iff_ne.mpr c10
        obtain rfl := Option.some.inj H
        go_enter Tryd.func3, Tryd.ntmps3
        go_wp2_with (first | ((with_reducible refine gate_callee (f := 4) rfl ?_); refine goesL_ (some 20) rfl rfl Tryd.func4 (by kernel_rfl) rfl #[.slice A0 l0.length c0] rfl (by (try simp only [List.map_toArray, List.map_cons, List.map_nil]); first | done | rfl | (simp only [List.length_drop, List.length_take]; rfl)) ?_; (with_reducible refine (impl_Hash.calls _ _ l0 t168 _ ?side1 ?side2 A6.out).mono ?_); (case side1 => repeat (first | exact HR0.out | (with_reducible refine Kd.C_alloc ?_ _) | (with_reducible refine Kd.C_drewN ?_ _) | (with_reducible refine Kd.C_drew ?_))); (case side2 => exact HC0.out); rintro e w61 ⟨rfl, hb⟩; refine ⟨_, rfl, ?_⟩; have n0_ := Aside0.mk (below_step (by repeat (first | (with_reducible first | exact HB.out | apply below_alloc | apply pw_below_drewN | apply below_drew1) | exact HB.out)) hb); clear HB; have HB := n0_; clear n0_; (try clear hb); (try clear hb2); (try clear hk); (try clear hi)) | ((with_reducible refine gate_callee (f := 5) rfl ?_); refine goesL_ (some 23) rfl rfl Tryd.func5 (by kernel_rfl) rfl #[.string t168] rfl (by (try simp only [List.map_toArray, List.map_cons, List.map_nil]); first | done | rfl | (simp only [List.length_drop, List.length_take]; rfl)) ?_; (with_reducible refine (impl_HashText.calls k t168 t169 t170 _ A7.out).mono ?_); rintro e w62 ⟨rfl, hb⟩; refine ⟨_, rfl, ?_⟩; have n0_ := Aside0.mk (below_step (by repeat (first | (with_reducible first | exact HB.out | apply below_alloc | apply pw_below_drewN | apply below_drew1) | exact HB.out)) hb); clear HB; have HB := n0_; clear n0_; (try clear hb); (try clear hb2); (try clear hk); (try clear hi)) | ((with_reducible refine gate_callee (f := 6) rfl ?_); refine goesL_ (some 28) rfl rfl Tryd.func6 (by kernel_rfl) rfl #[.string t169] rfl (by (try simp only [List.map_toArray, List.map_cons, List.map_nil]); first | done | rfl | (simp only [List.length_drop, List.length_take]; rfl)) ?_; (with_reducible refine (impl_ReadHash.calls k t169 t171 t172 _ A8.out).mono ?_); rintro e w63 ⟨rfl, hb⟩; refine ⟨_, rfl, ?_⟩; have n0_ := Aside0.mk (below_step (by repeat (first | (with_reducible first | exact HB.out | apply below_alloc | apply pw_below_drewN | apply below_drew1) | exact HB.out)) hb); clear HB; have HB := n0_; clear n0_; (try clear hb); (try clear hb2); (try clear hk); (try clear hi)) | ((with_reducible refine gate_callee (f := 7) rfl ?_); refine goesL_ (some 33) rfl rfl Tryd.func7 (by kernel_rfl) rfl #[.string t168] rfl (by (try simp only [List.map_toArray, List.map_cons, List.map_nil]); first | done | rfl | (simp only [List.length_drop, List.length_take]; rfl)) ?_; (with_reducible refine (impl_HashBits.calls k t168 t173 t174 _ A9.out).mono ?_); rintro e w64 ⟨rfl, hb⟩; refine ⟨_, rfl, ?_⟩; have n0_ := Aside0.mk (below_step (by repeat (first | (with_reducible first | exact HB.out | apply below_alloc | apply pw_below_drewN | apply below_drew1) | exact HB.out)) hb); clear HB; have HB := n0_; clear n0_; (try clear hb); (try clear hb2); (try clear hk); (try clear hi)))
        go_ret
        exact ⟨by first | rfl | (simp [errW_none, errW_some] <;> rfl) | (simp [*, errW_none, errW_some] <;> rfl), by repeat (first | (with_reducible first | exact HB.out | apply below_alloc | apply pw_below_drewN | apply below_drew1) | exact HB.out)⟩

end Go.Proofs.YtggemblkhckbpaaDoor.Q

/- Words of 32 bits: the program's operations on them, as operations on bit vectors. -/
namespace Go.Proofs.YtggemblkhckbpaaDoor.U
open Go Go.RowKit Go.Proofs.YtggemblkhckbpaaDoorW.PrintWords Go.Proofs.YtggemblkhckbpaaDoorW.PrintMore
set_option linter.unusedVariables false
set_option linter.unusedSimpArgs false

def u32 (b : BitVec 32) : Int := (b.toNat : Int)
theorem u32_bd (b : BitVec 32) : 0 ≤ u32 b ∧ u32 b < 4294967296 := by
  unfold u32
  have := b.isLt
  omega
theorem u32_wrap (n : Int) : IntKind.u32.wrap n = n % 4294967296 := rfl
theorem u32_nat (n : Nat) : IntKind.u32.wrap (n : Int) = u32 (BitVec.ofNat 32 n) := by
  rw [u32_wrap]
  unfold u32
  rw [BitVec.toNat_ofNat]
  omega
theorem int_b32 (b : BitVec 32) : BitVec.ofInt 32 (u32 b) = b := by
  unfold u32
  apply BitVec.eq_of_toNat_eq
  rw [BitVec.toNat_ofInt]
  have := b.isLt
  omega
theorem of32 (b : BitVec 32) : IntKind.u32.wrap ((b.toNat : Nat) : Int) = u32 b := by rw [u32_nat, BitVec.ofNat_toNat, BitVec.setWidth_eq]
theorem and32 (a b : BitVec 32) : Go.bits .and .u32 (u32 a) (u32 b) = u32 (a &&& b) := by
  show IntKind.u32.wrap (((BitVec.ofInt 32 (u32 a) &&& BitVec.ofInt 32 (u32 b)).toNat : Nat) : Int) = _
  rw [int_b32, int_b32, of32]
theorem or32 (a b : BitVec 32) : Go.bits .or .u32 (u32 a) (u32 b) = u32 (a ||| b) := by
  show IntKind.u32.wrap (((BitVec.ofInt 32 (u32 a) ||| BitVec.ofInt 32 (u32 b)).toNat : Nat) : Int) = _
  rw [int_b32, int_b32, of32]
theorem xor32 (a b : BitVec 32) : Go.bits .xor .u32 (u32 a) (u32 b) = u32 (a ^^^ b) := by
  show IntKind.u32.wrap (((BitVec.ofInt 32 (u32 a) ^^^ BitVec.ofInt 32 (u32 b)).toNat : Nat) : Int) = _
  rw [int_b32, int_b32, of32]
theorem add32 (a b : BitVec 32) : IntKind.u32.wrap (u32 a + u32 b) = u32 (a + b) := by
  unfold u32
  rw [← Int.natCast_add, u32_nat]
  unfold u32
  rw [BitVec.toNat_ofNat, BitVec.toNat_add]
theorem shl32 (a : BitVec 32) (n : Nat) (h : n ≤ 32) : shl .u32 (u32 a) (n : Int) = u32 (a <<< n) := by
  unfold shl
  have e : IntKind.u32.bits = 32 := rfl
  rw [e, Int.toNat_natCast, Nat.min_eq_left h]
  unfold u32
  have e2 : ((a.toNat : Int) * 2 ^ n) = ((a.toNat * 2 ^ n : Nat) : Int) := by push_cast; rfl
  rw [e2, u32_nat]
  unfold u32
  rw [BitVec.toNat_ofNat, BitVec.toNat_shiftLeft, Nat.shiftLeft_eq]
theorem shr32 (a : BitVec 32) (n : Nat) (h : n ≤ 32) : shr .u32 (u32 a) (n : Int) = u32 (a >>> n) := by
  unfold shr
  have e : IntKind.u32.bits = 32 := rfl
  rw [e, Int.toNat_natCast, Nat.min_eq_left h]
  unfold u32
  rw [BitVec.toNat_ushiftRight, Nat.shiftRight_eq_div_pow]
  push_cast
  rfl
theorem not32 (a : BitVec 32) : IntKind.u32.wrap (-(u32 a) - 1) = u32 (~~~a) := by
  rw [u32_wrap]
  unfold u32
  rw [BitVec.toNat_not]
  have := a.isLt
  omega
theorem ch32 (e f g : BitVec 32) : (e &&& f) ||| (~~~e &&& g) = (e &&& f) ^^^ (~~~e &&& g) := by
  apply BitVec.eq_of_getLsbD_eq
  intro i hi
  simp only [BitVec.getLsbD_or, BitVec.getLsbD_and, BitVec.getLsbD_xor, BitVec.getLsbD_not]
  cases e.getLsbD i <;> cases f.getLsbD i <;> cases g.getLsbD i <;> simp [hi]
theorem maj32 (a b c : BitVec 32) : (a &&& b) ||| (a &&& c) ||| (b &&& c) = (a &&& b) ^^^ (a &&& c) ^^^ (b &&& c) := by
  apply BitVec.eq_of_getLsbD_eq
  intro i hi
  simp only [BitVec.getLsbD_or, BitVec.getLsbD_and, BitVec.getLsbD_xor]
  cases a.getLsbD i <;> cases b.getLsbD i <;> cases c.getLsbD i <;> rfl
end Go.Proofs.YtggemblkhckbpaaDoor.U

/- The hash of the program and the hash of the reference are one. -/
namespace Go.Proofs.YtggemblkhckbpaaDoor.U
open Go Go.RowKit Go.Proofs.YtggemblkhckbpaaDoor.Q Go.Proofs.YtggemblkhckbpaaDoorW.PrintWords Go.Proofs.YtggemblkhckbpaaDoorW.PrintLast Go.Proofs.YtggemblkhckbpaaDoorW.PrintMore
set_option linter.unusedVariables false
set_option linter.unusedSimpArgs false

theorem bits_of (op : BinOp) (x y : Int) (f : BitVec 32 → BitVec 32 → BitVec 32) (h : ∀ a b : BitVec 32, Go.bits op .u32 (u32 a) (u32 b) = u32 (f a b)) (hd : Go.bits op .u32 x y = Go.bits op .u32 (u32 (BitVec.ofInt 32 x)) (u32 (BitVec.ofInt 32 y))) : Go.bits op .u32 x y = u32 (f (BitVec.ofInt 32 x) (BitVec.ofInt 32 y)) := hd.trans (h _ _)
theorem andI (x y : Int) : Go.bits .and .u32 x y = u32 (BitVec.ofInt 32 x &&& BitVec.ofInt 32 y) := by
  show IntKind.u32.wrap (((BitVec.ofInt 32 x &&& BitVec.ofInt 32 y).toNat : Nat) : Int) = _
  rw [of32]
theorem orI (x y : Int) : Go.bits .or .u32 x y = u32 (BitVec.ofInt 32 x ||| BitVec.ofInt 32 y) := by
  show IntKind.u32.wrap (((BitVec.ofInt 32 x ||| BitVec.ofInt 32 y).toNat : Nat) : Int) = _
  rw [of32]
theorem xorI (x y : Int) : Go.bits .xor .u32 x y = u32 (BitVec.ofInt 32 x ^^^ BitVec.ofInt 32 y) := by
  show IntKind.u32.wrap (((BitVec.ofInt 32 x ^^^ BitVec.ofInt 32 y).toNat : Nat) : Int) = _
  rw [of32]
theorem turn_eq (x n : Int) : turnV x n = sturnV x n := by
  unfold turnV sturnV
  rw [orI, orI, BitVec.or_comm]
theorem not_bits (a : BitVec 32) : BitVec.ofInt 32 IntKind.u32.max ^^^ a = ~~~a := by
  have e : BitVec.ofInt 32 IntKind.u32.max = BitVec.allOnes 32 := by decide
  rw [e]
  exact BitVec.allOnes_xor
theorem ch_eq (e f g : Int) : Go.bits .or .u32 (Go.bits .and .u32 e f) (Go.bits .and .u32 (Go.bits .xor .u32 IntKind.u32.max e) g) = Go.bits .xor .u32 (Go.bits .and .u32 e f) (Go.bits .and .u32 (Go.bits .xor .u32 IntKind.u32.max e) g) := by
  rw [andI, xorI, andI, or32, xor32, int_b32, not_bits, ch32]
theorem maj_eq (a b c : Int) : Go.bits .or .u32 (Go.bits .or .u32 (Go.bits .and .u32 a b) (Go.bits .and .u32 a c)) (Go.bits .and .u32 b c) = Go.bits .xor .u32 (Go.bits .xor .u32 (Go.bits .and .u32 a b) (Go.bits .and .u32 a c)) (Go.bits .and .u32 b c) := by
  rw [andI, andI, andI, or32, or32, xor32, xor32, maj32]
theorem p5_eq (K W v : List Int) (i : Nat) : impl_blockHash.p5 K W v i = spec_l01Block.p5 K W v i := by
  unfold impl_blockHash.p5 spec_l01Block.p5
  rw [ch_eq, turn_eq, turn_eq, turn_eq]
theorem q5_eq (v : List Int) : impl_blockHash.q5 v = spec_l01Block.q5 v := by
  unfold impl_blockHash.q5 spec_l01Block.q5
  rw [maj_eq, turn_eq, turn_eq, turn_eq]
theorem step_eq (K W v : List Int) (i : Nat) : impl_blockHash.step K W v i = spec_l01Block.step K W v i := by
  unfold impl_blockHash.step spec_l01Block.step
  rw [p5_eq, q5_eq]
  generalize spec_l01Block.p5 K W v i = p
  generalize spec_l01Block.q5 v = q
  rw [show (p % 4294967296 + q % 4294967296) % 4294967296 = (p + q) % 4294967296 by omega, show (rd v 3 + p % 4294967296) % 4294967296 = (rd v 3 + p) % 4294967296 by omega]
theorem rounds_eq (K W v : List Int) : ∀ i, impl_blockHash.rounds K W v i = spec_l01Block.rounds K W v i
  | 0 => rfl
  | i + 1 => by unfold impl_blockHash.rounds spec_l01Block.rounds; rw [rounds_eq K W v i, step_eq]
theorem sg_eq (x a b c : Int) : impl_wordsOf.sg x a b c = spec_l01Block.sg x a b c := by
  unfold impl_wordsOf.sg spec_l01Block.sg
  rw [turn_eq, turn_eq]
theorem upto_eq (b : ByteArray) (B : List Int) (h : ∀ j : Nat, j < 64 → bt b (j : Int) = rd B (j : Int)) : ∀ i, impl_wordsOf.upto b i = spec_l01Block.upto B i
  | 0 => rfl
  | i + 1 => by
    unfold impl_wordsOf.upto spec_l01Block.upto
    rw [upto_eq b B h i]
    congr 1
    unfold impl_wordsOf.at spec_l01Block.at
    by_cases hi : i < 16
    · rw [if_pos hi, if_pos hi]
      unfold impl_wordsOf.wd spec_l01Block.wd
      have h0 := h (4 * i) (by omega)
      have h1 := h (4 * i + 1) (by omega)
      have h2 := h (4 * i + 2) (by omega)
      have h3 := h (4 * i + 3) (by omega)
      rw [show ((4 * i : Nat) : Int) = 4 * (i : Int) by omega] at h0
      rw [show ((4 * i + 1 : Nat) : Int) = 4 * (i : Int) + 1 by omega] at h1
      rw [show ((4 * i + 2 : Nat) : Int) = 4 * (i : Int) + 2 by omega] at h2
      rw [show ((4 * i + 3 : Nat) : Int) = 4 * (i : Int) + 3 by omega] at h3
      rw [h0, h1, h2, h3]
    · rw [if_neg hi, if_neg hi, sg_eq, sg_eq]
theorem eight (l : List Int) (h : l.length = 8) : ∃ a b c d e f g i, l = [a, b, c, d, e, f, g, i] := by
  match l, h with
  | [a, b, c, d, e, f, g, i], _ => exact ⟨a, b, c, d, e, f, g, i, rfl⟩
theorem adds_comm (x y : List Int) (hx : x.length = 8) (hy : y.length = 8) : impl_blockHash.adds x y 8 = impl_blockHash.adds y x 8 := by
  obtain ⟨a, b, c, d, e, f, g, i, rfl⟩ := eight x hx
  obtain ⟨a', b', c', d', e', f', g', i', rfl⟩ := eight y hy
  show [(a + a') % 4294967296, (b + b') % 4294967296, (c + c') % 4294967296, (d + d') % 4294967296, (e + e') % 4294967296, (f + f') % 4294967296, (g + g') % 4294967296, (i + i') % 4294967296] = [(a' + a) % 4294967296, (b' + b) % 4294967296, (c' + c) % 4294967296, (d' + d) % 4294967296, (e' + e) % 4294967296, (f' + f) % 4294967296, (g' + g) % 4294967296, (i' + i) % 4294967296]
  rw [Int.add_comm a, Int.add_comm b, Int.add_comm c, Int.add_comm d, Int.add_comm e, Int.add_comm f, Int.add_comm g, Int.add_comm i]
theorem block_eq (H K : List Int) (b : ByteArray) (B : List Int) (hH : H.length = 8) (h : ∀ j : Nat, j < 64 → bt b (j : Int) = rd B (j : Int)) : impl_blockHash.out H K b = spec_l01Block.v H B K := by
  unfold impl_blockHash.out spec_l01Block.v
  rw [rounds_eq, upto_eq b B h]
  exact adds_comm _ _ (spec_l01Block.rounds_len _ _ _ hH 64) hH
end Go.Proofs.YtggemblkhckbpaaDoor.U

/- The hash of the program and the hash of the reference are one: whole texts. -/
namespace Go.Proofs.YtggemblkhckbpaaDoor.U
open Go Go.RowKit Go.Proofs.YtggemblkhckbpaaDoor.Q Go.Proofs.YtggemblkhckbpaaDoorW.PrintWords Go.Proofs.YtggemblkhckbpaaDoorW.PrintLast Go.Proofs.YtggemblkhckbpaaDoorW.PrintMore
set_option linter.unusedVariables false
set_option linter.unusedSimpArgs false

/-- The bytes of a text as numbers. -/
def bytesI (s : ByteArray) : List Int := s.data.toList.map fun b => (b.toNat : Int)
theorem bytesI_len (s : ByteArray) : (bytesI s).length = s.size := by unfold bytesI; rw [List.length_map, Array.length_toList]; rfl
theorem bt_bytes (s : ByteArray) (j : Nat) : bt s (j : Int) = rd (bytesI s) (j : Int) := by
  show (if h : ((j : Int)).toNat < s.size then ((s[((j : Int)).toNat]'h).toNat : Int) else 0) = (bytesI s).getD ((j : Int)).toNat 0
  rw [Int.toNat_natCast, List.getD_eq_getElem?_getD]
  unfold bytesI
  rw [List.getElem?_map]
  by_cases h : j < s.size
  · rw [dif_pos h]
    have h2 : j < s.data.toList.length := by rw [Array.length_toList]; exact h
    rw [List.getElem?_eq_getElem h2]
    rfl
  · rw [dif_neg h]
    have h2 : s.data.toList.length ≤ j := by rw [Array.length_toList]; exact Nat.le_of_not_lt h
    rw [List.getElem?_eq_none h2]
    rfl
theorem bytesI_append (a b : ByteArray) : bytesI (a ++ b) = bytesI a ++ bytesI b := by
  unfold bytesI
  rw [← List.map_append]
  congr 1
theorem bytesI_nums (l : List Int) (h : ∀ x ∈ l, 0 ≤ x ∧ x < 256) : bytesI (strOfNums l) = l := by
  unfold bytesI strOfNums
  simp only [List.map_map]
  conv => rhs; rw [← List.map_id l]
  apply List.map_congr_left
  intro x hx
  have := h x hx
  simp only [Function.comp, id]
  have e : (UInt8.ofNat x.toNat).toNat = x.toNat := by
    rw [UInt8.toNat_ofNat']
    omega
  rw [e]
  omega
theorem bytesI_zeros (n : Nat) : bytesI (impl_hash.zeros n) = List.replicate n 0 := by
  have key : ∀ n : Nat, (Lib.repeatL [(0 : UInt8)] n).map (fun b => (b.toNat : Int)) = List.replicate n 0 := by
    intro n
    induction n with
    | zero => rfl
    | succ n ih =>
      show ([(0 : UInt8)] ++ Lib.repeatL [(0 : UInt8)] n).map _ = _
      rw [List.map_append, ih, List.replicate_succ]
      rfl
  exact key n
theorem bytesI_n8 (n : Nat) : bytesI (impl_hash.n8 (8 * (n : Int))) = spec_l01Hash.lb n 8 := by
  unfold impl_hash.n8
  rw [bytesI_nums]
  · show _ = [8 * (n : Int) / 2 ^ (8 * (7 - 0)) % 256, 8 * (n : Int) / 2 ^ (8 * (7 - 1)) % 256, 8 * (n : Int) / 2 ^ (8 * (7 - 2)) % 256, 8 * (n : Int) / 2 ^ (8 * (7 - 3)) % 256, 8 * (n : Int) / 2 ^ (8 * (7 - 4)) % 256, 8 * (n : Int) / 2 ^ (8 * (7 - 5)) % 256, 8 * (n : Int) / 2 ^ (8 * (7 - 6)) % 256, 8 * (n : Int) / 2 ^ (8 * (7 - 7)) % 256]
    generalize 8 * (n : Int) = x
    have p0 : (2 : Int) ^ (8 * (7 - 0)) = 72057594037927936 := by rfl
    have p1 : (2 : Int) ^ (8 * (7 - 1)) = 281474976710656 := by rfl
    have p2 : (2 : Int) ^ (8 * (7 - 2)) = 1099511627776 := by rfl
    have p3 : (2 : Int) ^ (8 * (7 - 3)) = 4294967296 := by rfl
    have p4 : (2 : Int) ^ (8 * (7 - 4)) = 16777216 := by rfl
    have p5 : (2 : Int) ^ (8 * (7 - 5)) = 65536 := by rfl
    have p6 : (2 : Int) ^ (8 * (7 - 6)) = 256 := by rfl
    have p7 : (2 : Int) ^ (8 * (7 - 7)) = 1 := by rfl
    rw [p0, p1, p2, p3, p4, p5, p6, p7]
    have q0 : x / 256 / 256 / 256 / 256 / 256 / 256 / 256 % 256 = x / 72057594037927936 % 256 := by omega
    have q1 : x / 256 / 256 / 256 / 256 / 256 / 256 % 256 = x / 281474976710656 % 256 := by omega
    have q2 : x / 256 / 256 / 256 / 256 / 256 % 256 = x / 1099511627776 % 256 := by omega
    have q3 : x / 256 / 256 / 256 / 256 % 256 = x / 4294967296 % 256 := by omega
    have q4 : x / 256 / 256 / 256 % 256 = x / 16777216 % 256 := by omega
    have q5 : x / 256 / 256 % 256 = x / 65536 % 256 := by omega
    have q7 : x % 256 = x / 1 % 256 := by omega
    rw [q0, q1, q2, q3, q4, q5, ← q7]
  · intro x hx
    simp only [List.mem_cons, List.mem_nil_iff, or_false] at hx
    rcases hx with rfl | rfl | rfl | rfl | rfl | rfl | rfl | rfl <;> omega
theorem pad_eq (s : ByteArray) : bytesI (((s ++ (⟨#[128]⟩ : ByteArray)) ++ impl_hash.zeros ((119 - s.size % 64) % 64)) ++ impl_hash.n8 (8 * (s.size : Int))) = spec_l01Hash.pad (bytesI s) := by
  rw [bytesI_append, bytesI_append, bytesI_append, bytesI_zeros, bytesI_n8]
  unfold spec_l01Hash.pad
  rw [bytesI_len, List.nil_append]
  rfl
theorem bytesI_extract (t : ByteArray) (a : Nat) : bytesI (t.extract a (a + 64)) = ((bytesI t).drop a).take 64 := by
  unfold bytesI
  rw [← List.map_drop, ← List.map_take]
  congr 1
  rw [ByteArray.data_extract, Array.toList_extract, List.extract_eq_take_drop]
  rw [Nat.add_sub_cancel_left]
theorem st_eq (K H : List Int) (t : ByteArray) (hH : H.length = 8) : ∀ i, impl_hash.st K H t i = spec_l01Hash.st K H (bytesI t) i
  | 0 => rfl
  | i + 1 => by
    unfold impl_hash.st spec_l01Hash.st
    rw [st_eq K H t hH i]
    refine block_eq _ _ _ _ (spec_l01Hash.st_len K H (bytesI t) hH i) fun j hj => ?_
    rw [bt_bytes, bytesI_extract]
theorem nums_append (a b : List Int) : strOfNums (a ++ b) = strOfNums a ++ strOfNums b := by
  unfold strOfNums
  rw [List.map_append]
  apply ByteArray.ext
  simp [ByteArray.append_eq]
theorem tx_eq (ST : List Int) : ∀ j, impl_hash.tx ST j = strOfNums (spec_l01Hash.ol ST j)
  | 0 => rfl
  | j + 1 => by
    unfold impl_hash.tx spec_l01Hash.ol
    rw [nums_append, tx_eq ST j]
    congr 1
    unfold impl_hash.n4
    have hw : ∃ q : Int, wrap64 (rd ST (j : Int)) = rd ST (j : Int) - q * 18446744073709551616 := by
      have e : wrap64 (rd ST (j : Int)) = IntKind.i64.wrap (rd ST (j : Int)) := (i64_w (rd ST (j : Int))).symm
      rw [e, IntKind.wrap_i64]
      generalize rd ST (j : Int) = x
      refine ⟨(x + 9223372036854775808) / 18446744073709551616, ?_⟩
      omega
    obtain ⟨q, hq⟩ := hw
    rw [hq]
    generalize rd ST (j : Int) = x
    have u8w : ∀ y : Int, IntKind.u8.wrap y = y % 256 := fun y => rfl
    rw [u8w, u8w, u8w, u8w]
    congr 1
    simp only [List.cons.injEq, and_true]
    refine ⟨?_, ?_, ?_, ?_⟩ <;> omega
theorem hash_eq (s : ByteArray) : impl_hash.v s = spec_l01Hash.v (bytesI s) := by
  unfold impl_hash.v spec_l01Hash.v
  rw [tx_eq, st_eq _ _ _ (by rfl), pad_eq, ← bytesI_len, pad_eq]
  rfl
end Go.Proofs.YtggemblkhckbpaaDoor.U

/- The sum of 32 bits (CRC-32): the program's and the reference's are one. -/
namespace Go.Proofs.YtggemblkhckbpaaDoor.U
open Go Go.RowKit Go.Proofs.YtggemblkhckbpaaDoor.Q Go.Proofs.YtggemblkhckbpaaDoorW.PrintWords Go.Proofs.YtggemblkhckbpaaDoorW.PrintLast Go.Proofs.YtggemblkhckbpaaDoorW.PrintMore
set_option linter.unusedVariables false
set_option linter.unusedSimpArgs false

theorem hwid {n : Int} (h0 : -9223372036854775808 ≤ n) (h1 : n ≤ 9223372036854775807) : wrap64 n = n := IntWalk.wrap64_in n ⟨h0, h1⟩
theorem hstep (j : Nat) (h : j ≤ 1000000000) : wrap64 ((j : Int) + 1) = ((j + 1 : Nat) : Int) := by rw [hwid (by omega) (by omega)]; omega
theorem xor_u32 (a b : Nat) (ha : a < 4294967296) (hb : b < 4294967296) : Go.bits .xor .u32 (a : Int) (b : Int) = ((a ^^^ b : Nat) : Int) := by
  show IntKind.u32.wrap (((BitVec.ofInt 32 (a : Int) ^^^ BitVec.ofInt 32 (b : Int)).toNat : Nat) : Int) = _
  rw [BitVec.ofInt_natCast, BitVec.ofInt_natCast, BitVec.toNat_xor, BitVec.toNat_ofNat, BitVec.toNat_ofNat, Nat.mod_eq_of_lt (show a < 2 ^ 32 by omega), Nat.mod_eq_of_lt (show b < 2 ^ 32 by omega), u32_wrap]
  have := Nat.xor_lt_two_pow (n := 32) (x := a) (y := b) (by omega) (by omega)
  omega
theorem xor_i64 (a b : Nat) (ha : a < 4294967296) (hb : b < 4294967296) : Go.bits .xor .i64 (a : Int) (b : Int) = ((a ^^^ b : Nat) : Int) := by
  show IntKind.i64.wrap (((BitVec.ofInt 64 (a : Int) ^^^ BitVec.ofInt 64 (b : Int)).toNat : Nat) : Int) = _
  rw [BitVec.ofInt_natCast, BitVec.ofInt_natCast, BitVec.toNat_xor, BitVec.toNat_ofNat, BitVec.toNat_ofNat, Nat.mod_eq_of_lt (show a < 2 ^ 64 by omega), Nat.mod_eq_of_lt (show b < 2 ^ 64 by omega), IntKind.wrap_i64]
  have := Nat.xor_lt_two_pow (n := 32) (x := a) (y := b) (by omega) (by omega)
  omega
theorem and_one (a : Nat) (ha : a < 4294967296) : Go.bits .and .u32 (a : Int) 1 = ((a % 2 : Nat) : Int) := by
  show IntKind.u32.wrap (((BitVec.ofInt 32 (a : Int) &&& BitVec.ofInt 32 ((1 : Nat) : Int)).toNat : Nat) : Int) = _
  rw [BitVec.ofInt_natCast, BitVec.ofInt_natCast, BitVec.toNat_and, BitVec.toNat_ofNat, BitVec.toNat_ofNat, Nat.mod_eq_of_lt (show a < 2 ^ 32 by omega), Nat.mod_eq_of_lt (show 1 < 2 ^ 32 by decide), u32_wrap, Nat.and_one_is_mod]
  omega
def crcStep (n : Nat) : Nat := if n % 2 = 1 then (n / 2) ^^^ 3988292384 else n / 2
theorem crcStep_lt (n : Nat) (h : n < 4294967296) : crcStep n < 4294967296 := by
  unfold crcStep
  split
  · exact Nat.xor_lt_two_pow (n := 32) (x := n / 2) (y := 3988292384) (by omega) (by omega)
  · omega
def crcByte : Nat → Nat → Nat
  | 0, n => n
  | i + 1, n => crcByte i (crcStep n)
theorem crcByte_lt : ∀ i n, n < 4294967296 → crcByte i n < 4294967296
  | 0, n, h => h
  | i + 1, n, h => crcByte_lt i _ (crcStep_lt n h)
def crcAll : List Int → Nat → Nat
  | [], n => n
  | b :: r, n => crcAll r (crcByte 8 (n ^^^ b.toNat))
theorem crcAll_lt : ∀ (l : List Int) (n : Nat), (∀ x ∈ l, 0 ≤ x ∧ x < 256) → n < 4294967296 → crcAll l n < 4294967296
  | [], n, _, h => h
  | b :: r, n, hl, h => crcAll_lt r _ (fun x hx => hl x (List.mem_cons_of_mem _ hx)) (crcByte_lt 8 _ (Nat.xor_lt_two_pow (n := 32) (x := n) (y := b.toNat) (by omega) (by have := hl b List.mem_cons_self; omega)))
theorem impl_round (x0 : ByteArray) (x7 x8 : Int) (R : Int) : ∀ (i n : Nat), i ≤ 8 → n < 4294967296 → Ev (fun k => impl_check32.l0 k x0 ((crcByte i n : Nat) : Int) x7 (wrap64 (x8 + 1))) R → Ev (fun k => impl_check32.l1 k x0 (n : Int) x7 x8 ((8 - i : Nat) : Int)) R
  | 0, n, _, _, h => Ev.step (fun k => by rw [impl_check32.l1, if_neg (by decide)]; rfl) h
  | i + 1, n, hi, hn, h => by
    refine Ev.step (fun k => ?_) (impl_round x0 x7 x8 R i (crcStep n) (by omega) (crcStep_lt n hn) h)
    rw [impl_check32.l1, if_pos (by omega), and_one n hn, hstep _ (by omega)]
    have e1 : 8 - (i + 1) + 1 = 8 - i := by omega
    have e2 : (n : Int) / 2 = ((n / 2 : Nat) : Int) := by omega
    rw [e1, e2]
    unfold crcStep
    by_cases c : n % 2 = 1
    · rw [if_pos (by omega), if_pos c]
      have := xor_u32 (n / 2) 3988292384 (by omega) (by omega)
      rw [← this]
      rfl
    · rw [if_neg (by omega), if_neg c]
theorem spec_round (x0 : List Int) (x4 : Int) (R : Int) : ∀ (i n : Nat), i ≤ 8 → n < 4294967296 → Ev (fun k => spec_l01Check.l0 k x0 ((crcByte i n : Nat) : Int) (wrap64 (x4 + 1))) R → Ev (fun k => spec_l01Check.l1 k x0 (n : Int) x4 ((8 - i : Nat) : Int)) R
  | 0, n, _, _, h => Ev.step (fun k => by rw [spec_l01Check.l1, if_neg (by decide)]; rfl) h
  | i + 1, n, hi, hn, h => by
    refine Ev.step (fun k => ?_) (spec_round x0 x4 R i (crcStep n) (by omega) (crcStep_lt n hn) h)
    rw [spec_l01Check.l1, if_pos (by omega), hstep _ (by omega)]
    have e1 : 8 - (i + 1) + 1 = 8 - i := by omega
    have e2 : wrap64 (Int.tdiv (n : Int) 2) = ((n / 2 : Nat) : Int) := by rw [show Int.tdiv (n : Int) 2 = ((n / 2 : Nat) : Int) from rfl, hwid (by omega) (by omega)]
    have e3 : Int.tmod (n : Int) 2 = ((n % 2 : Nat) : Int) := rfl
    rw [e1, e2, e3]
    unfold crcStep
    by_cases c : n % 2 = 1
    · rw [if_pos (by omega), if_pos c]
      have := xor_i64 (n / 2) 3988292384 (by omega) (by omega)
      rw [← this]
      rfl
    · rw [if_neg (by omega), if_neg c]
theorem rd_drop (L : List Int) (j : Nat) (h : j < L.length) : L.drop j = rd L (j : Int) :: L.drop (j + 1) := by
  show L.drop j = L.getD ((j : Int)).toNat 0 :: L.drop (j + 1)
  rw [Int.toNat_natCast, List.getD_eq_getElem?_getD, List.getElem?_eq_getElem h, List.drop_eq_getElem_cons h]
  rfl
theorem rd_mem (L : List Int) (j : Nat) (h : j < L.length) : rd L (j : Int) ∈ L := by
  show L.getD ((j : Int)).toNat 0 ∈ L
  rw [Int.toNat_natCast, List.getD_eq_getElem?_getD, List.getElem?_eq_getElem h]
  exact List.getElem_mem h
theorem impl_crc (s : ByteArray) (hs : s.size ≤ 1000000) (hb : ∀ x ∈ bytesI s, 0 ≤ x ∧ x < 256) : ∀ (d j n : Nat), j + d = s.size → n < 4294967296 → Ev (fun k => impl_check32.l0 k s (n : Int) (s.size : Int) (j : Int)) ((4294967295 ^^^ crcAll ((bytesI s).drop j) n : Nat) : Int)
  | 0, j, n, hj, hn => by
    refine Ev.step (fun k => ?_) (Ev.now _)
    rw [impl_check32.l0, if_neg (by omega), List.drop_eq_nil_of_le (by rw [bytesI_len]; omega)]
    have := xor_u32 4294967295 n (by omega) hn
    have hb := Nat.xor_lt_two_pow (n := 32) (x := 4294967295) (y := n) (by omega) (by omega)
    show some (wrap64 (Go.bits .xor .u32 ((4294967295 : Nat) : Int) (n : Int))) = _
    rw [this, hwid (by omega) (by omega)]
    rfl
  | d + 1, j, n, hj, hn => by
    have hm := hb _ (rd_mem (bytesI s) j (by rw [bytesI_len]; omega))
    rw [rd_drop (bytesI s) j (by rw [bytesI_len]; omega)]
    obtain ⟨b, hbt⟩ : ∃ b : Nat, rd (bytesI s) (j : Int) = (b : Int) := ⟨(rd (bytesI s) (j : Int)).toNat, by omega⟩
    rw [hbt] at hm ⊢
    have hx := Nat.xor_lt_two_pow (n := 32) (x := n) (y := b) (by omega) (by omega)
    refine Ev.step (f := fun k => impl_check32.l1 k s ((n ^^^ b : Nat) : Int) (s.size : Int) (j : Int) ((8 - 8 : Nat) : Int)) (fun k => ?_) (impl_round s _ _ _ 8 (n ^^^ b) (by omega) hx ?_)
    · rw [impl_check32.l0, if_pos (by omega), if_pos (by omega), if_pos (by omega), bt_bytes, hbt, show (b : Int) % 4294967296 = (b : Int) by omega, xor_u32 n b hn (by omega)]
      rfl
    · rw [hstep j (by omega)]
      exact impl_crc s hs hb d (j + 1) _ (by omega) (crcByte_lt 8 _ hx)
theorem spec_crc (L : List Int) (hs : L.length ≤ 1000000) (hb : ∀ x ∈ L, 0 ≤ x ∧ x < 256) : ∀ (d j n : Nat), j + d = L.length → n < 4294967296 → Ev (fun k => spec_l01Check.l0 k L (n : Int) (j : Int)) ((4294967295 ^^^ crcAll (L.drop j) n : Nat) : Int)
  | 0, j, n, hj, hn => by
    refine Ev.step (fun k => ?_) (Ev.now _)
    rw [spec_l01Check.l0, if_neg (by omega), List.drop_eq_nil_of_le (by omega)]
    have := xor_i64 n 4294967295 hn (by omega)
    show some (Go.bits .xor .i64 (n : Int) ((4294967295 : Nat) : Int)) = _
    rw [this, Nat.xor_comm]
    rfl
  | d + 1, j, n, hj, hn => by
    have hm := hb _ (rd_mem L j (by omega))
    rw [rd_drop L j (by omega)]
    obtain ⟨b, hbt⟩ : ∃ b : Nat, rd L (j : Int) = (b : Int) := ⟨(rd L (j : Int)).toNat, by omega⟩
    rw [hbt] at hm ⊢
    have hx := Nat.xor_lt_two_pow (n := 32) (x := n) (y := b) (by omega) (by omega)
    refine Ev.step (f := fun k => spec_l01Check.l1 k L ((n ^^^ b : Nat) : Int) (j : Int) ((8 - 8 : Nat) : Int)) (fun k => ?_) (spec_round L _ _ 8 (n ^^^ b) (by omega) hx ?_)
    · rw [spec_l01Check.l0, if_pos (by omega), if_pos (by omega), hbt, hwid (by omega) (by omega), xor_i64 n b hn (by omega)]
      rfl
    · rw [hstep j (by omega)]
      exact spec_crc L hs hb d (j + 1) _ (by omega) (crcByte_lt 8 _ hx)
theorem check_eq (s : ByteArray) (hs : s.size ≤ 1000000) (hb : ∀ x ∈ bytesI s, 0 ≤ x ∧ x < 256) : ∃ r : Int, Ev (fun k => impl_check32.f k s) r ∧ Ev (fun k => spec_l01Check.f k (bytesI s)) r :=
  ⟨_, impl_crc s hs hb s.size 0 4294967295 (by omega) (by decide), by
    have := spec_crc (bytesI s) (by rw [bytesI_len]; exact hs) hb (bytesI s).length 0 4294967295 (by omega) (by decide)
    exact this⟩
end Go.Proofs.YtggemblkhckbpaaDoor.U

/- A hash's 64 digits, read back; its 256 bits. -/
namespace Go.Proofs.YtggemblkhckbpaaDoor.U
open Go Go.RowKit Go.Proofs.YtggemblkhckbpaaDoor.Q Go.Proofs.YtggemblkhckbpaaDoorW.PrintWords Go.Proofs.YtggemblkhckbpaaDoorW.PrintLast Go.Proofs.YtggemblkhckbpaaDoorW.PrintMore
set_option linter.unusedVariables false
set_option linter.unusedSimpArgs false

def hexT : ByteArray := ⟨#[48, 49, 50, 51, 52, 53, 54, 55, 56, 57, 97, 98, 99, 100, 101, 102]⟩
def hexN : List Int := [48, 49, 50, 51, 52, 53, 54, 55, 56, 57, 97, 98, 99, 100, 101, 102]
def hd (v : Nat) : Int := hexN.getD v 0
theorem bt_hex (v : Nat) : bt hexT (v : Int) = hd v := by rw [bt_bytes]; rfl
theorem hd_all : ∀ v : Fin 16, (0 ≤ hd v.val ∧ hd v.val < 128) ∧ hexT.data.toList.contains (UInt8.ofNat (hd v.val).toNat) = true ∧ Lib.indexByte hexT.data.toList (hd v.val).toNat.toUInt8 = (v.val : Int) := by decide
theorem hd_bd (v : Nat) (h : v < 16) : 0 ≤ hd v ∧ hd v < 128 := (hd_all ⟨v, h⟩).1
theorem hd_in (v : Nat) (h : v < 16) : hexT.data.toList.contains (UInt8.ofNat (hd v).toNat) = true := (hd_all ⟨v, h⟩).2.1
theorem hd_ix (v : Nat) (h : v < 16) : Lib.indexByte hexT.data.toList (hd v).toNat.toUInt8 = (v : Int) := (hd_all ⟨v, h⟩).2.2
theorem nsize (l : List Int) : (strOfNums l).size = l.length := by simp [strOfNums, ByteArray.size]
theorem and_15 (b : Nat) (h : b < 256) : Go.bits .and .u8 (b : Int) 15 = ((b % 16 : Nat) : Int) := by
  show IntKind.u8.wrap (((BitVec.ofInt 8 (b : Int) &&& BitVec.ofInt 8 ((15 : Nat) : Int)).toNat : Nat) : Int) = _
  rw [BitVec.ofInt_natCast, BitVec.ofInt_natCast, BitVec.toNat_and, BitVec.toNat_ofNat, BitVec.toNat_ofNat, Nat.mod_eq_of_lt (show b < 2 ^ 8 by omega), Nat.mod_eq_of_lt (show 15 < 2 ^ 8 by decide), show (15 : Nat) = 2 ^ 4 - 1 by decide, Nat.and_two_pow_sub_one_eq_mod]
  have u8w : ∀ y : Int, IntKind.u8.wrap y = y % 256 := fun y => rfl
  rw [u8w]
  omega
/-- The digits of bytes. -/
def hexL : List Int → List Int
  | [] => []
  | b :: r => hd (b.toNat / 16) :: hd (b.toNat % 16) :: hexL r
theorem hexL_len : ∀ l, (hexL l).length = 2 * l.length
  | [] => rfl
  | b :: r => by rw [hexL, List.length_cons, List.length_cons, hexL_len r, List.length_cons]; omega
theorem hexL_bd : ∀ (l : List Int), (∀ x ∈ l, 0 ≤ x ∧ x < 256) → ∀ x ∈ hexL l, ∃ v : Nat, v < 16 ∧ x = hd v
  | [], _, x, hx => absurd hx (by simp [hexL])
  | b :: r, hl, x, hx => by
    have hb := hl b List.mem_cons_self
    rw [hexL, List.mem_cons, List.mem_cons] at hx
    rcases hx with rfl | rfl | hx
    · exact ⟨b.toNat / 16, by omega, rfl⟩
    · exact ⟨b.toNat % 16, by omega, rfl⟩
    · exact hexL_bd r (fun y hy => hl y (List.mem_cons_of_mem _ hy)) x hx
theorem hexL_at : ∀ (l : List Int) (j : Nat), j < l.length → (hexL l).getD (2 * j) 0 = hd ((l.getD j 0).toNat / 16) ∧ (hexL l).getD (2 * j + 1) 0 = hd ((l.getD j 0).toNat % 16)
  | b :: r, 0, _ => ⟨rfl, rfl⟩
  | b :: r, j + 1, h => hexL_at r j (by rw [List.length_cons] at h; omega)
theorem byte_of (s : ByteArray) : ∀ x ∈ bytesI s, 0 ≤ x ∧ x < 256 := by
  intro x hx
  unfold bytesI at hx
  rw [List.mem_map] at hx
  obtain ⟨b, _, rfl⟩ := hx
  have := b.toNat_lt
  omega
theorem hex_ev (h : ByteArray) (hs : h.size ≤ 1000) : ∀ (d j : Nat) (X : List Int), j + d = h.size → X.length = 2 * j → Ev (fun k => impl_hexOf.l0 k h X (h.size : Int) (j : Int)) (strOfNums (X ++ hexL ((bytesI h).drop j)))
  | 0, j, X, hj, hX => by
    refine Ev.step (fun k => ?_) (Ev.now _)
    rw [impl_hexOf.l0, if_neg (by omega), List.drop_eq_nil_of_le (by rw [bytesI_len]; omega), hexL, List.append_nil]
  | d + 1, j, X, hj, hX => by
    have hm := byte_of h _ (rd_mem (bytesI h) j (by rw [bytesI_len]; omega))
    have e := rd_drop (bytesI h) j (by rw [bytesI_len]; omega)
    obtain ⟨b, hbt⟩ : ∃ b : Nat, rd (bytesI h) (j : Int) = (b : Int) := ⟨(rd (bytesI h) (j : Int)).toNat, by omega⟩
    rw [hbt] at hm e
    have ih := hex_ev h hs d (j + 1) (X ++ [hd (b / 16), hd (b % 16)]) (by omega) (by rw [List.length_append, hX]; simp; omega)
    have e2 : (X ++ [hd (b / 16), hd (b % 16)]) ++ hexL ((bytesI h).drop (j + 1)) = X ++ hexL ((bytesI h).drop j) := by
      rw [e, List.append_assoc]
      rfl
    rw [e2] at ih
    refine Ev.step (fun k => ?_) ih
    have q1 : (b : Int) / 16 = ((b / 16 : Nat) : Int) := by omega
    rw [impl_hexOf.l0, if_pos (by omega), if_pos (by omega), if_pos (by omega), bt_bytes, hbt, and_15 b (by omega), q1, if_pos (by omega), if_pos (by omega), if_pos (by omega), if_pos (by omega), Option.bind_some, if_pos (by simp; omega), hstep j (by omega)]
    have := bt_hex (b / 16)
    have := bt_hex (b % 16)
    unfold hexT at *
    simp only [*]
theorem trim_all (L : List UInt8) (C : List UInt8) (h : ∀ x ∈ L, C.contains x = true) : Lib.trimS L C = [] := by
  have dw : ∀ l : List UInt8, (∀ x ∈ l, C.contains x = true) → l.dropWhile (C.contains ·) = [] := by
    intro l
    induction l with
    | nil => intro _; rfl
    | cons a r ih => intro hl; rw [List.dropWhile_cons, if_pos (hl a List.mem_cons_self)]; exact ih fun x hx => hl x (List.mem_cons_of_mem _ hx)
  unfold Lib.trimS Lib.trimLeftS Lib.trimRightS
  rw [dw L.reverse (fun x hx => h x (List.mem_reverse.mp hx)), List.reverse_nil]
  rfl
theorem back_ev (L : List Int) (hl : L.length ≤ 1000) (hb : ∀ x ∈ L, 0 ≤ x ∧ x < 256) : ∀ (d j : Nat) (X : List Int), j + d = L.length → X.length = j → Ev (fun k => impl_readHash.l0 k (strOfNums (hexL L)) X ((2 * j : Nat) : Int)) (strOfNums (X ++ L.drop j), true)
  | 0, j, X, hj, hX => by
    refine Ev.step (fun k => ?_) (Ev.now _)
    rw [impl_readHash.l0, if_neg (by rw [nsize, hexL_len]; omega), List.drop_eq_nil_of_le (by omega), List.append_nil]
  | d + 1, j, X, hj, hX => by
    have hm := hb _ (rd_mem L j (by omega))
    have e := rd_drop L j (by omega)
    have hx := hexL_at L j (by omega)
    have hr : rd L (j : Int) = L.getD j 0 := by show L.getD ((j : Int)).toNat 0 = _; rw [Int.toNat_natCast]
    rw [← hr] at hx
    obtain ⟨b, hbt⟩ : ∃ b : Nat, rd L (j : Int) = (b : Int) := ⟨(rd L (j : Int)).toNat, by omega⟩
    rw [hbt] at hm e hx
    rw [Int.toNat_natCast] at hx
    have hB : bytesI (strOfNums (hexL L)) = hexL L := bytesI_nums _ fun x hx => by
      obtain ⟨v, hv, rfl⟩ := hexL_bd L hb x hx
      have := hd_bd v hv
      omega
    have a1 : bt (strOfNums (hexL L)) ((2 * j : Nat) : Int) = hd (b / 16) := by rw [bt_bytes, hB]; exact hx.1
    have a2 : bt (strOfNums (hexL L)) ((2 * j + 1 : Nat) : Int) = hd (b % 16) := by rw [bt_bytes, hB]; exact hx.2
    have ih := back_ev L hl hb d (j + 1) (X ++ [(b : Int)]) (by omega) (by rw [List.length_append, hX]; rfl)
    have e2 : (X ++ [(b : Int)]) ++ L.drop (j + 1) = X ++ L.drop j := by rw [e, List.append_assoc]; rfl
    rw [e2] at ih
    refine Ev.step (fun k => ?_) ih
    have w1 : wrap64 (((2 * j : Nat) : Int) + 1) = ((2 * j + 1 : Nat) : Int) := hstep (2 * j) (by omega)
    have w2 : wrap64 (((2 * j : Nat) : Int) + 2) = ((2 * (j + 1) : Nat) : Int) := by rw [hwid (by omega) (by omega)]; omega
    have i1 : strings_IndexByte.f (⟨#[48, 49, 50, 51, 52, 53, 54, 55, 56, 57, 97, 98, 99, 100, 101, 102]⟩ : ByteArray) (hd (b / 16)) = some ((b / 16 : Nat) : Int) := congrArg some (hd_ix (b / 16) (by omega))
    have i2 : strings_IndexByte.f (⟨#[48, 49, 50, 51, 52, 53, 54, 55, 56, 57, 97, 98, 99, 100, 101, 102]⟩ : ByteArray) (hd (b % 16)) = some ((b % 16 : Nat) : Int) := congrArg some (hd_ix (b % 16) (by omega))
    rw [impl_readHash.l0, if_pos (by rw [nsize, hexL_len]; omega), if_pos (by omega), a1, i1, Option.bind_some, w1, if_pos (by omega), if_pos (by rw [nsize, hexL_len]; omega), a2, i2, Option.bind_some, if_pos (by omega), w2]
    have e3 : (wrap64 ((wrap64 (((b / 16 : Nat) : Int) * 16)) + ((b % 16 : Nat) : Int))) % 256 = (b : Int) := by
      rw [hwid (n := ((b / 16 : Nat) : Int) * 16) (by omega) (by omega), hwid (by omega) (by omega)]
      omega
    rw [e3]
theorem read_ev (L : List Int) (hl : L.length = 32) (hb : ∀ x ∈ L, 0 ≤ x ∧ x < 256) : Ev (fun k => impl_readHash.f k (strOfNums (hexL L))) (strOfNums L, true) := by
  have ht : strings_Trim.f (strOfNums (hexL L)) (⟨#[48, 49, 50, 51, 52, 53, 54, 55, 56, 57, 97, 98, 99, 100, 101, 102]⟩ : ByteArray) = some ⟨#[]⟩ := by
    unfold strings_Trim.f
    rw [if_pos ⟨by rw [nsize, hexL_len]; omega, by decide, by decide⟩, trim_all]
    intro x hx
    have hx' : x ∈ (hexL L).map fun n => UInt8.ofNat n.toNat := hx
    rw [List.mem_map] at hx'
    obtain ⟨n, hn, rfl⟩ := hx'
    obtain ⟨v, hv, rfl⟩ := hexL_bd L hb n hn
    exact hd_in v hv
  have := back_ev L (by omega) hb L.length 0 [] (by omega) rfl
  refine Ev.congr (fun k => ?_) (Ev.step (g := fun k => impl_readHash.j0 k (strOfNums (hexL L)) false) (fun k => by rw [impl_readHash.j0, if_neg (by decide)]; rfl) this)
  rw [impl_readHash.f, if_pos (by rw [nsize, hexL_len]; omega), ht, Option.bind_some]
  have e0 : (ByteArray.toList (⟨#[]⟩ : ByteArray) != ([] : List UInt8)) = false := by rw [Lib.toList_data]; rfl
  rw [e0]
theorem bit_some (h : ByteArray) (hs : h.size = 32) (j : Nat) (hj : j < 256) : ∃ v, impl_bit.f h (j : Int) = some v := by
  have t1 : wrap64 (Int.tdiv (j : Int) 8) = ((j / 8 : Nat) : Int) := by rw [show Int.tdiv (j : Int) 8 = ((j / 8 : Nat) : Int) from rfl, hwid (by omega) (by omega)]
  have t2 : wrap64 (7 - Int.tmod (j : Int) 8) = ((7 - j % 8 : Nat) : Int) := by rw [show Int.tmod (j : Int) 8 = ((j % 8 : Nat) : Int) from rfl, hwid (by omega) (by omega)]; omega
  rw [impl_bit.f, t1, t2, if_pos (by omega), if_pos (by omega), if_pos (by omega)]
  exact ⟨_, rfl⟩
theorem bits_ev (h : ByteArray) (hs : h.size = 32) : ∀ (d j : Nat) (X : List Int), j + d = 256 → X.length = j → ∃ t : ByteArray, t.size = 256 ∧ Ev (fun k => impl_HashBits.l0 k h X (j : Int)) (t, 0)
  | 0, j, X, hj, hX => ⟨strOfNums X, by rw [nsize]; omega, Ev.step (fun k => by rw [impl_HashBits.l0, if_neg (by omega)]) (Ev.now _)⟩
  | d + 1, j, X, hj, hX => by
    obtain ⟨v, hv⟩ := bit_some h hs j (by omega)
    obtain ⟨t, ht, hE⟩ := bits_ev h hs d (j + 1) (X ++ [(wrap64 (48 + v)) % 256]) (by omega) (by rw [List.length_append, hX]; rfl)
    refine ⟨t, ht, Ev.step (fun k => ?_) hE⟩
    rw [impl_HashBits.l0, if_pos (by omega), hv, Option.bind_some, if_pos (by omega), hstep j (by omega)]
end Go.Proofs.YtggemblkhckbpaaDoor.U

/- A hash is written as 64 digits and read back: the plain law. -/
namespace Go.Proofs.YtggemblkhckbpaaDoor.U
open Go Go.RowKit Go.Proofs.YtggemblkhckbpaaDoor.Q Go.Proofs.YtggemblkhckbpaaDoorW.PrintWords Go.Proofs.YtggemblkhckbpaaDoorW.PrintLast Go.Proofs.YtggemblkhckbpaaDoorW.PrintMore
set_option linter.unusedVariables false
set_option linter.unusedSimpArgs false

theorem ol_bd (ST : List Int) : ∀ n, ∀ x ∈ spec_l01Hash.ol ST n, 0 ≤ x ∧ x < 256
  | 0, x, hx => absurd hx (by simp [spec_l01Hash.ol])
  | n + 1, x, hx => by
    rw [spec_l01Hash.ol, List.mem_append] at hx
    rcases hx with hx | hx
    · exact ol_bd ST n x hx
    · have u8w : ∀ y : Int, IntKind.u8.wrap y = y % 256 := fun y => rfl
      simp only [List.mem_cons, List.mem_nil_iff, or_false, u8w] at hx
      rcases hx with rfl | rfl | rfl | rfl <;> omega
theorem hash_bytes (L : List Int) : ∃ B : List Int, spec_l01Hash.v L = strOfNums B ∧ B.length = 32 ∧ ∀ x ∈ B, 0 ≤ x ∧ x < 256 :=
  ⟨_, rfl, by rw [spec_l01Hash.ol_len], ol_bd _ 8⟩
theorem isText_one (s : ByteArray) (h : s.size ≤ 65536) : impl_isText.f [s] = some true := by
  unfold impl_isText.f
  have : decide ((s.size : Int) > 65536) = false := decide_eq_false (by omega)
  simp only [List.any_cons, List.any_nil, this, Bool.or_false, Bool.not_false]
theorem isHash_one (s : ByteArray) (h : s.size = 32) : impl_isHash.f [s] = some true := by
  unfold impl_isHash.f
  have : ((s.size : Int) != 32) = false := bne_eq_false_iff_eq.mpr (by omega)
  simp only [List.any_cons, List.any_nil, this, Bool.or_false, Bool.not_false]
theorem nilIs : (ByteArray.toList (⟨#[]⟩ : ByteArray) == ([] : List UInt8)) = true := by rw [Lib.toList_data]; rfl
end Go.Proofs.YtggemblkhckbpaaDoor.U
namespace Go.Proofs.YtggemblkhckbpaaDoor.Pure
open Go Go.RowKit Go.Proofs.YtggemblkhckbpaaDoor.Q Go.Proofs.YtggemblkhckbpaaDoor.U Go.Proofs.YtggemblkhckbpaaDoorW.PrintWords Go.Proofs.YtggemblkhckbpaaDoorW.PrintLast Go.Proofs.YtggemblkhckbpaaDoorW.PrintMore
set_option linter.unusedVariables false

theorem FnHash (l0 : List Int) (h : l0.length ≤ maxLen ∧ ∀ y22 : Int, y22 ∈ l0 → (Lit.int .u8 y22).wf = true) : ∃ k, laws_FnHash.f k l0 = some true := by
  obtain ⟨h1, hw⟩ := h
  have hb : ∀ x ∈ l0, 0 ≤ x ∧ x < 256 := fun x hx => by
    have := hw x hx
    simp [Lit.wf] at this
    have e1 : IntKind.u8.min = 0 := rfl
    have e2 : IntKind.u8.max = 255 := rfl
    omega
  refine Ev.rounds ?_
  by_cases c1 : (l0.length : Int) > 1048576
  · refine Ev.congr (fun k => ?_) (Ev.now true)
    rw [laws_FnHash.f, if_pos c1]
  by_cases c2 : (l0.length : Int) > 65536
  · refine Ev.congr (fun k => ?_) (Ev.now true)
    rw [laws_FnHash.f, if_neg c1, if_pos c2, impl_Hash.f, if_pos c2, Option.bind_some, nilIs]
  have hB : bytesI (strOfNums l0) = l0 := bytesI_nums l0 hb
  obtain ⟨B, hv, hBl, hBb⟩ := hash_bytes l0
  have hI : impl_Hash.f l0 = some (strOfNums B) := by
    rw [impl_Hash.f, if_neg c2, impl_hash.f, if_pos (by rw [nsize]; omega), Option.bind_some, U.hash_eq, hB, hv]
  have hS : spec_Hash.f l0 = some (strOfNums B) := by
    rw [spec_Hash.f, if_neg c2, spec_l01Hash.f, if_pos (by omega), Option.bind_some, hv]
  have hz : (strOfNums B).size = 32 := by rw [nsize, hBl]
  have hBB : bytesI (strOfNums B) = B := bytesI_nums B hBb
  have hT : Ev (fun k => impl_HashText.f k (strOfNums B)) (strOfNums (hexL B), 0) := by
    have h := hex_ev (strOfNums B) (by omega) 32 0 [] (by omega) rfl
    rw [hBB] at h
    refine Ev.congr (fun k => ?_) (Ev.bind (f := fun _ t => some (t, (0 : Int))) (g := fun k => impl_hexOf.f k (strOfNums B)) h (Ev.now _))
    rw [impl_HashText.f, isText_one _ (by omega), Option.bind_some, if_pos rfl, isHash_one _ hz, Option.bind_some, if_pos rfl]
  have hR : Ev (fun k => impl_ReadHash.f k (strOfNums (hexL B))) (strOfNums B, 0) := by
    refine Ev.congr (fun k => ?_) (Ev.bind (f := fun _ (t : ByteArray × Bool) => if t.2 = true then some (t.1, (0 : Int)) else some ((⟨#[]⟩ : ByteArray), 3)) (g := fun k => impl_readHash.f k (strOfNums (hexL B))) (read_ev B hBl hBb) (Ev.now _))
    rw [impl_ReadHash.f, isText_one _ (by rw [nsize, hexL_len]; omega), Option.bind_some, if_pos rfl]
  obtain ⟨bs, hbs, hbE⟩ := bits_ev (strOfNums B) hz 256 0 [] (by omega) rfl
  have hBits : Ev (fun k => impl_HashBits.f k (strOfNums B)) (bs, 0) := by
    refine Ev.congr (fun k => ?_) hbE
    rw [impl_HashBits.f, isText_one _ (by omega), Option.bind_some, if_pos rfl, isHash_one _ hz, Option.bind_some, if_pos rfl]
    rfl
  obtain ⟨r, hr1, hr2⟩ := check_eq (strOfNums l0) (by rw [nsize]; omega) (by rw [hB]; exact hb)
  rw [hB] at hr2
  have hC1 : Ev (fun k => impl_Check32.f k l0) r := by
    refine Ev.congr (fun k => ?_) (Ev.bind (f := fun _ t => some t) hr1 (Ev.now _))
    rw [impl_Check32.f, if_neg c2]
  have hC2 : Ev (fun k => spec_Check32.f k l0) r := by
    refine Ev.congr (fun k => ?_) (Ev.bind (f := fun _ t => some t) hr2 (Ev.now _))
    rw [spec_Check32.f, if_neg c2]
  have key : Ev (fun k => (impl_HashText.f k (strOfNums B)).bind fun bt169 => ((impl_ReadHash.f k bt169.1).bind fun bt171 => ((impl_HashBits.f k (strOfNums B)).bind fun bt173 => (if ((strOfNums B).size : Int) = 32 then ((spec_Hash.f l0).bind fun t175 => (if (strOfNums B).toList = t175.toList then (if bt169.2 = 0 then (if (bt169.1.size : Int) = 64 then (if bt171.2 = 0 then (if bt171.1.toList = (strOfNums B).toList then (if bt173.2 = 0 then (if (bt173.1.size : Int) = 256 then ((impl_Check32.f k l0).bind fun t176 => ((spec_Check32.f k l0).bind fun t177 => (some (t176 == t177)))) else (some false)) else (some false)) else (some false)) else (some false)) else (some false)) else (some false)) else (some false))) else (some false))))) true := by
    refine Ev.bind hT (Ev.bind hR (Ev.bind hBits ?_))
    have z1 : ((strOfNums B).size : Int) = 32 := by omega
    have z2 : ((strOfNums (hexL B)).size : Int) = 64 := by rw [nsize, hexL_len]; omega
    have z3 : (bs.size : Int) = 256 := by omega
    simp only [hS, Option.bind_some, z1, z2, z3, if_true]
    refine Ev.bind hC1 (Ev.bind hC2 ?_)
    simp only [beq_self_eq_true]
    exact Ev.now _
  refine Ev.congr (fun k => ?_) key
  rw [laws_FnHash.f, if_neg c1, if_neg c2, hI, Option.bind_some]
end Go.Proofs.YtggemblkhckbpaaDoor.Pure

/- An argument of a law, whatever its type: read whole from what was handed over. -/
namespace Go.Proofs.YtggemblkhckbpaaDoor.U
open Go Go.ChangeShapes Go.WideShapes Go.ChangeAt Go.RowKit Go.Proofs.YtggemblkhckbpaaDoorW.PrintWords
set_option linter.unusedVariables false
set_option linter.unusedSimpArgs false

theorem addr_add_add (a : Addr) (i j : Nat) : (a.add i).add j = a.add (i + j) := by
  unfold Addr.add
  by_cases h0 : i = 0
  · subst h0; simp
  by_cases h1 : j = 0
  · subst h1; simp
  rw [if_neg h0, if_neg h1, if_neg (by omega)]
  simp only [Nat.add_assoc]
/-- What is handed over as a t can be read as a d. -/
structure Opens {α : Type} (P : Program) (t : TypeId) (d : Kd α) (wf : α → Prop) : Prop where
  out : ∀ {H : Type} (enc : TypeId × Value → H) (w : World) (base : Nat) (sp : Nat → Bool) (held : Bool) (n : Nat) (cs : List Value) (x : DataW H × List MemPlace),
    DataW.trod enc P w base sp held n t cs = some x → ∃ a, d.K w a cs ∧ wf a
theorem Opens.int {P : Program} {t : TypeId} {k : IntKind} (ht : P.underlying t = some (.int k)) : Opens P t (Kd.int k) (fun n => (Lit.int k n).wf = true) := by
  constructor
  intro H enc w base sp held n cs x h
  obtain ⟨m, rfl, rfl, hw⟩ := DataW.trod_int ht h
  exact ⟨m, rfl, hw⟩
theorem Opens.bool {P : Program} {t : TypeId} (ht : P.underlying t = some .bool) : Opens P t Kd.bool (fun _ => True) := by
  constructor
  intro H enc w base sp held n cs x h
  obtain ⟨m, rfl, rfl⟩ := DataW.trod_bool ht h
  exact ⟨m, rfl, trivial⟩
theorem Opens.string {P : Program} {t : TypeId} (ht : P.underlying t = some .string) : Opens P t Kd.string (fun s => s.size ≤ maxLen) := by
  constructor
  intro H enc w base sp held n cs x h
  obtain ⟨m, rfl, rfl, hw⟩ := DataW.trod_string ht h
  exact ⟨m, rfl, hw⟩
theorem all_of_each {α : Type} : ∀ (n : Nat) (p : Nat → α → Prop), (∀ i, i < n → ∃ a, p i a) → ∃ xs : List α, xs.length = n ∧ ∀ i a, xs[i]? = some a → p i a
  | 0, _, _ => ⟨[], rfl, fun i a h => by simp at h⟩
  | n + 1, p, h => by
    obtain ⟨a, ha⟩ := h 0 (by omega)
    obtain ⟨xs, hl, hx⟩ := all_of_each n (fun i => p (i + 1)) (fun i hi => h (i + 1) (by omega))
    refine ⟨a :: xs, by simp [hl], fun i b hb => ?_⟩
    cases i with
    | zero => simp at hb; subst hb; exact ha
    | succ j => exact hx j b (by simpa using hb)
theorem Opens.slice {α : Type} {P : Program} {t e : TypeId} {d : Kd α} {wf : α → Prop} (ht : P.underlying t = some (.slice e)) (hs : P.cellsOf e = d.sz) (hd : Opens P e d wf) :
    Opens P t (Kd.slice e d) (fun xs => xs.length ≤ maxLen ∧ ∀ x ∈ xs, wf x) := by
  constructor
  intro H enc w base sp held n cs x h
  rcases DataW.trod_slice ht h with ⟨rfl, rfl⟩ | ⟨a, len, cap, elems, rest, m, rfl, rfl, rfl, hb, hl, hm, hlen, hel, _, _⟩
  · exact ⟨[], ⟨none, 0, rfl, by simp, rfl, by simp, by simp⟩, by simp, by simp⟩
  obtain ⟨xs, hxl, hx⟩ := all_of_each len (fun i y => wf y ∧ ∃ c, c.length = d.sz ∧ d.K w y c ∧ ∀ j u, c[j]? = some u → w.cell? (a.add (i * d.sz + j)) = some u) (fun i hi => by
    have h1 := hel i hi
    rw [List.getElem?_eq_getElem (by omega)] at h1
    obtain ⟨c, hc, hy⟩ := Option.bind_eq_some_iff.mp h1
    obtain ⟨_, hcl, hcell⟩ := World.cells?_some hc
    obtain ⟨y, hk, hw⟩ := hd.out _ _ _ _ _ _ _ _ hy
    refine ⟨y, hw, c, by omega, hk, fun j u hu => ?_⟩
    have hj : j < P.cellsOf e := by
      rcases Nat.lt_or_ge j c.length with h' | h'
      · omega
      · rw [List.getElem?_eq_none h'] at hu; cases hu
    have h2 := hcell j hj
    rw [hu] at h2
    rw [← hs, ← h2, addr_add_add])
  subst hxl
  refine ⟨xs, ⟨some a, cap, rfl, hl, rfl, by have : maxLen = 9223372036854775807 := rfl; omega, fun _ => ⟨a, rfl, fun j p hp => (hx j p hp).2⟩⟩, by omega, fun x hxm => ?_⟩
  obtain ⟨i, hi, rfl⟩ := List.getElem_of_mem hxm
  exact (hx i _ (List.getElem?_eq_getElem hi)).1
/-- The fields of a struct, from a cell on. -/
structure OpensF {α : Type} (P : Program) (fs : List Field) (off : Nat) (d : Kd α) (wf : α → Prop) : Prop where
  out : ∀ {H : Type} (enc : TypeId × Value → H) (w : World) (base : Nat) (sp : Nat → Bool) (held : Bool) (n : Nat) (cs : List Value),
    cs.length = off + d.sz → (∀ f ∈ fs, ∃ y, DataW.trod enc P w base sp held n f.type ((cs.drop f.offset).take (P.cellsOf f.type)) = some y) → ∃ a, d.K w a (cs.drop off) ∧ wf a
theorem OpensF.one {α : Type} {P : Program} {f : Field} {d : Kd α} {wf : α → Prop} (hd : Opens P f.type d wf) (hs : P.cellsOf f.type = d.sz) : OpensF P [f] f.offset d wf := by
  constructor
  intro H enc w base sp held n cs hl hf
  obtain ⟨y, hy⟩ := hf f (by simp)
  rw [List.take_of_length_le (by rw [List.length_drop]; omega)] at hy
  exact hd.out _ _ _ _ _ _ _ _ hy
theorem OpensF.cons {α β : Type} {P : Program} {f : Field} {fs : List Field} {d : Kd α} {d1 : Kd β} {wf : α → Prop} {wf1 : β → Prop} (hd : Opens P f.type d wf) (hs : P.cellsOf f.type = d.sz) (h1 : OpensF P fs (f.offset + d.sz) d1 wf1) :
    OpensF P (f :: fs) f.offset (Kd.pair d d1) (fun p => wf p.1 ∧ wf1 p.2) := by
  constructor
  intro H enc w base sp held n cs hl hf
  have hl' : cs.length = f.offset + (d.sz + d1.sz) := hl
  obtain ⟨y, hy⟩ := hf f (by simp)
  obtain ⟨a, ha, wa⟩ := hd.out _ _ _ _ _ _ _ _ hy
  obtain ⟨b, hb, wb⟩ := h1.out enc w base sp held n cs (by omega) (fun g hg => hf g (by simp [hg]))
  refine ⟨(a, b), ⟨_, _, ?_, ha, hb⟩, wa, wb⟩
  rw [hs, ← List.drop_drop, List.take_append_drop]
theorem Opens.struct {α : Type} {P : Program} {t : TypeId} {fs : Array Field} {d : Kd α} {wf : α → Prop} (ht : P.underlying t = some (.struct fs)) (hs : P.cellsOf t = d.sz) (hf : OpensF P fs.toList 0 d wf) : Opens P t d wf := by
  constructor
  intro H enc w base sp held n cs x h
  obtain ⟨xs, m, rfl, rfl, hl, hxl, hx⟩ := DataW.trod_struct ht h
  have := hf.out enc w base sp held m cs (by omega) (fun f hfm => by
    obtain ⟨i, hi, rfl⟩ := List.getElem_of_mem hfm
    have hi' : i < fs.size := by simpa using hi
    refine ⟨xs[i]'(by omega), ?_⟩
    rw [hx i _ (by simp [hi'])]
    rw [List.getElem?_eq_getElem])
  simpa using this
theorem Opens.iso {α β : Type} {P : Program} {t : TypeId} {d : Kd α} {wf : α → Prop} {f : β → α} (h : Opens P t d wf) (g : ∀ a, ∃ b, f b = a) : Opens P t (Kd.iso d f) (fun b => wf (f b)) := by
  constructor
  intro H enc w base sp held n cs x hx
  obtain ⟨a, ha, wa⟩ := h.out enc w base sp held n cs x hx
  obtain ⟨b, rfl⟩ := g a
  exact ⟨b, ha, wa⟩
end Go.Proofs.YtggemblkhckbpaaDoor.U
