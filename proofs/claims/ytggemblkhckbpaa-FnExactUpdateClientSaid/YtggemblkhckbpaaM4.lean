/- Parts of the proof: what single Go functions compute, each with its walk, and plain laws over these. -/
import Derived.Test.YtggemblkhckbpaaM0
import Derived.Test.YtggemblkhckbpaaM1
import Derived.Test.YtggemblkhckbpaaM3
import Derived.Test.YtggemblkhckbpaaM2
import Derived.WalkKit
import Derived.ProofKit
import Derived.OpenShut
import Derived.ShutString
import Derived.ChangeOld
import Derived.Below
import Derived.ChangeArms
import Derived.DataReads
import Derived.Test.YtggemblkhckbpaaVWords
/- The hash of the program and the hash of the reference are one. -/
namespace Go.Proofs.Ytggemblkhckbpaa.U
open Go Go.RowKit Go.Proofs.Ytggemblkhckbpaa.Q Go.Proofs.YtggemblkhckbpaaW.PrintWords Go.Proofs.YtggemblkhckbpaaW.PrintLast Go.Proofs.YtggemblkhckbpaaW.PrintMore
set_option linter.unusedVariables false
set_option linter.unusedSimpArgs false

theorem bits_of (op : BinOp) (x y : Int) (f : BitVec 32 → BitVec 32 → BitVec 32) (h : ∀ a b : BitVec 32, Go.bits op .u32 (u32 a) (u32 b) = u32 (f a b)) (hd : Go.bits op .u32 x y = Go.bits op .u32 (u32 (BitVec.ofInt 32 x)) (u32 (BitVec.ofInt 32 y))) : Go.bits op .u32 x y = u32 (f (BitVec.ofInt 32 x) (BitVec.ofInt 32 y)) := hd.trans (h _ _)
theorem andI (x y : Int) : Go.bits .and .u32 x y = u32 (BitVec.ofInt 32 x &&& BitVec.ofInt 32 y) := by
  show IntKind.u32.wrap (((BitVec.ofInt 32 x &&& BitVec.ofInt 32 y).toNat : Nat) : Int) = _
  rw [of32]
theorem orI (x y : Int) : Go.bits .or .u32 x y = u32 (BitVec.ofInt 32 x ||| BitVec.ofInt 32 y) := by
  show IntKind.u32.wrap (((BitVec.ofInt 32 x ||| BitVec.ofInt 32 y).toNat : Nat) : Int) = _
  rw [of32]
theorem xorI (x y : Int) : Go.bits .xor .u32 x y = u32 (BitVec.ofInt 32 x ^^^ BitVec.ofInt 32 y) := by
  show IntKind.u32.wrap (((BitVec.ofInt 32 x ^^^ BitVec.ofInt 32 y).toNat : Nat) : Int) = _
  rw [of32]
theorem turn_eq (x n : Int) : turnV x n = sturnV x n := by
  unfold turnV sturnV
  rw [orI, orI, BitVec.or_comm]
theorem not_bits (a : BitVec 32) : BitVec.ofInt 32 IntKind.u32.max ^^^ a = ~~~a := by
  have e : BitVec.ofInt 32 IntKind.u32.max = BitVec.allOnes 32 := by decide
  rw [e]
  exact BitVec.allOnes_xor
theorem ch_eq (e f g : Int) : Go.bits .or .u32 (Go.bits .and .u32 e f) (Go.bits .and .u32 (Go.bits .xor .u32 IntKind.u32.max e) g) = Go.bits .xor .u32 (Go.bits .and .u32 e f) (Go.bits .and .u32 (Go.bits .xor .u32 IntKind.u32.max e) g) := by
  rw [andI, xorI, andI, or32, xor32, int_b32, not_bits, ch32]
theorem maj_eq (a b c : Int) : Go.bits .or .u32 (Go.bits .or .u32 (Go.bits .and .u32 a b) (Go.bits .and .u32 a c)) (Go.bits .and .u32 b c) = Go.bits .xor .u32 (Go.bits .xor .u32 (Go.bits .and .u32 a b) (Go.bits .and .u32 a c)) (Go.bits .and .u32 b c) := by
  rw [andI, andI, andI, or32, or32, xor32, xor32, maj32]
theorem p5_eq (K W v : List Int) (i : Nat) : impl_blockHash.p5 K W v i = spec_l01Block.p5 K W v i := by
  unfold impl_blockHash.p5 spec_l01Block.p5
  rw [ch_eq, turn_eq, turn_eq, turn_eq]
theorem q5_eq (v : List Int) : impl_blockHash.q5 v = spec_l01Block.q5 v := by
  unfold impl_blockHash.q5 spec_l01Block.q5
  rw [maj_eq, turn_eq, turn_eq, turn_eq]
theorem step_eq (K W v : List Int) (i : Nat) : impl_blockHash.step K W v i = spec_l01Block.step K W v i := by
  unfold impl_blockHash.step spec_l01Block.step
  rw [p5_eq, q5_eq]
  generalize spec_l01Block.p5 K W v i = p
  generalize spec_l01Block.q5 v = q
  rw [show (p % 4294967296 + q % 4294967296) % 4294967296 = (p + q) % 4294967296 by omega, show (rd v 3 + p % 4294967296) % 4294967296 = (rd v 3 + p) % 4294967296 by omega]
theorem rounds_eq (K W v : List Int) : ∀ i, impl_blockHash.rounds K W v i = spec_l01Block.rounds K W v i
  | 0 => rfl
  | i + 1 => by unfold impl_blockHash.rounds spec_l01Block.rounds; rw [rounds_eq K W v i, step_eq]
theorem sg_eq (x a b c : Int) : impl_wordsOf.sg x a b c = spec_l01Block.sg x a b c := by
  unfold impl_wordsOf.sg spec_l01Block.sg
  rw [turn_eq, turn_eq]
theorem upto_eq (b : ByteArray) (B : List Int) (h : ∀ j : Nat, j < 64 → bt b (j : Int) = rd B (j : Int)) : ∀ i, impl_wordsOf.upto b i = spec_l01Block.upto B i
  | 0 => rfl
  | i + 1 => by
    unfold impl_wordsOf.upto spec_l01Block.upto
    rw [upto_eq b B h i]
    congr 1
    unfold impl_wordsOf.at spec_l01Block.at
    by_cases hi : i < 16
    · rw [if_pos hi, if_pos hi]
      unfold impl_wordsOf.wd spec_l01Block.wd
      have h0 := h (4 * i) (by omega)
      have h1 := h (4 * i + 1) (by omega)
      have h2 := h (4 * i + 2) (by omega)
      have h3 := h (4 * i + 3) (by omega)
      rw [show ((4 * i : Nat) : Int) = 4 * (i : Int) by omega] at h0
      rw [show ((4 * i + 1 : Nat) : Int) = 4 * (i : Int) + 1 by omega] at h1
      rw [show ((4 * i + 2 : Nat) : Int) = 4 * (i : Int) + 2 by omega] at h2
      rw [show ((4 * i + 3 : Nat) : Int) = 4 * (i : Int) + 3 by omega] at h3
      rw [h0, h1, h2, h3]
    · rw [if_neg hi, if_neg hi, sg_eq, sg_eq]
theorem eight (l : List Int) (h : l.length = 8) : ∃ a b c d e f g i, l = [a, b, c, d, e, f, g, i] := by
  match l, h with
  | [a, b, c, d, e, f, g, i], _ => exact ⟨a, b, c, d, e, f, g, i, rfl⟩
theorem adds_comm (x y : List Int) (hx : x.length = 8) (hy : y.length = 8) : impl_blockHash.adds x y 8 = impl_blockHash.adds y x 8 := by
  obtain ⟨a, b, c, d, e, f, g, i, rfl⟩ := eight x hx
  obtain ⟨a', b', c', d', e', f', g', i', rfl⟩ := eight y hy
  show [(a + a') % 4294967296, (b + b') % 4294967296, (c + c') % 4294967296, (d + d') % 4294967296, (e + e') % 4294967296, (f + f') % 4294967296, (g + g') % 4294967296, (i + i') % 4294967296] = [(a' + a) % 4294967296, (b' + b) % 4294967296, (c' + c) % 4294967296, (d' + d) % 4294967296, (e' + e) % 4294967296, (f' + f) % 4294967296, (g' + g) % 4294967296, (i' + i) % 4294967296]
  rw [Int.add_comm a, Int.add_comm b, Int.add_comm c, Int.add_comm d, Int.add_comm e, Int.add_comm f, Int.add_comm g, Int.add_comm i]
theorem block_eq (H K : List Int) (b : ByteArray) (B : List Int) (hH : H.length = 8) (h : ∀ j : Nat, j < 64 → bt b (j : Int) = rd B (j : Int)) : impl_blockHash.out H K b = spec_l01Block.v H B K := by
  unfold impl_blockHash.out spec_l01Block.v
  rw [rounds_eq, upto_eq b B h]
  exact adds_comm _ _ (spec_l01Block.rounds_len _ _ _ hH 64) hH
end Go.Proofs.Ytggemblkhckbpaa.U

/- The hash of the program and the hash of the reference are one: whole texts. -/
namespace Go.Proofs.Ytggemblkhckbpaa.U
open Go Go.RowKit Go.Proofs.Ytggemblkhckbpaa.Q Go.Proofs.YtggemblkhckbpaaW.PrintWords Go.Proofs.YtggemblkhckbpaaW.PrintLast Go.Proofs.YtggemblkhckbpaaW.PrintMore
set_option linter.unusedVariables false
set_option linter.unusedSimpArgs false

/-- The bytes of a text as numbers. -/
def bytesI (s : ByteArray) : List Int := s.data.toList.map fun b => (b.toNat : Int)
theorem bytesI_len (s : ByteArray) : (bytesI s).length = s.size := by unfold bytesI; rw [List.length_map, Array.length_toList]; rfl
theorem bt_bytes (s : ByteArray) (j : Nat) : bt s (j : Int) = rd (bytesI s) (j : Int) := by
  show (if h : ((j : Int)).toNat < s.size then ((s[((j : Int)).toNat]'h).toNat : Int) else 0) = (bytesI s).getD ((j : Int)).toNat 0
  rw [Int.toNat_natCast, List.getD_eq_getElem?_getD]
  unfold bytesI
  rw [List.getElem?_map]
  by_cases h : j < s.size
  · rw [dif_pos h]
    have h2 : j < s.data.toList.length := by rw [Array.length_toList]; exact h
    rw [List.getElem?_eq_getElem h2]
    rfl
  · rw [dif_neg h]
    have h2 : s.data.toList.length ≤ j := by rw [Array.length_toList]; exact Nat.le_of_not_lt h
    rw [List.getElem?_eq_none h2]
    rfl
theorem bytesI_append (a b : ByteArray) : bytesI (a ++ b) = bytesI a ++ bytesI b := by
  unfold bytesI
  rw [← List.map_append]
  congr 1
theorem bytesI_nums (l : List Int) (h : ∀ x ∈ l, 0 ≤ x ∧ x < 256) : bytesI (strOfNums l) = l := by
  unfold bytesI strOfNums
  simp only [List.map_map]
  conv => rhs; rw [← List.map_id l]
  apply List.map_congr_left
  intro x hx
  have := h x hx
  simp only [Function.comp, id]
  have e : (UInt8.ofNat x.toNat).toNat = x.toNat := by
    rw [UInt8.toNat_ofNat']
    omega
  rw [e]
  omega
theorem bytesI_zeros (n : Nat) : bytesI (impl_hash.zeros n) = List.replicate n 0 := by
  have key : ∀ n : Nat, (Lib.repeatL [(0 : UInt8)] n).map (fun b => (b.toNat : Int)) = List.replicate n 0 := by
    intro n
    induction n with
    | zero => rfl
    | succ n ih =>
      show ([(0 : UInt8)] ++ Lib.repeatL [(0 : UInt8)] n).map _ = _
      rw [List.map_append, ih, List.replicate_succ]
      rfl
  exact key n
theorem bytesI_n8 (n : Nat) : bytesI (impl_hash.n8 (8 * (n : Int))) = spec_l01Hash.lb n 8 := by
  unfold impl_hash.n8
  rw [bytesI_nums]
  · show _ = [8 * (n : Int) / 2 ^ (8 * (7 - 0)) % 256, 8 * (n : Int) / 2 ^ (8 * (7 - 1)) % 256, 8 * (n : Int) / 2 ^ (8 * (7 - 2)) % 256, 8 * (n : Int) / 2 ^ (8 * (7 - 3)) % 256, 8 * (n : Int) / 2 ^ (8 * (7 - 4)) % 256, 8 * (n : Int) / 2 ^ (8 * (7 - 5)) % 256, 8 * (n : Int) / 2 ^ (8 * (7 - 6)) % 256, 8 * (n : Int) / 2 ^ (8 * (7 - 7)) % 256]
    generalize 8 * (n : Int) = x
    have p0 : (2 : Int) ^ (8 * (7 - 0)) = 72057594037927936 := by rfl
    have p1 : (2 : Int) ^ (8 * (7 - 1)) = 281474976710656 := by rfl
    have p2 : (2 : Int) ^ (8 * (7 - 2)) = 1099511627776 := by rfl
    have p3 : (2 : Int) ^ (8 * (7 - 3)) = 4294967296 := by rfl
    have p4 : (2 : Int) ^ (8 * (7 - 4)) = 16777216 := by rfl
    have p5 : (2 : Int) ^ (8 * (7 - 5)) = 65536 := by rfl
    have p6 : (2 : Int) ^ (8 * (7 - 6)) = 256 := by rfl
    have p7 : (2 : Int) ^ (8 * (7 - 7)) = 1 := by rfl
    rw [p0, p1, p2, p3, p4, p5, p6, p7]
    have q0 : x / 256 / 256 / 256 / 256 / 256 / 256 / 256 % 256 = x / 72057594037927936 % 256 := by omega
    have q1 : x / 256 / 256 / 256 / 256 / 256 / 256 % 256 = x / 281474976710656 % 256 := by omega
    have q2 : x / 256 / 256 / 256 / 256 / 256 % 256 = x / 1099511627776 % 256 := by omega
    have q3 : x / 256 / 256 / 256 / 256 % 256 = x / 4294967296 % 256 := by omega
    have q4 : x / 256 / 256 / 256 % 256 = x / 16777216 % 256 := by omega
    have q5 : x / 256 / 256 % 256 = x / 65536 % 256 := by omega
    have q7 : x % 256 = x / 1 % 256 := by omega
    rw [q0, q1, q2, q3, q4, q5, ← q7]
  · intro x hx
    simp only [List.mem_cons, List.mem_nil_iff, or_false] at hx
    rcases hx with rfl | rfl | rfl | rfl | rfl | rfl | rfl | rfl <;> omega
theorem pad_eq (s : ByteArray) : bytesI (((s ++ (⟨#[128]⟩ : ByteArray)) ++ impl_hash.zeros ((119 - s.size % 64) % 64)) ++ impl_hash.n8 (8 * (s.size : Int))) = spec_l01Hash.pad (bytesI s) := by
  rw [bytesI_append, bytesI_append, bytesI_append, bytesI_zeros, bytesI_n8]
  unfold spec_l01Hash.pad
  rw [bytesI_len, List.nil_append]
  rfl
theorem bytesI_extract (t : ByteArray) (a : Nat) : bytesI (t.extract a (a + 64)) = ((bytesI t).drop a).take 64 := by
  unfold bytesI
  rw [← List.map_drop, ← List.map_take]
  congr 1
  rw [ByteArray.data_extract, Array.toList_extract, List.extract_eq_take_drop]
  rw [Nat.add_sub_cancel_left]
theorem st_eq (K H : List Int) (t : ByteArray) (hH : H.length = 8) : ∀ i, impl_hash.st K H t i = spec_l01Hash.st K H (bytesI t) i
  | 0 => rfl
  | i + 1 => by
    unfold impl_hash.st spec_l01Hash.st
    rw [st_eq K H t hH i]
    refine block_eq _ _ _ _ (spec_l01Hash.st_len K H (bytesI t) hH i) fun j hj => ?_
    rw [bt_bytes, bytesI_extract]
theorem nums_append (a b : List Int) : strOfNums (a ++ b) = strOfNums a ++ strOfNums b := by
  unfold strOfNums
  rw [List.map_append]
  apply ByteArray.ext
  simp [ByteArray.append_eq]
theorem tx_eq (ST : List Int) : ∀ j, impl_hash.tx ST j = strOfNums (spec_l01Hash.ol ST j)
  | 0 => rfl
  | j + 1 => by
    unfold impl_hash.tx spec_l01Hash.ol
    rw [nums_append, tx_eq ST j]
    congr 1
    unfold impl_hash.n4
    have hw : ∃ q : Int, wrap64 (rd ST (j : Int)) = rd ST (j : Int) - q * 18446744073709551616 := by
      have e : wrap64 (rd ST (j : Int)) = IntKind.i64.wrap (rd ST (j : Int)) := (i64_w (rd ST (j : Int))).symm
      rw [e, IntKind.wrap_i64]
      generalize rd ST (j : Int) = x
      refine ⟨(x + 9223372036854775808) / 18446744073709551616, ?_⟩
      omega
    obtain ⟨q, hq⟩ := hw
    rw [hq]
    generalize rd ST (j : Int) = x
    have u8w : ∀ y : Int, IntKind.u8.wrap y = y % 256 := fun y => rfl
    rw [u8w, u8w, u8w, u8w]
    congr 1
    simp only [List.cons.injEq, and_true]
    refine ⟨?_, ?_, ?_, ?_⟩ <;> omega
theorem hash_eq (s : ByteArray) : impl_hash.v s = spec_l01Hash.v (bytesI s) := by
  unfold impl_hash.v spec_l01Hash.v
  rw [tx_eq, st_eq _ _ _ (by rfl), pad_eq, ← bytesI_len, pad_eq]
  rfl
end Go.Proofs.Ytggemblkhckbpaa.U

/- Numbers in bytes, as they stand in what is hashed; hashes have 32 bytes. -/
namespace Go.Proofs.Ytggemblkhckbpaa.U
open Go Go.RowKit Go.Proofs.Ytggemblkhckbpaa.Q Go.Proofs.YtggemblkhckbpaaW.PrintWords Go.Proofs.YtggemblkhckbpaaW.PrintLast Go.Proofs.YtggemblkhckbpaaW.PrintMore
set_option linter.unusedVariables false
set_option linter.unusedSimpArgs false

theorem num1_ev (n : Int) : Ev (fun k => impl_number.f k n 1) (strOfNums [n % 256]) := by
  unfold impl_number.f
  simp only [if_pos (show (0 : Int) ≤ 1 by decide), if_pos (show (1 : Int).toNat ≤ 281474976710656 by decide)]
  refine Ev.step (f := fun k => impl_number.l0 k (n / 256) [n % 256] (-1)) (fun k => ?_) (Ev.step (fun k => by rw [impl_number.l0, if_neg (by decide)]) (Ev.now _))
  have w00 : wrap64 (1 - 1) = 0 := by rw [wid (by decide) (by decide)]; rfl
  have w0 : wrap64 (0 - 1) = -1 := by rw [wid (by decide) (by decide)]; rfl
  rw [w00, impl_number.l0, if_pos (by decide), if_pos (by decide), if_pos (by decide), w0]
  rfl
theorem num4_ev (n : Int) : Ev (fun k => impl_number.f k n 4) (impl_hash.n4 n) := Ev.of (fun k => impl_number.mono _ _ k) (impl_hash.num4 n)
theorem nsz (l : List Int) : (strOfNums l).size = l.length := by simp [strOfNums, ByteArray.size]
theorem b1_bytes (n : Int) : bytesI (strOfNums [n % 256]) = [IntKind.u8.wrap n] := by
  rw [bytesI_nums _ (by intro x hx; simp at hx; omega)]
  rfl
theorem b4_bytes (n : Int) : bytesI (impl_hash.n4 n) = [IntKind.u8.wrap (n / 16777216), IntKind.u8.wrap (n / 65536), IntKind.u8.wrap (n / 256), IntKind.u8.wrap n] := by
  unfold impl_hash.n4
  rw [bytesI_nums _ (by intro x hx; simp at hx; omega)]
  have u8w : ∀ y : Int, IntKind.u8.wrap y = y % 256 := fun y => rfl
  simp only [u8w]
  have e1 : n / 256 / 256 / 256 = n / 16777216 := by omega
  have e2 : n / 256 / 256 = n / 65536 := by omega
  rw [e1, e2]
theorem ol_bd8 (ST : List Int) : ∀ n, ∀ x ∈ spec_l01Hash.ol ST n, 0 ≤ x ∧ x < 256
  | 0, x, hx => absurd hx (by simp [spec_l01Hash.ol])
  | n + 1, x, hx => by
    rw [spec_l01Hash.ol, List.mem_append] at hx
    rcases hx with hx | hx
    · exact ol_bd8 ST n x hx
    · have u8w : ∀ y : Int, IntKind.u8.wrap y = y % 256 := fun y => rfl
      simp only [List.mem_cons, List.mem_nil_iff, or_false, u8w] at hx
      rcases hx with rfl | rfl | rfl | rfl <;> omega
theorem hash_size (L : List Int) : (spec_l01Hash.v L).size = 32 := by
  unfold spec_l01Hash.v
  rw [nsz, spec_l01Hash.ol_len]
theorem firstBytes : bytesI (⟨#[102, 105, 114, 115, 116]⟩ : ByteArray) = [102, 105, 114, 115, 116] := by rfl
/-- What the first header has ahead of it. -/
def firstV : ByteArray := spec_l01Hash.v [102, 105, 114, 115, 116]
theorem implFirst_eq : impl_firstHash.f = some firstV := by
  unfold impl_firstHash.f impl_hash.f
  rw [if_pos (by decide), hash_eq, firstBytes]
  rfl
theorem specFirst_eq : spec_l06First.f = some firstV := by
  unfold spec_l06First.f spec_l01Hash.f
  rw [if_pos (by decide)]
  rfl
end Go.Proofs.Ytggemblkhckbpaa.U

/- A light client: whether it stands, whether a header does, a header's hash, and what the client is behind a header: the program's is the reference's. -/
namespace Go.Proofs.Ytggemblkhckbpaa.U
open Go Go.RowKit Go.Proofs.Ytggemblkhckbpaa.Q Go.Proofs.YtggemblkhckbpaaW.PrintWords Go.Proofs.YtggemblkhckbpaaW.PrintLast Go.Proofs.YtggemblkhckbpaaW.PrintMore
set_option linter.unusedVariables false
set_option linter.unusedSimpArgs false

theorem iwithin_eq (n a b : Int) : impl_within.f n a b = some (decide (a ≤ n ∧ n ≤ b)) := by
  unfold impl_within.f
  by_cases h : n ≥ a
  · rw [if_pos h]; congr 1; rw [decide_eq_decide]; omega
  · rw [if_neg h]; congr 1; rw [eq_comm, decide_eq_false_iff_not]; omega
theorem swithin_eq (n a b : Int) : spec_l01In.f n a b = some (decide (a ≤ n ∧ n ≤ b)) := by
  unfold spec_l01In.f
  by_cases h : n ≥ a
  · rw [if_pos h]; congr 1; rw [decide_eq_decide]; omega
  · rw [if_neg h]; congr 1; rw [eq_comm, decide_eq_false_iff_not]; omega
def hashB (x : ByteArray) : Bool := decide (x.size = 32)
def timeB (n : Int) : Bool := decide (0 ≤ n ∧ n ≤ 1000000000)
theorem isHash_of (l : List ByteArray) : impl_isHash.f l = some (l.all hashB) := by
  unfold impl_isHash.f
  congr 1
  induction l with
  | nil => rfl
  | cons x l ih =>
    simp only [List.any_cons, List.all_cons, Bool.not_or, ih]
    congr 1
    unfold hashB
    by_cases h : x.size = 32
    · rw [decide_eq_true h, show ((x.size : Int) != 32) = false from bne_eq_false_iff_eq.mpr (by omega)]; rfl
    · rw [decide_eq_false h, show ((x.size : Int) != 32) = true from bne_iff_ne.mpr (by omega)]; rfl
theorem isTime_eq (n : Int) : impl_isTime.f n = some (timeB n) := by
  unfold impl_isTime.f
  rw [iwithin_eq]
  rfl
def headB (h0 h1 : Int) (h2 h3 : ByteArray) : Bool := decide (1 ≤ h0 ∧ h0 ≤ 60) && (timeB h1 && (hashB h2 && hashB h3))
theorem implHead_eq (h0 h1 : Int) (h2 h3 : ByteArray) : impl_HeaderOK.f h0 h1 h2 h3 = some (headB h0 h1 h2 h3) := by
  unfold impl_HeaderOK.f headB
  rw [iwithin_eq]
  simp only [Option.bind_some, isTime_eq, isHash_of, List.all_cons, List.all_nil, Bool.and_true]
  cases decide (1 ≤ h0 ∧ h0 ≤ 60) <;> cases timeB h1 <;> simp
theorem specHead_eq (h0 h1 : Int) (h2 h3 : ByteArray) : spec_HeaderOK.f h0 h1 h2 h3 = some (headB h0 h1 h2 h3) := by
  unfold spec_HeaderOK.f headB
  simp only [swithin_eq, Option.bind_some, timeB, hashB]
  cases decide (1 ≤ h0 ∧ h0 ≤ 60) <;> cases decide (0 ≤ h1 ∧ h1 ≤ 1000000000) <;> simp
  by_cases h : h2.size = 32
  · rw [if_pos (by omega)]
    by_cases h' : h3.size = 32
    · rw [show ((h3.size : Int) == 32) = true from beq_iff_eq.mpr (by omega)]; simp [h, h']
    · rw [show ((h3.size : Int) == 32) = false from beq_eq_false_iff_ne.mpr (by omega)]; simp [h, h']
  · rw [if_neg (by omega)]; simp [h]
def laterB (l : List IS) (i : Nat) : Bool := decide (i = 0) || decide ((rd_T39 l ((i : Int) - 1)).f0 ≤ (rd_T39 l (i : Int)).f0)
def stateB (l : List IS) (i : Nat) : Bool := timeB (rd_T39 l (i : Int)).f0 && (hashB (rd_T39 l (i : Int)).f1 && laterB l i)
def fromS (l : List IS) : Nat → Nat → Bool
  | 0, _ => true
  | d + 1, i => stateB l i && fromS l d (i + 1)
/-- The client stands. -/
def clientB (a : ByteArray) (l : List IS) : Bool := hashB a && ((decide (0 < l.length) || (a.toList == firstV.toList)) && (fromS l l.length 0 && decide (l.length ≤ 60)))
theorem implClient_go (a : ByteArray) (l : List IS) (hl : l.length ≤ 1048577) : ∀ (d i : Nat), i + d = l.length → Ev (fun k => impl_ClientOK.l0 k l (l.length : Int) (i : Int) a l) (fromS l d i && decide (l.length ≤ 60)) := by
  intro d
  induction d with
  | zero =>
    intro i hi
    refine Ev.step (fun k => ?_) (Ev.now _)
    rw [impl_ClientOK.l0, if_neg (by omega), fromS, Bool.true_and]
    congr 1; rw [decide_eq_decide]; omega
  | succ d ih =>
    intro i hi
    have hstep : ∀ k, impl_ClientOK.l0 (k + 1) l (l.length : Int) (i : Int) a l = if stateB l i = true then impl_ClientOK.l0 k l (l.length : Int) ((i + 1 : Nat) : Int) a l else some false := by
      intro k
      rw [impl_ClientOK.l0, if_pos (by omega), if_pos (by omega), if_pos (by omega), isTime_eq]
      simp only [Option.bind_some, stateB, laterB, isHash_of, List.all_cons, List.all_nil, Bool.and_true]
      rw [wid (n := (i : Int) + 1) (by omega) (by omega)]
      rcases Bool.eq_false_or_eq_true (timeB (rd_T39 l (i : Int)).f0) with hk | hk
      · rcases Bool.eq_false_or_eq_true (hashB (rd_T39 l (i : Int)).f1) with hv | hv
        · simp only [hk, hv, Bool.true_and, if_true]
          by_cases h0 : i = 0
          · subst h0; simp
          · rw [if_pos (show (i : Int) > 0 by omega), wid (n := (i : Int) - 1) (by omega) (by omega), if_pos (by omega), if_pos (by omega), decide_eq_false h0, Bool.false_or]
            by_cases hq : (rd_T39 l ((i : Int) - 1)).f0 ≤ (rd_T39 l (i : Int)).f0
            · rw [if_neg (by omega), if_pos (decide_eq_true hq)]; rfl
            · rw [if_pos (by omega), if_neg (by simp only [decide_eq_true_eq]; exact hq)]
        · simp only [hk, hv, Bool.true_and, Bool.false_and, Bool.false_eq_true, if_false, if_true]
      · simp only [hk, Bool.false_and, Bool.false_eq_true, if_false]
    have h2 := ih (i + 1) (by omega)
    refine Ev.step hstep ?_
    rw [fromS]
    cases stateB l i with
    | false => exact Ev.now _
    | true => simp only [if_true, Bool.true_and]; exact h2
theorem specClient_go (a : ByteArray) (l : List IS) (hl : l.length ≤ 1048577) : ∀ (d i : Nat), i + d = l.length → Ev (fun k => spec_ClientOK.l0 k (i : Int) a l) (fromS l d i) := by
  intro d
  induction d with
  | zero =>
    intro i hi
    exact Ev.step (fun k => by rw [spec_ClientOK.l0, if_neg (by omega)]; rfl) (Ev.now _)
  | succ d ih =>
    intro i hi
    have hstep : ∀ k, spec_ClientOK.l0 (k + 1) (i : Int) a l = if stateB l i = true then spec_ClientOK.l0 k ((i + 1 : Nat) : Int) a l else some false := by
      intro k
      rw [spec_ClientOK.l0, if_pos (by omega), if_pos (by omega), swithin_eq]
      simp only [Option.bind_some, stateB, laterB]
      rw [wid (n := (i : Int) + 1) (by omega) (by omega)]
      rcases Bool.eq_false_or_eq_true (timeB (rd_T39 l (i : Int)).f0) with hk | hk
      · have hk' := hk
        unfold timeB at hk'
        by_cases hv : ((rd_T39 l (i : Int)).f1).size = 32
        · have hv' : hashB (rd_T39 l (i : Int)).f1 = true := decide_eq_true hv
          simp only [hk, hk', hv', Bool.true_and, if_true]
          rw [if_pos (by omega)]
          by_cases h0 : i = 0
          · subst h0; simp
          · rw [if_pos (show (i : Int) > 0 by omega), wid (n := (i : Int) - 1) (by omega) (by omega), if_pos (by omega), if_pos (by omega), decide_eq_false h0, Bool.false_or]
            by_cases hq : (rd_T39 l ((i : Int) - 1)).f0 ≤ (rd_T39 l (i : Int)).f0
            · rw [if_neg (by omega), if_pos (decide_eq_true hq)]; rfl
            · rw [if_pos (by omega), if_neg (by simp only [decide_eq_true_eq]; exact hq)]
        · have hv' : hashB (rd_T39 l (i : Int)).f1 = false := decide_eq_false hv
          simp only [hk, hk', hv', Bool.true_and, Bool.false_and, Bool.false_eq_true, if_false, if_true]
          rw [if_neg (by omega)]
      · have hk' := hk
        unfold timeB at hk'
        simp only [hk, hk', Bool.false_and, Bool.false_eq_true, if_false]
    have h2 := ih (i + 1) (by omega)
    refine Ev.step hstep ?_
    rw [fromS]
    cases stateB l i with
    | false => exact Ev.now _
    | true => simp only [if_true, Bool.true_and]; exact h2
theorem implClient_ev (a : ByteArray) (l : List IS) (hl : l.length ≤ 1048577) : Ev (fun k => impl_ClientOK.f k a l) (clientB a l) := by
  unfold impl_ClientOK.f clientB
  simp only [isHash_of, List.all_cons, List.all_nil, Bool.and_true, Option.bind_some, implFirst_eq]
  have bad : Ev (fun k => impl_ClientOK.j0 k true a l) false := Ev.step (fun k => by rw [impl_ClientOK.j0, if_pos rfl]) (Ev.now _)
  have good : Ev (fun k => impl_ClientOK.j0 k false a l) (fromS l l.length 0 && decide (l.length ≤ 60)) := Ev.step (fun k => by rw [impl_ClientOK.j0, if_neg (by decide)]; rfl) (implClient_go a l hl l.length 0 (by omega))
  cases hashB a with
  | false => simp only [Bool.false_eq_true, if_false, Bool.false_and]; exact bad
  | true =>
    simp only [if_true, Bool.true_and]
    by_cases h0 : l.length = 0
    · simp only [if_pos (show (l.length : Int) = 0 by omega), decide_eq_false (show ¬ 0 < l.length by omega), Bool.false_or]
      rcases Bool.eq_false_or_eq_true (a.toList == firstV.toList) with hq | hq
      · simp only [bne, hq, Bool.not_true, Bool.true_and]; exact good
      · simp only [bne, hq, Bool.not_false, Bool.false_and]; exact bad
    · simp only [if_neg (show ¬ (l.length : Int) = 0 by omega), decide_eq_true (show 0 < l.length by omega), Bool.true_or, Bool.true_and]
      exact good
theorem specClient_ev (a : ByteArray) (l : List IS) (hl : l.length ≤ 1048577) : Ev (fun k => spec_ClientOK.f k a l) (clientB a l) := by
  unfold spec_ClientOK.f clientB
  simp only [Option.bind_some, specFirst_eq]
  have bad : Ev (fun k => spec_ClientOK.j0 k true a l) false := Ev.step (fun k => by rw [spec_ClientOK.j0, if_pos rfl]) (Ev.now _)
  have good : Ev (fun k => spec_ClientOK.j0 k false a l) (fromS l l.length 0) := Ev.step (fun k => by rw [spec_ClientOK.j0, if_neg (by decide)]; rfl) (specClient_go a l hl l.length 0 (by omega))
  by_cases ha : a.size = 32
  · have ha' : hashB a = true := decide_eq_true ha
    simp only [ha', Bool.true_and, if_pos (show (a.size : Int) = 32 by omega)]
    by_cases h6 : l.length ≤ 60
    · simp only [if_neg (show ¬ (l.length : Int) > 60 by omega), decide_eq_true h6, Bool.and_true]
      by_cases h0 : l.length = 0
      · simp only [if_pos (show (l.length : Int) = 0 by omega), decide_eq_false (show ¬ 0 < l.length by omega), Bool.false_or]
        rcases Bool.eq_false_or_eq_true (a.toList == firstV.toList) with hq | hq
        · simp only [bne, hq, Bool.not_true, Bool.true_and]; exact good
        · simp only [bne, hq, Bool.not_false, Bool.false_and]; exact bad
      · simp only [if_neg (show ¬ (l.length : Int) = 0 by omega), decide_eq_true (show 0 < l.length by omega), Bool.true_or, Bool.true_and]
        exact good
    · simp only [if_pos (show (l.length : Int) > 60 by omega), decide_eq_false h6, Bool.and_false]
      exact bad
  · have ha' : hashB a = false := decide_eq_false ha
    simp only [ha', Bool.false_and, if_neg (show ¬ (a.size : Int) = 32 by omega)]
    exact bad
/-- A header's hash. -/
def headV (h0 h1 : Int) (h2 h3 : ByteArray) : ByteArray := spec_l01Hash.v ([104, 101, 97, 100, 101, 114] ++ spec_l06Bytes.v h0 h1 h2 h3)
theorem headerBytes : bytesI (⟨#[104, 101, 97, 100, 101, 114]⟩ : ByteArray) = [104, 101, 97, 100, 101, 114] := by rfl
theorem specHeadHash_eq (h0 h1 : Int) (h2 h3 : ByteArray) (e2 : h2.size = 32) (e3 : h3.size = 32) : spec_l06Hash.f h0 h1 h2 h3 = some (headV h0 h1 h2 h3) := by
  unfold spec_l06Hash.f spec_l06Bytes.f
  rw [if_pos (by omega), Option.bind_some, spec_l01Hash.f, if_pos (by simp [spec_l06Bytes.v, bytesOf_length]; omega)]
  rfl
theorem implHeadHash_ev (h0 h1 : Int) (h2 h3 : ByteArray) (e2 : h2.size = 32) (e3 : h3.size = 32) : Ev (fun k => impl_Header_hash.f k h0 h1 h2 h3) (headV h0 h1 h2 h3) := by
  unfold impl_Header_hash.f impl_Header_bytes.f
  have s1 : (strOfNums [h0 % 256]).size = 1 := by rw [nsz]; rfl
  have s4 : (impl_hash.n4 h1).size = 4 := by unfold impl_hash.n4; rw [nsz]; rfl
  refine Ev.bind (a := ((strOfNums [h0 % 256] ++ impl_hash.n4 h1) ++ h2) ++ h3) (Ev.bind (num1_ev h0) (Ev.bind (num4_ev h1) ?_)) ?_
  · rw [if_pos (by omega), if_pos (by rw [ByteArray.size_append]; omega), if_pos (by simp only [ByteArray.size_append]; omega)]
    exact Ev.now _
  · have hs : (((strOfNums [h0 % 256] ++ impl_hash.n4 h1) ++ h2) ++ h3).size = 69 := by simp only [ByteArray.size_append]; omega
    have e : impl_hash.f ((⟨#[104, 101, 97, 100, 101, 114]⟩ : ByteArray) ++ (((strOfNums [h0 % 256] ++ impl_hash.n4 h1) ++ h2) ++ h3)) = some (headV h0 h1 h2 h3) := by
      unfold impl_hash.f
      rw [if_pos (by rw [ByteArray.size_append, hs]; decide), hash_eq]
      congr 1
      unfold headV spec_l06Bytes.v
      congr 1
      simp only [bytesI_append, headerBytes, b1_bytes, b4_bytes]
      rfl
    rw [if_pos (by rw [hs]; decide), e]
    exact Ev.now _
/-- What the client is behind a header that stands, and the code. -/
def updV (a : ByteArray) (l : List IS) (h0 h1 : Int) (h2 h3 : ByteArray) : ByteArray × List IS × Int :=
  if h0 ≤ (l.length : Int) then (a, l, 15) else if h0 = (l.length : Int) + 1 then (if h2.toList = a.toList then (if 0 < l.length ∧ h1 < (rd_T39 l ((l.length : Int) - 1)).f0 then (a, l, 4) else (headV h0 h1 h2 h3, l ++ [⟨h1, h3⟩], 0)) else (a, l, 11)) else (a, l, 14)
theorem specUpdate_eq (a : ByteArray) (l : List IS) (h0 h1 : Int) (h2 h3 : ByteArray) (hl : l.length ≤ 60) (e2 : h2.size = 32) (e3 : h3.size = 32) : spec_l06Update.f a l h0 h1 h2 h3 = some (updV a l h0 h1 h2 h3) := by
  unfold spec_l06Update.f updV
  rw [wid (n := (l.length : Int) + 1) (by omega) (by omega), wid (n := (l.length : Int) - 1) (by omega) (by omega)]
  simp only [Option.bind_some, List.nil_append, specHeadHash_eq h0 h1 h2 h3 e2 e3, List.length_nil, List.length_cons]
  by_cases c1 : h0 ≤ (l.length : Int)
  · rw [if_pos c1, if_pos c1]
  rw [if_neg c1, if_neg c1]
  by_cases c2 : h0 = (l.length : Int) + 1
  rotate_left
  · rw [if_neg c2, if_neg c2]
  rw [if_pos c2, if_pos c2]
  by_cases c3 : h2.toList = a.toList
  rotate_left
  · rw [if_neg c3, if_neg c3]
  rw [if_pos c3, if_pos c3]
  by_cases c4 : 0 < l.length
  · rw [if_pos (by omega), if_pos (by omega), if_pos (by omega)]
    by_cases c5 : h1 < (rd_T39 l ((l.length : Int) - 1)).f0
    · rw [if_pos c5, if_pos ⟨c4, c5⟩]
    · rw [if_neg c5, if_neg (show ¬ (0 < l.length ∧ h1 < (rd_T39 l ((l.length : Int) - 1)).f0) from fun h => c5 h.2), if_pos (by omega), if_pos (by omega)]
  · rw [if_neg (show ¬ (l.length : Int) > 0 by omega), if_neg (show ¬ (0 < l.length ∧ h1 < (rd_T39 l ((l.length : Int) - 1)).f0) from fun h => c4 h.1), if_pos (by omega), if_pos (by omega)]
theorem implUpdate_ev (a : ByteArray) (l : List IS) (h0 h1 : Int) (h2 h3 : ByteArray) (hl : l.length ≤ 60) (e2 : h2.size = 32) (e3 : h3.size = 32) : Ev (fun k => impl_Client_update.f k a l h0 h1 h2 h3) (updV a l h0 h1 h2 h3) := by
  unfold impl_Client_update.f updV
  simp only [if_pos (show l.length ≤ 1000000 by omega)]
  by_cases c1 : h0 ≤ (l.length : Int)
  · simp only [if_pos c1]; exact Ev.now _
  simp only [if_neg c1]
  by_cases c2 : h0 = (l.length : Int) + 1
  rotate_left
  · simp only [if_neg c2]; exact Ev.now _
  simp only [if_pos c2]
  by_cases c3 : h2.toList = a.toList
  rotate_left
  · simp only [if_neg c3]; exact Ev.now _
  simp only [if_pos c3]
  by_cases c4 : 0 < l.length ∧ h1 < (rd_T39 l ((l.length : Int) - 1)).f0
  · simp only [if_pos c4]; exact Ev.now _
  · simp only [if_neg c4]
    exact Ev.bind (implHeadHash_ev h0 h1 h2 h3 e2 e3) (Ev.now _)
theorem fromS_len (a : ByteArray) (l : List IS) (h : clientB a l = true) : l.length ≤ 60 := by
  unfold clientB at h
  simp only [Bool.and_eq_true, decide_eq_true_eq] at h
  exact h.2.2.2
theorem headB_sizes {h0 h1 : Int} {h2 h3 : ByteArray} (h : headB h0 h1 h2 h3 = true) : h2.size = 32 ∧ h3.size = 32 := by
  unfold headB hashB at h
  simp only [Bool.and_eq_true, decide_eq_true_eq] at h
  exact ⟨h.2.2.1, h.2.2.2⟩
def updateV (a : ByteArray) (l : List IS) (h0 h1 : Int) (h2 h3 : ByteArray) : ByteArray × List IS × Int :=
  if clientB a l = true ∧ headB h0 h1 h2 h3 = true then updV a l h0 h1 h2 h3 else ((⟨#[]⟩ : ByteArray), [], 1)
theorem updateV_len (a : ByteArray) (l : List IS) (h0 h1 : Int) (h2 h3 : ByteArray) (hl : l.length ≤ 1048576) : (updateV a l h0 h1 h2 h3).2.1.length ≤ 1048577 := by
  unfold updateV updV
  repeat' split
  all_goals simp <;> omega
theorem specUpdateClient_ev (a : ByteArray) (l : List IS) (h0 h1 : Int) (h2 h3 : ByteArray) (hl : l.length ≤ 1048576) : Ev (fun k => spec_UpdateClient.f k a l h0 h1 h2 h3) (updateV a l h0 h1 h2 h3) := by
  unfold spec_UpdateClient.f updateV
  refine Ev.bind (specClient_ev a l (by omega)) ?_
  have bad : Ev (fun k => spec_UpdateClient.j0 k true a l h0 h1 h2 h3) ((⟨#[]⟩ : ByteArray), [], 1) := Ev.step (fun k => by rw [spec_UpdateClient.j0, if_pos rfl]) (Ev.now _)
  rcases Bool.eq_false_or_eq_true (clientB a l) with hc | hc
  · simp only [hc, if_true, specHead_eq, Option.bind_some, true_and]
    rcases Bool.eq_false_or_eq_true (headB h0 h1 h2 h3) with hh | hh
    · simp only [hh, Bool.not_true, if_true]
      refine Ev.step (fun k => ?_) (Ev.now _)
      rw [spec_UpdateClient.j0, if_neg (by decide), specUpdate_eq a l h0 h1 h2 h3 (fromS_len a l hc) (headB_sizes hh).1 (headB_sizes hh).2, Option.bind_some]
      have hlen : (updV a l h0 h1 h2 h3).2.1.length ≤ 1048577 := by
        have := updateV_len a l h0 h1 h2 h3 hl
        unfold updateV at this
        rw [if_pos ⟨hc, hh⟩] at this
        exact this
      simp only [spec_l06Own.f, Option.bind_some, List.nil_append, List.length_nil]
      rw [if_pos (by omega), Option.bind_some]
    · simp only [hh, Bool.not_false, Bool.false_eq_true, if_false]; exact bad
  · simp only [hc, Bool.false_eq_true, if_false, false_and]; exact bad
theorem implUpdateClient_ev (a : ByteArray) (l : List IS) (h0 h1 : Int) (h2 h3 : ByteArray) (hl : l.length ≤ 1048576) : Ev (fun k => impl_UpdateClient.f k a l h0 h1 h2 h3) (updateV a l h0 h1 h2 h3) := by
  unfold impl_UpdateClient.f updateV
  refine Ev.bind (implClient_ev a l (by omega)) ?_
  rcases Bool.eq_false_or_eq_true (clientB a l) with hc | hc
  · simp only [hc, if_true, implHead_eq, Option.bind_some, true_and]
    rcases Bool.eq_false_or_eq_true (headB h0 h1 h2 h3) with hh | hh
    · simp only [hh, if_true]
      have ec : impl_copyClient.f a l = some (a, l) := by
        unfold impl_copyClient.f slices_Clone_impl_State_impl_State.f
        rw [if_pos (by omega)]
        rfl
      simp only [ec, Option.bind_some]
      exact implUpdate_ev a l h0 h1 h2 h3 (fromS_len a l hc) (headB_sizes hh).1 (headB_sizes hh).2
    · simp only [hh, Bool.false_eq_true, if_false]; exact Ev.now _
  · simp only [hc, Bool.false_eq_true, if_false, false_and]; exact Ev.now _
end Go.Proofs.Ytggemblkhckbpaa.U

/- UpdateClient of the program returns what the reference's returns, for all arguments, and shares no memory. -/
namespace Go.Proofs.Ytggemblkhckbpaa.Pure
open Go Go.RowKit Go.Proofs.Ytggemblkhckbpaa.Q Go.Proofs.Ytggemblkhckbpaa.U Go.Proofs.YtggemblkhckbpaaW.PrintWords Go.Proofs.YtggemblkhckbpaaW.PrintLast Go.Proofs.YtggemblkhckbpaaW.PrintMore
set_option linter.unusedVariables false
set_option linter.unusedSimpArgs false

theorem FnExactUpdateClient (a : ByteArray) (l : List LS) (hw0 : a.size ≤ maxLen ∧ (l.length ≤ maxLen ∧ ∀ x ∈ l, ((Lit.int .i64 x.f0).wf = true ∧ x.f1.size ≤ maxLen))) (h0 h1 : Int) (h2 h3 : ByteArray)
    (hw1 : (Lit.int .i64 h0).wf = true ∧ ((Lit.int .i64 h1).wf = true ∧ (h2.size ≤ maxLen ∧ h3.size ≤ maxLen))) : ∃ k, laws_FnExactUpdateClient.f k a l h0 h1 h2 h3 = some true := by
  refine Ev.rounds (?_ : Ev (fun k => laws_FnExactUpdateClient.f k a l h0 h1 h2 h3) true)
  have hm : maxLen = 9223372036854775807 := rfl
  rw [hm] at hw0 hw1
  unfold laws_FnExactUpdateClient.f
  obtain ⟨z, e, hz⟩ := szClient_ev a l 1048576 hw0.1 hw0.2.1 (fun x hx => (hw0.2.2 x hx).2) (by decide) (by decide)
  refine Ev.bind e ?_
  by_cases hneg : z < 0
  · simp only [if_pos hneg]; exact Ev.now _
  simp only [if_neg hneg]
  rcases hz with hz | ⟨hz0, hz1, _, hs⟩
  · exact absurd hz hneg
  obtain ⟨y, e', hy⟩ := szHeader_ok h0 h1 h2 h3 z hw1.2.2.1 hw1.2.2.2 hz0 hz1
  simp only [e', Option.bind_some]
  by_cases hneg' : y < 0
  · simp only [if_pos hneg']; exact Ev.now _
  simp only [if_neg hneg']
  have hl : (l.map toS).length ≤ 1048576 := by rw [List.length_map]; exact hs.1
  have tc := toClient_ev a l hs.1
  have sp := specUpdateClient_ev a (l.map toS) h0 h1 h2 h3 hl
  have im := implUpdateClient_ev a (l.map toS) h0 h1 h2 h3 hl
  have hv := updateV_len a (l.map toS) h0 h1 h2 h3 hl
  obtain ⟨V, hV⟩ : ∃ V, V = updateV a (l.map toS) h0 h1 h2 h3 := ⟨_, rfl⟩
  rw [← hV] at sp im hv
  obtain ⟨v1, v2, v3⟩ := V
  clear hV
  have eq1 := eqClient_ev v1 v2 hv
  have hd : laws_toHeader.f h0 h1 h2 h3 = some (h0, h1, h2, h3) := rfl
  have ht : (bne v3 v3) = false := bne_self_eq_false v3
  refine Ev.bind tc ?_
  simp only [hd, Option.bind_some]
  refine Ev.bind sp (Ev.bind tc (Ev.bind im (Ev.bind eq1 ?_)))
  simp only [if_true, ht]
  refine Ev.step (fun k => by rw [laws_FnExactUpdateClient.j0, if_neg (by decide)]) (Ev.bind tc (Ev.bind (eqClient_ev a (l.map toS) (by omega)) ?_))
  simp only [if_true]
  have mk := markClient_ev a (l.map toS) 1 (by omega) (by decide)
  refine Ev.bind mk ?_
  simp only [if_neg (show ¬ ((1 + 2 * (l.map toS).length : Nat) : Int) < 0 by omega)]
  refine Ev.bind eq1 ?_
  simp only [if_true, ht]
  refine Ev.step (fun k => by rw [laws_FnExactUpdateClient.j1, if_neg (by decide)]) ?_
  have mk2 := markClient_ev v1 v2 1 hv (by decide)
  have he := heldClient_ev v1 v2 1 hv (by decide)
  refine Ev.bind mk2 (Ev.bind he ?_)
  simp only [if_neg (show ¬ ((1 + 2 * v2.length : Nat) : Int) < 0 by omega), if_true]
  refine Ev.bind tc ?_
  simp only [hd, Option.bind_some]
  refine Ev.bind im (Ev.bind eq1 ?_)
  simp only [if_true, ht]
  refine Ev.step (fun k => by rw [laws_FnExactUpdateClient.j2, if_neg (by decide)]; rfl) (Ev.bind he ?_)
  simp only [if_neg (show ¬ ((1 + 2 * v2.length : Nat) : Int) < 0 by omega), if_true]
  exact Ev.now _
end Go.Proofs.Ytggemblkhckbpaa.Pure

/- An argument of a law, whatever its type: read whole from what was handed over. -/
namespace Go.Proofs.Ytggemblkhckbpaa.U
open Go Go.ChangeShapes Go.WideShapes Go.ChangeAt Go.RowKit Go.Proofs.YtggemblkhckbpaaW.PrintWords
set_option linter.unusedVariables false
set_option linter.unusedSimpArgs false

theorem addr_add_add (a : Addr) (i j : Nat) : (a.add i).add j = a.add (i + j) := by
  unfold Addr.add
  by_cases h0 : i = 0
  · subst h0; simp
  by_cases h1 : j = 0
  · subst h1; simp
  rw [if_neg h0, if_neg h1, if_neg (by omega)]
  simp only [Nat.add_assoc]
/-- What is handed over as a t can be read as a d. -/
structure Opens {α : Type} (P : Program) (t : TypeId) (d : Kd α) (wf : α → Prop) : Prop where
  out : ∀ {H : Type} (enc : TypeId × Value → H) (w : World) (base : Nat) (sp : Nat → Bool) (held : Bool) (n : Nat) (cs : List Value) (x : DataW H × List MemPlace),
    DataW.trod enc P w base sp held n t cs = some x → ∃ a, d.K w a cs ∧ wf a
theorem Opens.int {P : Program} {t : TypeId} {k : IntKind} (ht : P.underlying t = some (.int k)) : Opens P t (Kd.int k) (fun n => (Lit.int k n).wf = true) := by
  constructor
  intro H enc w base sp held n cs x h
  obtain ⟨m, rfl, rfl, hw⟩ := DataW.trod_int ht h
  exact ⟨m, rfl, hw⟩
theorem Opens.bool {P : Program} {t : TypeId} (ht : P.underlying t = some .bool) : Opens P t Kd.bool (fun _ => True) := by
  constructor
  intro H enc w base sp held n cs x h
  obtain ⟨m, rfl, rfl⟩ := DataW.trod_bool ht h
  exact ⟨m, rfl, trivial⟩
theorem Opens.string {P : Program} {t : TypeId} (ht : P.underlying t = some .string) : Opens P t Kd.string (fun s => s.size ≤ maxLen) := by
  constructor
  intro H enc w base sp held n cs x h
  obtain ⟨m, rfl, rfl, hw⟩ := DataW.trod_string ht h
  exact ⟨m, rfl, hw⟩
theorem all_of_each {α : Type} : ∀ (n : Nat) (p : Nat → α → Prop), (∀ i, i < n → ∃ a, p i a) → ∃ xs : List α, xs.length = n ∧ ∀ i a, xs[i]? = some a → p i a
  | 0, _, _ => ⟨[], rfl, fun i a h => by simp at h⟩
  | n + 1, p, h => by
    obtain ⟨a, ha⟩ := h 0 (by omega)
    obtain ⟨xs, hl, hx⟩ := all_of_each n (fun i => p (i + 1)) (fun i hi => h (i + 1) (by omega))
    refine ⟨a :: xs, by simp [hl], fun i b hb => ?_⟩
    cases i with
    | zero => simp at hb; subst hb; exact ha
    | succ j => exact hx j b (by simpa using hb)
theorem Opens.slice {α : Type} {P : Program} {t e : TypeId} {d : Kd α} {wf : α → Prop} (ht : P.underlying t = some (.slice e)) (hs : P.cellsOf e = d.sz) (hd : Opens P e d wf) :
    Opens P t (Kd.slice e d) (fun xs => xs.length ≤ maxLen ∧ ∀ x ∈ xs, wf x) := by
  constructor
  intro H enc w base sp held n cs x h
  rcases DataW.trod_slice ht h with ⟨rfl, rfl⟩ | ⟨a, len, cap, elems, rest, m, rfl, rfl, rfl, hb, hl, hm, hlen, hel, _, _⟩
  · exact ⟨[], ⟨none, 0, rfl, by simp, rfl, by simp, by simp⟩, by simp, by simp⟩
  obtain ⟨xs, hxl, hx⟩ := all_of_each len (fun i y => wf y ∧ ∃ c, c.length = d.sz ∧ d.K w y c ∧ ∀ j u, c[j]? = some u → w.cell? (a.add (i * d.sz + j)) = some u) (fun i hi => by
    have h1 := hel i hi
    rw [List.getElem?_eq_getElem (by omega)] at h1
    obtain ⟨c, hc, hy⟩ := Option.bind_eq_some_iff.mp h1
    obtain ⟨_, hcl, hcell⟩ := World.cells?_some hc
    obtain ⟨y, hk, hw⟩ := hd.out _ _ _ _ _ _ _ _ hy
    refine ⟨y, hw, c, by omega, hk, fun j u hu => ?_⟩
    have hj : j < P.cellsOf e := by
      rcases Nat.lt_or_ge j c.length with h' | h'
      · omega
      · rw [List.getElem?_eq_none h'] at hu; cases hu
    have h2 := hcell j hj
    rw [hu] at h2
    rw [← hs, ← h2, addr_add_add])
  subst hxl
  refine ⟨xs, ⟨some a, cap, rfl, hl, rfl, by have : maxLen = 9223372036854775807 := rfl; omega, fun _ => ⟨a, rfl, fun j p hp => (hx j p hp).2⟩⟩, by omega, fun x hxm => ?_⟩
  obtain ⟨i, hi, rfl⟩ := List.getElem_of_mem hxm
  exact (hx i _ (List.getElem?_eq_getElem hi)).1
/-- The fields of a struct, from a cell on. -/
structure OpensF {α : Type} (P : Program) (fs : List Field) (off : Nat) (d : Kd α) (wf : α → Prop) : Prop where
  out : ∀ {H : Type} (enc : TypeId × Value → H) (w : World) (base : Nat) (sp : Nat → Bool) (held : Bool) (n : Nat) (cs : List Value),
    cs.length = off + d.sz → (∀ f ∈ fs, ∃ y, DataW.trod enc P w base sp held n f.type ((cs.drop f.offset).take (P.cellsOf f.type)) = some y) → ∃ a, d.K w a (cs.drop off) ∧ wf a
theorem OpensF.one {α : Type} {P : Program} {f : Field} {d : Kd α} {wf : α → Prop} (hd : Opens P f.type d wf) (hs : P.cellsOf f.type = d.sz) : OpensF P [f] f.offset d wf := by
  constructor
  intro H enc w base sp held n cs hl hf
  obtain ⟨y, hy⟩ := hf f (by simp)
  rw [List.take_of_length_le (by rw [List.length_drop]; omega)] at hy
  exact hd.out _ _ _ _ _ _ _ _ hy
theorem OpensF.cons {α β : Type} {P : Program} {f : Field} {fs : List Field} {d : Kd α} {d1 : Kd β} {wf : α → Prop} {wf1 : β → Prop} (hd : Opens P f.type d wf) (hs : P.cellsOf f.type = d.sz) (h1 : OpensF P fs (f.offset + d.sz) d1 wf1) :
    OpensF P (f :: fs) f.offset (Kd.pair d d1) (fun p => wf p.1 ∧ wf1 p.2) := by
  constructor
  intro H enc w base sp held n cs hl hf
  have hl' : cs.length = f.offset + (d.sz + d1.sz) := hl
  obtain ⟨y, hy⟩ := hf f (by simp)
  obtain ⟨a, ha, wa⟩ := hd.out _ _ _ _ _ _ _ _ hy
  obtain ⟨b, hb, wb⟩ := h1.out enc w base sp held n cs (by omega) (fun g hg => hf g (by simp [hg]))
  refine ⟨(a, b), ⟨_, _, ?_, ha, hb⟩, wa, wb⟩
  rw [hs, ← List.drop_drop, List.take_append_drop]
theorem Opens.struct {α : Type} {P : Program} {t : TypeId} {fs : Array Field} {d : Kd α} {wf : α → Prop} (ht : P.underlying t = some (.struct fs)) (hs : P.cellsOf t = d.sz) (hf : OpensF P fs.toList 0 d wf) : Opens P t d wf := by
  constructor
  intro H enc w base sp held n cs x h
  obtain ⟨xs, m, rfl, rfl, hl, hxl, hx⟩ := DataW.trod_struct ht h
  have := hf.out enc w base sp held m cs (by omega) (fun f hfm => by
    obtain ⟨i, hi, rfl⟩ := List.getElem_of_mem hfm
    have hi' : i < fs.size := by simpa using hi
    refine ⟨xs[i]'(by omega), ?_⟩
    rw [hx i _ (by simp [hi'])]
    rw [List.getElem?_eq_getElem])
  simpa using this
theorem Opens.iso {α β : Type} {P : Program} {t : TypeId} {d : Kd α} {wf : α → Prop} {f : β → α} (h : Opens P t d wf) (g : ∀ a, ∃ b, f b = a) : Opens P t (Kd.iso d f) (fun b => wf (f b)) := by
  constructor
  intro H enc w base sp held n cs x hx
  obtain ⟨a, ha, wa⟩ := h.out enc w base sp held n cs x hx
  obtain ⟨b, rfl⟩ := g a
  exact ⟨b, ha, wa⟩
end Go.Proofs.Ytggemblkhckbpaa.U
