/- Parts of the proof: what single Go functions compute, each with its walk, and plain laws over these. -/
import Derived.Test.YteghpdmlpefnfaaDoorProg
import Derived.Below
import Derived.Deep.Draws
import Derived.Deep.AppendLies
import Derived.Maps.AppendAt
import Derived.OwnWalk
import Derived.Laws.BytesArg
import Derived.Laws.MakeOwn
import Derived.Laws.OwnMore
import Derived.Deep.OwnRows
import Derived.Tactics
import Derived.Lib.ConvBytes
import Derived.Laws.Slices
import Derived.WalkKit
import Derived.KernelRfl
import Derived.RowKit3
import Derived.Deep.LoopGhost
import Derived.Deep.QuietTactic
import Derived.BigQuiet
import Derived.WideLaws
import Derived.Deep.DeepCutAuto
import Derived.Deep.CutBlock
import Derived.Deep.RegionHeld3
import Derived.Laws.Rows
import Derived.Lib.AppendStr
import Derived.ArgAppend
import Derived.Laws.IdiomCopy
import Derived.OrdersHeld
import Derived.Laws.BitsLemmas
import Derived.RowKit
import Derived.Shelf.Abstract
import Derived.Laws.Cover1
import Derived.Test.YteghpdmlpefnfaaDoorVShelf
import Derived.Lib.AppendIntMem
import Derived.Test.YteghpdmlpefnfaaDoorVWords
import Derived.Test.YteghpdmlpefnfaaDoorVLast
import Derived.Test.YteghpdmlpefnfaaDoorVTab
import Derived.Test.YteghpdmlpefnfaaDoorVFour
import Derived.Test.YteghpdmlpefnfaaDoorVQPut
import Derived.Test.YteghpdmlpefnfaaDoorVApart
import Derived.Test.YteghpdmlpefnfaaDoorVArr
import Derived.Test.YteghpdmlpefnfaaDoorVZeros
import Derived.Test.YteghpdmlpefnfaaDoorVFoot
import Derived.Test.YteghpdmlpefnfaaDoorVKept
import Derived.Test.YteghpdmlpefnfaaDoorVShare
import Derived.Test.YteghpdmlpefnfaaDoorVN
import Derived.Test.YteghpdmlpefnfaaDoorVFootNe
import Derived.Test.YteghpdmlpefnfaaDoorVAt
import Derived.Test.YteghpdmlpefnfaaDoorVEqStruct
import Derived.Test.YteghpdmlpefnfaaDoorVRepsOne
import Derived.Test.YteghpdmlpefnfaaDoorVInv
import Derived.Test.YteghpdmlpefnfaaDoorVInvWords
import Derived.Test.YteghpdmlpefnfaaDoorVGuard
import Derived.Test.YteghpdmlpefnfaaDoorVNEv
import Derived.Test.YteghpdmlpefnfaaDoorVMore
namespace Go.Proofs.YteghpdmlpefnfaaDoor.Q
open Go.RowKit Go.Proofs.YteghpdmlpefnfaaDoorW.PrintWords Go.Proofs.YteghpdmlpefnfaaDoorW.PrintLast Go.Proofs.YteghpdmlpefnfaaDoorW.PrintMore
attribute [local go_sem] max2_int min2_int max_two min_two max_three min_three max_four min_four   -- for this text's walks alone
set_option linter.unusedVariables false
set_option linter.unusedSimpArgs false

def errW : Option Int → Value
  | none => .nilIface
  | some c => .iface 152 (.int .i64 c)
theorem errW_none : errW none = .nilIface := rfl
theorem errW_some (c : Int) : errW (some c) = .iface 152 (.int .i64 c) := rfl

theorem info5 : (Tryd.prog.info? 5).map (fun i => (i.zero, i.size, i.bytes)) = some (some (.int .u8 0), 1, 1) := by kernel_rfl
theorem info9 : (Tryd.prog.info? 9).map (fun i => (i.zero, i.size, i.bytes)) = some (some (.string ⟨#[]⟩), 1, 16) := by kernel_rfl
theorem info42 : (Tryd.prog.info? 42).map (fun i => (i.zero, i.size, i.bytes)) = some (some (.agg #[(.string ⟨#[]⟩), (.string ⟨#[]⟩), (.int .i64 0), (.int .i64 0), (.int .i64 0), (.bool false)]), 6, 64) := by kernel_rfl
theorem info71 : (Tryd.prog.info? 71).map (fun i => (i.zero, i.size, i.bytes)) = some (some (.agg #[(.string ⟨#[]⟩), (.string ⟨#[]⟩)]), 2, 32) := by kernel_rfl
-- the values' own types

/-! #### struct type 68 -/
structure S68 where
  f0 : ByteArray
  f1 : ByteArray
def z68 : S68 := ⟨(⟨#[]⟩ : ByteArray), (⟨#[]⟩ : ByteArray)⟩
def k68 : Kd S68 := Kd.iso (Kd.pair Kd.string Kd.string) (fun x : S68 => (x.f0, x.f1))
theorem k68_open {w : World} {x : S68} {cs : List Value} (h : k68.K w x cs) : cs = [.string x.f0, .string x.f1] := by
  obtain ⟨_, _, rfl, rfl, rfl⟩ := h
  exact rfl
def rd_T68 (xs : List S68) (i : Int) : S68 := xs.getD i.toNat z68
theorem at_T68 {w : World} {A : Option Addr} {n : Nat} {xs : List S68} (h : Kd.C k68 w A n xs) (i : Int) (h0 : 0 ≤ i) (h1 : i < n) : ∃ ad , A = some ad ∧ w.cell? (ad.add (i.toNat * 2)) = some (.string (rd_T68 xs i).f0) ∧ w.cell? ⟨(ad.add (i.toNat * 2)).block, (ad.add (i.toNat * 2)).off + 1, none⟩ = some (.string (rd_T68 xs i).f1) := by
  obtain ⟨ad, c, e, _, hK, hc0⟩ := Kd.C_get h z68 i h0 h1
  have hc : ∀ j u, c[j]? = some u → w.cell? (ad.add (i.toNat * 2 + j)) = some u := hc0
  obtain rfl := k68_open hK
  exact ⟨ad, e, hc 0 _ rfl, by rw [← add_field _ _ 1 (by omega)]; exact hc 1 _ rfl⟩

/-! #### struct type 71 -/
structure S71 where
  f0 : ByteArray
  f1 : ByteArray
def z71 : S71 := ⟨(⟨#[]⟩ : ByteArray), (⟨#[]⟩ : ByteArray)⟩
def k71 : Kd S71 := Kd.iso (Kd.pair Kd.string Kd.string) (fun x : S71 => (x.f0, x.f1))
theorem k71_open {w : World} {x : S71} {cs : List Value} (h : k71.K w x cs) : cs = [.string x.f0, .string x.f1] := by
  obtain ⟨_, _, rfl, rfl, rfl⟩ := h
  exact rfl
theorem k71_openM {w : World} {base : Nat} {ok : Nat → Prop} {x : S71} {cs : List Value} (h : k71.M w base ok x cs) : cs = [.string x.f0, .string x.f1] := by
  obtain ⟨_, _, rfl, rfl, rfl⟩ := h
  exact rfl
theorem k71_mkM (w : World) (base : Nat) (ok : Nat → Prop) (x : S71)  : k71.M w base ok x [.string x.f0, .string x.f1] := ⟨[.string x.f0], [.string x.f1], rfl, rfl, rfl⟩
def rd_T71 (xs : List S71) (i : Int) : S71 := xs.getD i.toNat z71
theorem at_T71 {w : World} {A : Option Addr} {n : Nat} {xs : List S71} (h : Kd.C k71 w A n xs) (i : Int) (h0 : 0 ≤ i) (h1 : i < n) : ∃ ad , A = some ad ∧ w.cell? (ad.add (i.toNat * 2)) = some (.string (rd_T71 xs i).f0) ∧ w.cell? ⟨(ad.add (i.toNat * 2)).block, (ad.add (i.toNat * 2)).off + 1, none⟩ = some (.string (rd_T71 xs i).f1) := by
  obtain ⟨ad, c, e, _, hK, hc0⟩ := Kd.C_get h z71 i h0 h1
  have hc : ∀ j u, c[j]? = some u → w.cell? (ad.add (i.toNat * 2 + j)) = some u := hc0
  obtain rfl := k71_open hK
  exact ⟨ad, e, hc 0 _ rfl, by rw [← add_field _ _ 1 (by omega)]; exact hc 1 _ rfl⟩

/-! #### struct type 42 -/
structure S42 where
  f0 : ByteArray
  f1 : ByteArray
  f2 : Int
  f3 : Int
  f4 : Int
  f5 : Bool
def z42 : S42 := ⟨(⟨#[]⟩ : ByteArray), (⟨#[]⟩ : ByteArray), (0 : Int), (0 : Int), (0 : Int), false⟩
def k42 : Kd S42 := Kd.iso (Kd.pair Kd.string (Kd.pair Kd.string (Kd.pair (Kd.int .i64) (Kd.pair (Kd.int .i64) (Kd.pair (Kd.int .i64) Kd.bool))))) (fun x : S42 => (x.f0, x.f1, x.f2, x.f3, x.f4, x.f5))
theorem k42_open {w : World} {x : S42} {cs : List Value} (h : k42.K w x cs) : cs = [.string x.f0, .string x.f1, .int .i64 x.f2, .int .i64 x.f3, .int .i64 x.f4, .bool x.f5] := by
  obtain ⟨_, _, rfl, rfl, ⟨_, _, rfl, rfl, ⟨_, _, rfl, rfl, ⟨_, _, rfl, rfl, ⟨_, _, rfl, rfl, rfl⟩⟩⟩⟩⟩ := h
  exact rfl
theorem k42_openM {w : World} {base : Nat} {ok : Nat → Prop} {x : S42} {cs : List Value} (h : k42.M w base ok x cs) : cs = [.string x.f0, .string x.f1, .int .i64 x.f2, .int .i64 x.f3, .int .i64 x.f4, .bool x.f5] := by
  obtain ⟨_, _, rfl, rfl, ⟨_, _, rfl, rfl, ⟨_, _, rfl, rfl, ⟨_, _, rfl, rfl, ⟨_, _, rfl, rfl, rfl⟩⟩⟩⟩⟩ := h
  exact rfl
theorem k42_mkM (w : World) (base : Nat) (ok : Nat → Prop) (x : S42)  : k42.M w base ok x [.string x.f0, .string x.f1, .int .i64 x.f2, .int .i64 x.f3, .int .i64 x.f4, .bool x.f5] := ⟨[.string x.f0], [.string x.f1, .int .i64 x.f2, .int .i64 x.f3, .int .i64 x.f4, .bool x.f5], rfl, rfl, ⟨[.string x.f1], [.int .i64 x.f2, .int .i64 x.f3, .int .i64 x.f4, .bool x.f5], rfl, rfl, ⟨[.int .i64 x.f2], [.int .i64 x.f3, .int .i64 x.f4, .bool x.f5], rfl, rfl, ⟨[.int .i64 x.f3], [.int .i64 x.f4, .bool x.f5], rfl, rfl, ⟨[.int .i64 x.f4], [.bool x.f5], rfl, rfl, rfl⟩⟩⟩⟩⟩
def rd_T42 (xs : List S42) (i : Int) : S42 := xs.getD i.toNat z42
theorem at_T42 {w : World} {A : Option Addr} {n : Nat} {xs : List S42} (h : Kd.C k42 w A n xs) (i : Int) (h0 : 0 ≤ i) (h1 : i < n) : ∃ ad , A = some ad ∧ w.cell? (ad.add (i.toNat * 6)) = some (.string (rd_T42 xs i).f0) ∧ w.cell? ⟨(ad.add (i.toNat * 6)).block, (ad.add (i.toNat * 6)).off + 1, none⟩ = some (.string (rd_T42 xs i).f1) ∧ w.cell? ⟨(ad.add (i.toNat * 6)).block, (ad.add (i.toNat * 6)).off + 2, none⟩ = some (.int .i64 (rd_T42 xs i).f2) ∧ w.cell? ⟨(ad.add (i.toNat * 6)).block, (ad.add (i.toNat * 6)).off + 3, none⟩ = some (.int .i64 (rd_T42 xs i).f3) ∧ w.cell? ⟨(ad.add (i.toNat * 6)).block, (ad.add (i.toNat * 6)).off + 4, none⟩ = some (.int .i64 (rd_T42 xs i).f4) ∧ w.cell? ⟨(ad.add (i.toNat * 6)).block, (ad.add (i.toNat * 6)).off + 5, none⟩ = some (.bool (rd_T42 xs i).f5) := by
  obtain ⟨ad, c, e, _, hK, hc0⟩ := Kd.C_get h z42 i h0 h1
  have hc : ∀ j u, c[j]? = some u → w.cell? (ad.add (i.toNat * 6 + j)) = some u := hc0
  obtain rfl := k42_open hK
  exact ⟨ad, e, hc 0 _ rfl, by rw [← add_field _ _ 1 (by omega)]; exact hc 1 _ rfl, by rw [← add_field _ _ 2 (by omega)]; exact hc 2 _ rfl, by rw [← add_field _ _ 3 (by omega)]; exact hc 3 _ rfl, by rw [← add_field _ _ 4 (by omega)]; exact hc 4 _ rfl, by rw [← add_field _ _ 5 (by omega)]; exact hc 5 _ rfl⟩



/-! ### strconv_Itoa: function 104 -/
/-- The table of powers of ten, and the two errors of reading, lie in memory, and go on lying there. -/
def ErrBelow (w : World) (name : String) : Prop := ∃ tp p, ∀ w', Below w.heap.size w w' → w'.var? Tryd.prog name = some #[.iface tp p]
def TabsOK (w : World) : Prop := Lib.TabBelow Tryd.prog w.heap.size w "internal/strconv.uint64pow10" .u64 Lib.pow10Tab ∧ ErrBelow w "strconv.ErrSyntax" ∧ ErrBelow w "strconv.ErrRange"
theorem ErrBelow.below {w w' : World} {name : String} (h : ErrBelow w name) (hb : Below w.heap.size w w') : ErrBelow w' name := by
  obtain ⟨tp, p, h⟩ := h
  exact ⟨tp, p, fun w2 hb2 => h w2 (below_step hb hb2)⟩
theorem ErrBelow.of_var {w : World} {name : String} {tp : TypeId} {p : Value} (h : w.var? Tryd.prog name = some #[.iface tp p]) : ErrBelow w name := ⟨tp, p, fun w' hb => by
  unfold World.var? at *
  cases hg : Tryd.prog.globalNamed name with
  | none => simp [hg] at h
  | some g =>
    simp only [hg, Option.bind_some] at h ⊢
    have hlt : g < w.heap.size := by
      rcases Nat.lt_or_ge g w.heap.size with h' | h'
      · exact h'
      · rw [Array.getElem?_eq_none h'] at h; simp at h
    rw [hb.block g hlt]
    exact h⟩
theorem TabsOK.below {w w' : World} (h : TabsOK w) (hb : Below w.heap.size w w') : TabsOK w' := ⟨fun w2 hb2 => h.1 w2 (below_step hb hb2), h.2.1.below hb, h.2.2.below hb⟩
def strconv_Itoa.f (a0 : Int) : Option ByteArray := if -9223372036854775808 ≤ a0 then (if a0 ≤ 9223372036854775807 then some ⟨(Lib.itoa a0).toArray⟩ else none) else none
theorem strconv_Itoa.calls (a0 : Int) (r : ByteArray) (w : World) (hT0 : TabsOK w) (h : strconv_Itoa.f a0 = some r) :
    Calls Tryd.prog 104 #[.int .i64 a0] w fun e w' => e = .returned (.string r) ∧ Below w.heap.size w w' := by
  unfold strconv_Itoa.f at h
  by_cases h1 : -9223372036854775808 ≤ a0
  · rw [if_pos h1] at h
    by_cases h2 : a0 ≤ 9223372036854775807
    · rw [if_pos h2] at h
      obtain rfl := Option.some.inj h
      refine (Tryd.strconv_Itoa a0 h1 h2 w hT0.1.here).mono ?_
      rintro e w' ⟨rfl, k, os, rfl⟩
      exact ⟨rfl, Lib.below_grow w.heap.size w (Nat.le_refl _) k os⟩
    · rw [if_neg h2] at h; cases h
  · rw [if_neg h1] at h; cases h


open Go.RowKit renaming wrap64 → ζm
open Go.Proofs.YteghpdmlpefnfaaDoorW.PrintWords.Aside0 renaming mk → ζa
open Go.Proofs.YteghpdmlpefnfaaDoorW.PrintWords renaming gate_dst → δx, box_event → δz, below_step → δr, below_alloc → δk, pw_below_drewN → δi, below_drew1 → δj, below_size → δs, blk_cell → δl, blk_frozen → δm, below_set → δq
open Bool renaming true → τ, false → φ

/-! ### laws_szPair: function 47 -/
def laws_szPair.f (a0_0:ByteArray) (a0_1:ByteArray) (a1:Int):Option (Int):=if (ζm (a1 - (a0_0.size:Int)))<0 then (some (-1)) else (if (ζm ((ζm (a1 - (a0_0.size:Int))) - (a0_1.size:Int)))<0 then (some (-1)) else (some (ζm ((ζm (a1 - (a0_0.size:Int))) - (a0_1.size:Int)))))
set_option maxHeartbeats 8000000 in
set_option maxRecDepth 100000 in
theorem laws_szPair.calls (a0_0:ByteArray) (a0_1:ByteArray) (a1:Int) (r:Int) (w:World) (h:laws_szPair.f a0_0 a0_1 a1=some r) :
  Calls Tryd.prog 47 #[.agg #[.string a0_0,.string a0_1],.int .i64 a1] w fun e w'=>e = .returned (.int .i64 r)∧Below w.heap.size w w':=by
 have hu68:=Tryd.underlying68
 have HB:=ζa (Below.refl w.heap.size w)
 have H:(if (ζm (a1 - (a0_0.size:Int)))<0 then (some (-1)) else (if (ζm ((ζm (a1 - (a0_0.size:Int))) - (a0_1.size:Int)))<0 then (some (-1)) else (some (ζm ((ζm (a1 - (a0_0.size:Int))) - (a0_1.size:Int))))))=some r:=h
 clear h
 by_cases c3:(ζm (a1 - (a0_0.size:Int)))<0
 ·
  rw [if_pos c3] at H
  have c3b0:decide ((ζm (a1 - (a0_0.size:Int)))<0)=τ:=decide_eq_true c3
  clear c3
  obtain rfl:=Option.some.inj H
  go_enter Tryd.func47,Tryd.ntmps47
  go_wp2_with (first|((with_reducible refine δx (N:=2) rfl ?_);refine δz ?hg (N:=2) ?hd (cs:=#[.string a0_0,.string a0_1]) (t:=68) ?hr ?_;(case hd=>rfl);(case hg=>rfl);(case hr=>first|(go_simp;done)|(go_simp;rfl));intro gb191 hg w4 hbox hb;have n0_:=ζa (δr (by repeat (first|(with_reducible first|exact HB.out|apply δk|apply δi|apply δj)|exact HB.out)) hb);have n1_:=ζa (hbox);have n2_:=ζa ((by rw [hg];exact (δs (by repeat (first|(with_reducible first|exact HB.out|apply δk|apply δi|apply δj)|exact HB.out))):w.heap.size≤gb191));have n3_:=ζa ((by rw [hg];exact (δs (by repeat (first|(with_reducible first|exact HB.out|apply δk|apply δi|apply δj)|exact HB.out))):w.heap.size≤gb191));clear HB;have HB:=n0_;have BK191:=n1_;have GW191:=n2_;have GE191:=n3_;clear n0_ n1_ n2_ n3_;clear hb hbox hg;have hcz5_0:w4.cell? ⟨gb191,0,none⟩=some (.string a0_0):=(δl BK191.out 0).trans rfl;have hcz5_1:w4.cell? ⟨gb191,1,none⟩=some (.string a0_1):=(δl BK191.out 1).trans rfl;have hfz5_0:=δm BK191.out 0;have hfz5_1:=δm BK191.out 1))
  go_ret
  exact ⟨by first|rfl|(simp [errW_none,errW_some] <;> rfl)|(simp [*,errW_none,errW_some] <;> rfl),by repeat (first|(with_reducible first|exact HB.out|apply δk|apply δi|apply δj|refine δq ?_ GE191.out)|exact HB.out)⟩
 ·
  rw [if_neg c3] at H
  have c3b0:decide ((ζm (a1 - (a0_0.size:Int)))<0)=φ:=decide_eq_false c3
  clear c3
  by_cases c6:(ζm ((ζm (a1 - (a0_0.size:Int))) - (a0_1.size:Int)))<0
  ·
   rw [if_pos c6] at H
   have c6b0:decide ((ζm ((ζm (a1 - (a0_0.size:Int))) - (a0_1.size:Int)))<0)=τ:=decide_eq_true c6
   clear c6
   obtain rfl:=Option.some.inj H
   go_enter Tryd.func47,Tryd.ntmps47
   go_wp2_with (first|((with_reducible refine δx (N:=2) rfl ?_);refine δz ?hg (N:=2) ?hd (cs:=#[.string a0_0,.string a0_1]) (t:=68) ?hr ?_;(case hd=>rfl);(case hg=>rfl);(case hr=>first|(go_simp;done)|(go_simp;rfl));intro gb191 hg w7 hbox hb;have n0_:=ζa (δr (by repeat (first|(with_reducible first|exact HB.out|apply δk|apply δi|apply δj)|exact HB.out)) hb);have n1_:=ζa (hbox);have n2_:=ζa ((by rw [hg];exact (δs (by repeat (first|(with_reducible first|exact HB.out|apply δk|apply δi|apply δj)|exact HB.out))):w.heap.size≤gb191));have n3_:=ζa ((by rw [hg];exact (δs (by repeat (first|(with_reducible first|exact HB.out|apply δk|apply δi|apply δj)|exact HB.out))):w.heap.size≤gb191));clear HB;have HB:=n0_;have BK191:=n1_;have GW191:=n2_;have GE191:=n3_;clear n0_ n1_ n2_ n3_;clear hb hbox hg;have hcz8_0:w7.cell? ⟨gb191,0,none⟩=some (.string a0_0):=(δl BK191.out 0).trans rfl;have hcz8_1:w7.cell? ⟨gb191,1,none⟩=some (.string a0_1):=(δl BK191.out 1).trans rfl;have hfz8_0:=δm BK191.out 0;have hfz8_1:=δm BK191.out 1))
   go_ret
   exact ⟨by first|rfl|(simp [errW_none,errW_some] <;> rfl)|(simp [*,errW_none,errW_some] <;> rfl),by repeat (first|(with_reducible first|exact HB.out|apply δk|apply δi|apply δj|refine δq ?_ GE191.out)|exact HB.out)⟩
  ·
   rw [if_neg c6] at H
   have c6b0:decide ((ζm ((ζm (a1 - (a0_0.size:Int))) - (a0_1.size:Int)))<0)=φ:=decide_eq_false c6
   clear c6
   obtain rfl:=Option.some.inj H
   go_enter Tryd.func47,Tryd.ntmps47
   go_wp2_with (first|((with_reducible refine δx (N:=2) rfl ?_);refine δz ?hg (N:=2) ?hd (cs:=#[.string a0_0,.string a0_1]) (t:=68) ?hr ?_;(case hd=>rfl);(case hg=>rfl);(case hr=>first|(go_simp;done)|(go_simp;rfl));intro gb191 hg w9 hbox hb;have n0_:=ζa (δr (by repeat (first|(with_reducible first|exact HB.out|apply δk|apply δi|apply δj)|exact HB.out)) hb);have n1_:=ζa (hbox);have n2_:=ζa ((by rw [hg];exact (δs (by repeat (first|(with_reducible first|exact HB.out|apply δk|apply δi|apply δj)|exact HB.out))):w.heap.size≤gb191));have n3_:=ζa ((by rw [hg];exact (δs (by repeat (first|(with_reducible first|exact HB.out|apply δk|apply δi|apply δj)|exact HB.out))):w.heap.size≤gb191));clear HB;have HB:=n0_;have BK191:=n1_;have GW191:=n2_;have GE191:=n3_;clear n0_ n1_ n2_ n3_;clear hb hbox hg;have hcz10_0:w9.cell? ⟨gb191,0,none⟩=some (.string a0_0):=(δl BK191.out 0).trans rfl;have hcz10_1:w9.cell? ⟨gb191,1,none⟩=some (.string a0_1):=(δl BK191.out 1).trans rfl;have hfz10_0:=δm BK191.out 0;have hfz10_1:=δm BK191.out 1))
   go_ret
   exact ⟨by first|rfl|(simp [errW_none,errW_some] <;> rfl)|(simp [*,errW_none,errW_some] <;> rfl),by repeat (first|(with_reducible first|exact HB.out|apply δk|apply δi|apply δj|refine δq ?_ GE191.out)|exact HB.out)⟩


open Go.Proofs.YteghpdmlpefnfaaDoorW.PrintWords renaming below_alloc → δk, pw_below_drewN → δi, below_drew1 → δj, gate_callee → δv, below_step → δr
open List renaming map_toArray → δd, map_cons → δe, map_nil → δf, length_drop → δg, length_take → δh

/-! ### laws_szPairS: function 17 -/
def laws_szPairS.l0:Nat→List (S68)→Int→Int→Option (Int)
 | 0,_,_,_=>none
 | k+1,x0,x1,x5=>if x5<(x0.length:Int) then (if 0≤x5 then ((laws_szPair.f ((rd_T68 x0 x5).f0) ((rd_T68 x0 x5).f1) x1).bind fun t193=>(if t193<0 then (some (-1)) else (laws_szPairS.l0 k x0 t193 (ζm (x5+1))))) else (none)) else (some x1)
def laws_szPairS.f (k:Nat) (l0:List (S68)) (a1:Int):Option (Int):=if (ζm (a1 - (l0.length:Int)))<0 then (some (-1)) else (laws_szPairS.l0 k l0 (ζm (a1 - (l0.length:Int))) 0)
set_option maxHeartbeats 8000000 in
set_option maxRecDepth 100000 in
theorem laws_szPairS.calls (k:Nat) (A0:Option Addr) (c0:Nat) (l0:List (S68)) (a1:Int) (r:Int) (w:World) (hr0:Kd.C k68 w A0 l0.length l0) (hc0:l0.length≤c0) (h:laws_szPairS.f k l0 a1=some r) :
  Calls Tryd.prog 17 #[.slice A0 l0.length c0,.int .i64 a1] w fun e w'=>e = .returned (.int .i64 r)∧Below w.heap.size w w':=by
 have hu68:=Tryd.underlying68
 have HR0:=ζa hr0
 have HC0:=ζa hc0
 clear hr0 hc0
 have HB:=ζa (Below.refl w.heap.size w)
 have H:(if (ζm (a1 - (l0.length:Int)))<0 then (some (-1)) else (laws_szPairS.l0 k l0 (ζm (a1 - (l0.length:Int))) 0))=some r:=h
 clear h
 by_cases c3:(ζm (a1 - (l0.length:Int)))<0
 ·
  rw [if_pos c3] at H
  have c3b0:decide ((ζm (a1 - (l0.length:Int)))<0)=τ:=decide_eq_true c3
  clear c3
  obtain rfl:=Option.some.inj H
  go_enter Tryd.func17,Tryd.ntmps17
  go_wp2
  go_ret
  exact ⟨by first|rfl|(simp [errW_none,errW_some] <;> rfl)|(simp [*,errW_none,errW_some] <;> rfl),by repeat (first|(with_reducible first|exact HB.out|apply δk|apply δi|apply δj)|exact HB.out)⟩
 ·
  rw [if_neg c3] at H
  have c3b0:decide ((ζm (a1 - (l0.length:Int)))<0)=φ:=decide_eq_false c3
  clear c3
  have H':=ζa H
  clear H
  go_enter Tryd.func17,Tryd.ntmps17
  go_wp2
  go_loopg [1,5] k (fun kq v1 v5 w' => ∃ (x1_1:Int) (x5_1:Int),v1 = .int .i64 x1_1∧v5 = .int .i64 x5_1∧Aside0 (laws_szPairS.l0 kq l0 x1_1 x5_1=some r)∧Aside0 (kq≤k)∧Aside0 (Below w.heap.size w w'))
  case atStart=>exact ⟨(ζm (a1 - (l0.length:Int))),(0),(by first|rfl|(simp;done)|(simp [*];done)),(by first|rfl|(simp;done)|(simp [*];done)),H',⟨Nat.le_refl _⟩,⟨by repeat (first|(with_reducible first|exact HB.out|apply δk|apply δi|apply δj)|exact HB.out)⟩⟩
  case round =>
   clear H'
   try clear c1
   try clear p2
   try clear c3
   try clear c3b0
   obtain ⟨x1_1,x5_1,rfl,rfl,HA,HK1,HB⟩:=hrel
   cases gk with
   | zero=>exact absurd HA.out (by simp [laws_szPairS.l0])
   | succ k1 =>
    have H:=HA.out
    clear HA
    simp only [laws_szPairS.l0] at H
    by_cases c4:x5_1<(l0.length:Int)
    ·
     rw [if_pos c4] at H
     have c4b0:decide (x5_1<(l0.length:Int))=τ:=decide_eq_true c4
     clear c4
     by_cases c5:0≤x5_1
     ·
      rw [if_pos c5] at H
      have c5b0:decide (0≤x5_1)=τ:=decide_eq_true c5
      clear c5
      replace H:=Option.bind_eq_some_iff.mp H
      obtain ⟨t193,A60,H⟩:=H
      replace H:(if t193<0 then (some (-1)) else (laws_szPairS.l0 k1 l0 t193 (ζm (x5_1+1))))=some r:=H
      have A6:=ζa A60
      clear A60
      by_cases c7:t193<0
      ·
       rw [if_pos c7] at H
       have c7b0:decide (t193<0)=τ:=decide_eq_true c7
       clear c7
       obtain rfl:=Option.some.inj H
       have p192:0≤(x5_1:Int):=of_decide_eq_true (by first|(with_reducible assumption)|assumption)
       have q192:x5_1<(l0.length:Int):=of_decide_eq_true (by first|(with_reducible assumption)|assumption)
       obtain ⟨ad192,e192,hx192_0,hx192_1⟩:=at_T68 HR0.out x5_1 p192 q192
       cases e192
       replace hx192_0:=(HB.out.cell (World.block_lt_of_cell? w _ hx192_0)).trans hx192_0
       replace hx192_1:=(HB.out.cell (World.block_lt_of_cell? w _ hx192_1)).trans hx192_1
       replace p192:=eq_true p192
       replace q192:=eq_true q192
       go_wp2_with (first|((with_reducible refine δv (f:=47) rfl ?_);refine goesL_ (some 23) rfl rfl Tryd.func47 (by kernel_rfl) rfl #[.agg #[.string ((rd_T68 l0 x5_1).f0),.string ((rd_T68 l0 x5_1).f1)],.int .i64 x1_1] rfl (by (try simp only [δd,δe,δf]);first|done|rfl|(simp only [δg,δh];rfl)) ?_;(with_reducible refine (laws_szPair.calls ((rd_T68 l0 x5_1).f0) ((rd_T68 l0 x5_1).f1) x1_1 t193 _ A6.out).mono ?_);rintro e w8 ⟨rfl,hb⟩;refine ⟨_,rfl,?_⟩;have n0_:=ζa (δr (by repeat (first|(with_reducible first|exact HB.out|apply δk|apply δi|apply δj)|exact HB.out)) hb);clear HB;have HB:=n0_;clear n0_;(try clear hb);(try clear hb2);(try clear hk);(try clear hi)))
       go_ret
       exact ⟨by first|rfl|(simp [errW_none,errW_some] <;> rfl)|(simp [*,errW_none,errW_some] <;> rfl),by repeat (first|(with_reducible first|exact HB.out|apply δk|apply δi|apply δj)|exact HB.out)⟩
      ·
       rw [if_neg c7] at H
       have c7b0:decide (t193<0)=φ:=decide_eq_false c7
       clear c7
       have H':=ζa H
       clear H
       have p192:0≤(x5_1:Int):=of_decide_eq_true (by first|(with_reducible assumption)|assumption)
       have q192:x5_1<(l0.length:Int):=of_decide_eq_true (by first|(with_reducible assumption)|assumption)
       obtain ⟨ad192,e192,hx192_0,hx192_1⟩:=at_T68 HR0.out x5_1 p192 q192
       cases e192
       replace hx192_0:=(HB.out.cell (World.block_lt_of_cell? w _ hx192_0)).trans hx192_0
       replace hx192_1:=(HB.out.cell (World.block_lt_of_cell? w _ hx192_1)).trans hx192_1
       replace p192:=eq_true p192
       replace q192:=eq_true q192
       go_wp2_with (first|((with_reducible refine δv (f:=47) rfl ?_);refine goesL_ (some 23) rfl rfl Tryd.func47 (by kernel_rfl) rfl #[.agg #[.string ((rd_T68 l0 x5_1).f0),.string ((rd_T68 l0 x5_1).f1)],.int .i64 x1_1] rfl (by (try simp only [δd,δe,δf]);first|done|rfl|(simp only [δg,δh];rfl)) ?_;(with_reducible refine (laws_szPair.calls ((rd_T68 l0 x5_1).f0) ((rd_T68 l0 x5_1).f1) x1_1 t193 _ A6.out).mono ?_);rintro e w9 ⟨rfl,hb⟩;refine ⟨_,rfl,?_⟩;have n0_:=ζa (δr (by repeat (first|(with_reducible first|exact HB.out|apply δk|apply δi|apply δj)|exact HB.out)) hb);clear HB;have HB:=n0_;clear n0_;(try clear hb);(try clear hb2);(try clear hk);(try clear hi)))
       go_roundg k1
       case measure=>have:=HK1.out;omega
       case rel=>exact ⟨(t193),(ζm (x5_1+1)),(by first|rfl|(simp;done)|(simp [*];done)),(by first|rfl|(simp;done)|(simp [*];done)),H',⟨by have:=HK1.out;omega⟩,⟨by repeat (first|(with_reducible first|exact HB.out|apply δk|apply δi|apply δj)|exact HB.out)⟩⟩
     ·
      rw [if_neg c5] at H
      exact absurd H (by simp)
    ·
     rw [if_neg c4] at H
     have c4b0:decide (x5_1<(l0.length:Int))=φ:=decide_eq_false c4
     clear c4
     obtain rfl:=Option.some.inj H
     go_wp2
     go_ret
     exact ⟨by first|rfl|(simp [errW_none,errW_some] <;> rfl)|(simp [*,errW_none,errW_some] <;> rfl),by repeat (first|(with_reducible first|exact HB.out|apply δk|apply δi|apply δj)|exact HB.out)⟩


open Go.Proofs.YteghpdmlpefnfaaDoorW.PrintWords renaming gate_dst → δx, box_event → δz, below_step → δr, below_alloc → δk, pw_below_drewN → δi, below_drew1 → δj, below_size → δs, blk_drewN → δn, blk_drew → δp, blk_alloc → δo, below_set → δq, blk_cell → δl, blk_frozen → δm, blk_put → δw

/-! ### laws_toPair: function 50 -/
def laws_toPair.f (a0_0:ByteArray) (a0_1:ByteArray):Option (ByteArray × ByteArray):=some (a0_0,a0_1)
set_option maxHeartbeats 8000000 in
set_option maxRecDepth 100000 in
theorem laws_toPair.calls (a0_0:ByteArray) (a0_1:ByteArray) (r1:ByteArray) (r2:ByteArray) (w:World) (h:laws_toPair.f a0_0 a0_1=some (r1,r2)) :
  Calls Tryd.prog 50 #[.agg #[.string a0_0,.string a0_1]] w fun e w'=>e = .returned (.agg #[.string r1,.string r2])∧Below w.heap.size w w':=by
 have hu68:=Tryd.underlying68
 have hu71:=Tryd.underlying71
 have HB:=ζa (Below.refl w.heap.size w)
 have H:(some (a0_0,a0_1))=some (r1,r2):=h
 clear h
 simp only [Option.some.injEq,Prod.mk.injEq] at H
 obtain ⟨rfl,rfl⟩:=H
 go_enter Tryd.func50,Tryd.ntmps50
 go_wp2_with (first|((with_reducible refine δx (N:=1) rfl ?_);refine δz ?hg (N:=1) ?hd (cs:=#[.string a0_0,.string a0_1]) (t:=68) ?hr ?_;(case hd=>rfl);(case hg=>rfl);(case hr=>first|(go_simp;done)|(go_simp;rfl));intro gb248 hg w2 hbox hb;have n0_:=ζa (δr (by repeat (first|(with_reducible first|exact HB.out|apply δk|apply δi|apply δj)|exact HB.out)) hb);have n1_:=ζa (hbox);have n2_:=ζa ((by rw [hg];exact (δs (by repeat (first|(with_reducible first|exact HB.out|apply δk|apply δi|apply δj)|exact HB.out))):w.heap.size≤gb248));have n3_:=ζa ((by rw [hg];exact (δs (by repeat (first|(with_reducible first|exact HB.out|apply δk|apply δi|apply δj)|exact HB.out))):w.heap.size≤gb248));clear HB;have HB:=n0_;have BK248:=n1_;have GW248:=n2_;have GE248:=n3_;clear n0_ n1_ n2_ n3_;clear hb hbox hg)|((with_reducible refine δx (N:=2) rfl ?_);refine δz ?hg (N:=2) ?hd (cs:=#[.string (⟨#[]⟩:ByteArray),.string (⟨#[]⟩:ByteArray)]) (t:=71) ?hr ?_;(case hd=>rfl);(case hg=>rfl);(case hr=>first|(go_simp;done)|(go_simp;rfl));intro gb249 hg w3 hbox hb;have n0_:=ζa (blk_below (g:=gb248) (o:=.cells #[.string a0_0,.string a0_1] 68 (0,0)) (by (with_reducible repeat (first|refine δn ?_ _|refine δp ?_|refine δo ?_ _));exact BK248.out) hb);have n1_:=ζa (δr (by repeat (first|(with_reducible first|exact HB.out|apply δk|apply δi|apply δj|refine δq ?_ GE248.out)|exact HB.out)) hb);have n2_:=ζa (hbox);have n3_:=ζa ((by rw [hg];exact (δs (by repeat (first|(with_reducible first|exact HB.out|apply δk|apply δi|apply δj|refine δq ?_ GE248.out)|exact HB.out))):w.heap.size≤gb249));have n4_:=ζa ((by rw [hg];exact (δs (by repeat (first|(with_reducible first|exact HB.out|apply δk|apply δi|apply δj|refine δq ?_ GE248.out)|exact HB.out))):w.heap.size≤gb249));have n5_:=ζa ((by rw [hg];exact Nat.ne_of_lt (blk_lt (g:=gb248) (o:=.cells #[.string a0_0,.string a0_1] 68 (0,0)) (by (with_reducible repeat (first|refine δn ?_ _|refine δp ?_|refine δo ?_ _));exact BK248.out)):gb248≠gb249));have n6_:=ζa ((by rw [hg];exact Nat.ne_of_gt (blk_lt (g:=gb248) (o:=.cells #[.string a0_0,.string a0_1] 68 (0,0)) (by (with_reducible repeat (first|refine δn ?_ _|refine δp ?_|refine δo ?_ _));exact BK248.out)):gb249≠gb248));clear BK248;clear HB;have BK248:=n0_;have HB:=n1_;have BK249:=n2_;have GW249:=n3_;have GE249:=n4_;have NB248_249:=n5_;have NB249_248:=n6_;clear n0_ n1_ n2_ n3_ n4_ n5_ n6_;clear hb hbox hg)|((with_reducible refine δx (N:=3) rfl ?_);refine δz ?hg (N:=3) ?hd (cs:=#[.string (⟨#[]⟩:ByteArray),.string (⟨#[]⟩:ByteArray)]) (t:=71) ?hr ?_;(case hd=>rfl);(case hg=>rfl);(case hr=>first|(go_simp;done)|(go_simp;rfl));intro gb250 hg w4 hbox hb;have n0_:=ζa (blk_below (g:=gb248) (o:=.cells #[.string a0_0,.string a0_1] 68 (0,0)) (by (with_reducible repeat (first|refine δn ?_ _|refine δp ?_|refine δo ?_ _));exact BK248.out) hb);have n1_:=ζa (blk_below (g:=gb249) (o:=.cells #[.string (⟨#[]⟩:ByteArray),.string (⟨#[]⟩:ByteArray)] 71 (0,0)) (by (with_reducible repeat (first|refine δn ?_ _|refine δp ?_|refine δo ?_ _));exact BK249.out) hb);have n2_:=ζa (δr (by repeat (first|(with_reducible first|exact HB.out|apply δk|apply δi|apply δj|refine δq ?_ GE248.out|refine δq ?_ GE249.out)|exact HB.out)) hb);have n3_:=ζa (hbox);have n4_:=ζa ((by rw [hg];exact (δs (by repeat (first|(with_reducible first|exact HB.out|apply δk|apply δi|apply δj|refine δq ?_ GE248.out|refine δq ?_ GE249.out)|exact HB.out))):w.heap.size≤gb250));have n5_:=ζa ((by rw [hg];exact (δs (by repeat (first|(with_reducible first|exact HB.out|apply δk|apply δi|apply δj|refine δq ?_ GE248.out|refine δq ?_ GE249.out)|exact HB.out))):w.heap.size≤gb250));have n6_:=ζa ((by rw [hg];exact Nat.ne_of_lt (blk_lt (g:=gb248) (o:=.cells #[.string a0_0,.string a0_1] 68 (0,0)) (by (with_reducible repeat (first|refine δn ?_ _|refine δp ?_|refine δo ?_ _));exact BK248.out)):gb248≠gb250));have n7_:=ζa ((by rw [hg];exact Nat.ne_of_gt (blk_lt (g:=gb248) (o:=.cells #[.string a0_0,.string a0_1] 68 (0,0)) (by (with_reducible repeat (first|refine δn ?_ _|refine δp ?_|refine δo ?_ _));exact BK248.out)):gb250≠gb248));have n8_:=ζa ((by rw [hg];exact Nat.ne_of_lt (blk_lt (g:=gb249) (o:=.cells #[.string (⟨#[]⟩:ByteArray),.string (⟨#[]⟩:ByteArray)] 71 (0,0)) (by (with_reducible repeat (first|refine δn ?_ _|refine δp ?_|refine δo ?_ _));exact BK249.out)):gb249≠gb250));have n9_:=ζa ((by rw [hg];exact Nat.ne_of_gt (blk_lt (g:=gb249) (o:=.cells #[.string (⟨#[]⟩:ByteArray),.string (⟨#[]⟩:ByteArray)] 71 (0,0)) (by (with_reducible repeat (first|refine δn ?_ _|refine δp ?_|refine δo ?_ _));exact BK249.out)):gb250≠gb249));clear BK248;clear BK249;clear HB;have BK248:=n0_;have BK249:=n1_;have HB:=n2_;have BK250:=n3_;have GW250:=n4_;have GE250:=n5_;have NB248_250:=n6_;have NB250_248:=n7_;have NB249_250:=n8_;have NB250_249:=n9_;clear n0_ n1_ n2_ n3_ n4_ n5_ n6_ n7_ n8_ n9_;clear hb hbox hg;have hnb5:=NB248_249.out;have hnc5:=NB249_248.out;have hnb6:=NB248_250.out;have hnc6:=NB250_248.out;have hcz7_0:w4.cell? ⟨gb248,0,none⟩=some (.string a0_0):=(δl BK248.out 0).trans rfl;have hcz7_1:w4.cell? ⟨gb248,1,none⟩=some (.string a0_1):=(δl BK248.out 1).trans rfl;have hfz7_0:=δm BK248.out 0;have hfz7_1:=δm BK248.out 1;have hnb8:=NB250_249.out;have hnc8:=NB249_250.out;have hcz9_0:w4.cell? ⟨gb250,0,none⟩=some (.string (⟨#[]⟩:ByteArray)):=(δl BK250.out 0).trans rfl;have hcz9_1:w4.cell? ⟨gb250,1,none⟩=some (.string (⟨#[]⟩:ByteArray)):=(δl BK250.out 1).trans rfl;have hfz9_0:=δm BK250.out 0;have hfz9_1:=δm BK250.out 1;have hcz10_0:w4.cell? ⟨gb249,0,none⟩=some (.string (⟨#[]⟩:ByteArray)):=(δl BK249.out 0).trans rfl;have hcz10_1:w4.cell? ⟨gb249,1,none⟩=some (.string (⟨#[]⟩:ByteArray)):=(δl BK249.out 1).trans rfl;have hfz10_0:=δm BK249.out 0;have hfz10_1:=δm BK249.out 1))
 refine bodyPost_ret (results_cell_row rfl _ _ gb249 71 #[.string a0_0,.string a0_1] (0,0) _ rfl (by (with_reducible repeat (first|refine δn ?_ _|refine δp ?_|refine δo ?_ _));refine δw (cs:=#[.string a0_0,.string (⟨#[]⟩:ByteArray)]) ?_ 1 _ rfl;(with_reducible repeat (first|refine δn ?_ _|refine δp ?_|refine δo ?_ _));refine δw (cs:=#[.string (⟨#[]⟩:ByteArray),.string (⟨#[]⟩:ByteArray)]) ?_ 0 _ rfl;(with_reducible repeat (first|refine δn ?_ _|refine δp ?_|refine δo ?_ _));refine blk_far ?_ NB249_250.out _;(with_reducible repeat (first|refine δn ?_ _|refine δp ?_|refine δo ?_ _));refine blk_far ?_ NB249_250.out _;(with_reducible repeat (first|refine δn ?_ _|refine δp ?_|refine δo ?_ _));exact BK249.out) Tryd.underlying71 rfl (by kernel_rfl)) rfl ?_
 exact ⟨by first|rfl|(simp [errW_none,errW_some] <;> rfl)|(simp [*,errW_none,errW_some] <;> rfl),by repeat (first|(with_reducible first|exact HB.out|apply δk|apply δi|apply δj|refine δq ?_ GE248.out|refine δq ?_ GE249.out|refine δq ?_ GE250.out)|exact HB.out)⟩


open Go.Proofs.YteghpdmlpefnfaaDoorW.PrintWords renaming gate_dst → δx, below_size → δs, below_step → δr, gate_callee → δv, below_set → δq
open List renaming map_toArray → δd, map_cons → δe, map_nil → δf
open Go.Proofs.YteghpdmlpefnfaaDoorW.PrintWords.Kd renaming R_below → ζh

/-! ### laws_toPairS: function 19 -/
def laws_toPairS.l0:Nat→List (S68)→List (S71)→Int→Option ((List (S71)))
 | 0,_,_,_=>none
 | k+1,x0,x3,x4=>if x4<(x0.length:Int) then (if 0≤x4 then ((laws_toPair.f ((rd_T68 x0 x4).f0) ((rd_T68 x0 x4).f1)).bind fun bt255=>(if x4<(x3.length:Int) then (laws_toPairS.l0 k x0 (x3.set (x4:Int).toNat (⟨bt255.1,bt255.2⟩:S71)) (ζm (x4+1))) else (none))) else (none)) else (some x3)
def laws_toPairS.f (k:Nat) (l0:List (S68)):Option ((List (S71))):=if 0≤(l0.length:Int) then (if ((l0.length:Int):Int).toNat≤8796093022208 then (laws_toPairS.l0 k l0 (List.replicate ((l0.length:Int):Int).toNat z71) 0) else (none)) else (none)
set_option maxHeartbeats 8000000 in
set_option maxRecDepth 100000 in
theorem laws_toPairS.calls (k:Nat) (A0:Option Addr) (c0:Nat) (l0:List (S68)) (r:List (S71)) (w:World) (hr0:Kd.C k68 w A0 l0.length l0) (hc0:l0.length≤c0) (h:laws_toPairS.f k l0=some r) :
  Calls Tryd.prog 19 #[.slice A0 l0.length c0] w fun e w' => ∃ v0_:Value,e = .returned (v0_)∧Kd.R k71 71 w' w.heap.size (fun _=>True) v0_ r∧Below w.heap.size w w':=by
 have hu68:=Tryd.underlying68
 have hu71:=Tryd.underlying71
 have HR0:=ζa hr0
 have HC0:=ζa hc0
 clear hr0 hc0
 have HB:=ζa (Below.refl w.heap.size w)
 have H:(if 0≤(l0.length:Int) then (if ((l0.length:Int):Int).toNat≤8796093022208 then (laws_toPairS.l0 k l0 (List.replicate ((l0.length:Int):Int).toNat z71) 0) else (none)) else (none))=some r:=h
 clear h
 by_cases c2:0≤(l0.length:Int)
 ·
  rw [if_pos c2] at H
  have c2b0:=eq_true c2
  have c2b1:decide (0≤(l0.length:Int))=τ:=decide_eq_true c2
  clear c2
  by_cases c3:((l0.length:Int):Int).toNat≤8796093022208
  ·
   rw [if_pos c3] at H
   have c3b0:=eq_true c3
   have c3b1:decide (((l0.length:Int):Int).toNat≤8796093022208)=τ:=decide_eq_true c3
   clear c3
   obtain ⟨y251,hy251⟩ : ∃ y_:List (S71),y_=(List.replicate ((l0.length:Int):Int).toNat z71):=⟨_,rfl⟩
   replace H:(laws_toPairS.l0 k l0 y251 0)=some r:=by (rw [hy251];with_reducible exact H)
   have Ny251:=ζa hy251
   clear hy251
   have H':=ζa H
   clear H
   go_enter Tryd.func19,Tryd.ntmps19
   go_wp2_with (((with_reducible refine δx (N:=7) rfl ?_);refine Kd.R_make k71 _ 71 rfl (N:=7) rfl 36 _ _ rfl (l0.length:Int) rfl rfl Tryd.underlying36 (.agg #[(.string ⟨#[]⟩),(.string ⟨#[]⟩)]) 32 info71 rfl (by decide) (by omega) z71 (ok:=fun _=>True) (okp:=fun _=>True) (k71_mkM _ _ _ z71 ) (fun _ hk=>hk) trivial (of_decide_eq_true (by (with_reducible assumption))) (Nat.le_trans (Nat.mul_le_mul_right _ (of_decide_eq_true (by (with_reducible assumption)):(l0.length:Int).toNat≤8796093022208)) (by omega)) (Below.refl _ _) (Nat.le_refl _) ?_;intro v252 w4 ho5 hb hg_ hnew_;clear hg_ hnew_;(rw [← Ny251.out] at ho5);have n0_:=ζa (Kd.R_lower ho5 (δs (by exact HB.out)));have n1_:=ζa (δr (by exact HB.out) hb);clear HB;have HO253:=n0_;have HB:=n1_;clear n0_ n1_;clear hb ho5))
   go_loopg [4] k (fun kq v4 w' => ∃ (x3_1:List (S71)) (x4_1:Int),v4 = .int .i64 x4_1∧Aside0 (laws_toPairS.l0 kq l0 x3_1 x4_1=some r)∧Aside0 (kq≤k)∧Aside0 (Kd.R k71 71 w' w.heap.size (fun _=>True) v252 x3_1)∧Aside0 (Below w.heap.size w w'))
   case atStart=>exact ⟨(y251),(0),(by rfl),H',⟨Nat.le_refl _⟩,⟨by exact HO253.out⟩,⟨by repeat ((with_reducible exact HB.out))⟩⟩
   case round =>
    clear H'
    try clear c1
    try clear c2
    try clear c2b0
    try clear c2b1
    try clear p2
    try clear c3
    try clear c3b0
    try clear c3b1
    obtain ⟨x3_1,x4_1,rfl,HA,HK1,HO_3,HB⟩:=hrel
    cases gk with
    | zero=>exact absurd HA.out (by simp [laws_toPairS.l0])
    | succ k1 =>
     have H:=HA.out
     clear HA
     simp only [laws_toPairS.l0] at H
     by_cases c6:x4_1<(l0.length:Int)
     ·
      rw [if_pos c6] at H
      have c6b0:decide (x4_1<(l0.length:Int))=τ:=decide_eq_true c6
      clear c6
      by_cases c7:0≤x4_1
      ·
       rw [if_pos c7] at H
       have c7b0:decide (0≤x4_1)=τ:=decide_eq_true c7
       clear c7
       replace H:=Option.bind_eq_some_iff.mp H
       obtain ⟨⟨t255,t256⟩,A80,H⟩:=H
       replace H:(if x4_1<(x3_1.length:Int) then (laws_toPairS.l0 k1 l0 (x3_1.set (x4_1:Int).toNat (⟨t255,t256⟩:S71)) (ζm (x4_1+1))) else (none))=some r:=H
       have A8:=ζa A80
       clear A80
       by_cases c9:x4_1<(x3_1.length:Int)
       ·
        rw [if_pos c9] at H
        have c9b0:decide (x4_1<(x3_1.length:Int))=τ:=decide_eq_true c9
        clear c9
        obtain ⟨y257,hy257⟩ : ∃ y_:List (S71),y_=(x3_1.set (x4_1:Int).toNat (⟨t255,t256⟩:S71)):=⟨_,rfl⟩
        replace H:(laws_toPairS.l0 k1 l0 y257 (ζm (x4_1+1)))=some r:=by (rw [hy257];with_reducible exact H)
        have Ny257:=ζa hy257
        clear hy257
        have H':=ζa H
        clear H
        have p254:0≤(x4_1:Int):=of_decide_eq_true (by (with_reducible assumption))
        have q254:x4_1<(l0.length:Int):=of_decide_eq_true (by (with_reducible assumption))
        obtain ⟨ad254,e254,hx254_0,hx254_1⟩:=at_T68 HR0.out x4_1 p254 q254
        cases e254
        replace hx254_0:=(HB.out.cell (World.block_lt_of_cell? w _ hx254_0)).trans hx254_0
        replace hx254_1:=(HB.out.cell (World.block_lt_of_cell? w _ hx254_1)).trans hx254_1
        replace p254:=eq_true p254
        replace q254:=eq_true q254
        go_wp2_with (first|((with_reducible refine δv (f:=50) rfl ?_);refine goesL_ (some 20) rfl rfl Tryd.func50 (by kernel_rfl) rfl #[.agg #[.string ((rd_T68 l0 x4_1).f0),.string ((rd_T68 l0 x4_1).f1)]] rfl (by (try simp only [δd,δe,δf]);rfl) ?_;(with_reducible refine (laws_toPair.calls ((rd_T68 l0 x4_1).f0) ((rd_T68 l0 x4_1).f1) t255 t256 _ A8.out).mono ?_);rintro e w11 ⟨rfl,hb⟩;refine ⟨_,rfl,?_⟩;have n0_:=ζa (ζh (by exact HO_3.out) hb);have n1_:=ζa (δr (by exact HB.out) hb);clear HO_3;clear HB;have HO_3:=n0_;have HB:=n1_;clear n0_ n1_;(try clear hb);(try clear hb2);(try clear hk);(try clear hi);have p10:0≤(x4_1:Int):=of_decide_eq_true (by (with_reducible assumption));have q10:(x4_1:Int)<((x3_1.length:Int):Int):=of_decide_eq_true (by (with_reducible assumption));obtain ⟨go10,co10,eo10,gb10,gl10,cl10,HG10⟩:=Kd.R_form HO_3.out (by omega);(cases eo10);have GB10:=ζa gb10;have GG10:=ζa HG10;clear gb10 gl10 HG10;obtain ⟨ce10,hcl10,hM10,hcc10,hfr10⟩:=Kd.R_elem HO_3.out z71 (x4_1:Int) p10 q10;obtain rfl:=k71_openM hM10;have hx10_0:w11.cell? ⟨go10,(x4_1:Int).toNat * 2,none⟩=some (.string ((rd_T71 x3_1 x4_1).f0)):=hcc10 0 _ rfl;have hx10_1:w11.cell? ⟨go10,(x4_1:Int).toNat * 2+1,none⟩=some (.string ((rd_T71 x3_1 x4_1).f1)):=hcc10 1 _ rfl;have hf10_0:w11.frozen? ⟨go10,(x4_1:Int).toNat * 2,none⟩=φ:=hfr10 0;have hf10_1:w11.frozen? ⟨go10,(x4_1:Int).toNat * 2+1,none⟩=φ:=hfr10 1;clear hcl10 hcc10 hfr10 hM10;replace p10:=eq_true p10;replace q10:=eq_true q10;have HX12:=ζa (show Kd.R k71 71 w11 w.heap.size (fun _=>True) (.slice (some ⟨go10,0,none⟩) x3_1.length co10) x3_1 from (by exact HO_3.out));obtain ⟨ce12,hcl12,hM12,hcc12,hfr12⟩:=Kd.R_elem HX12.out z71 (x4_1:Int) (of_decide_eq_true (by (with_reducible assumption))) (by have h_:(x4_1:Int)<((x3_1.length:Int):Int):=of_decide_eq_true (by (with_reducible assumption));exact h_);obtain rfl:=k71_openM hM12;have HP12:=Kd.R_seg HX12.out (x4_1:Int) (of_decide_eq_true (by (with_reducible assumption))) (by have h_:(x4_1:Int)<((x3_1.length:Int):Int):=of_decide_eq_true (by (with_reducible assumption));exact h_) (seg:=[.string t255,.string t256]) (j:=0) hcl12 hcc12 (show 2≤2 from by decide) (x':=(⟨t255,t256⟩:S71)) (k71_mkM _ _ _ (⟨t255,t256⟩:S71) ) (fun _ hk=>hk);have hx12_0:=hcc12 0 _ rfl;(try simp only [show (k71).sz=2 from rfl,Nat.mul_one,Nat.add_zero] at hx12_0);have hf12_0:=hfr12 0;(try simp only [show (k71).sz=2 from rfl,Nat.mul_one,Nat.add_zero] at hf12_0);have hx12_1:=hcc12 1 _ rfl;(try simp only [show (k71).sz=2 from rfl,Nat.mul_one,Nat.add_zero] at hx12_1);have hf12_1:=hfr12 1;(try simp only [show (k71).sz=2 from rfl,Nat.mul_one,Nat.add_zero] at hf12_1);clear hcl12 hcc12 hfr12 hM12)|((with_reducible refine gate_store (t:=71) (p:=21) rfl ?_);refine store_event (t:=71) (p:=21) (v:=?vo_w13) (w1:=((w11.setCell ⟨go10,(x4_1:Int).toNat * 2,none⟩ (.string t255)).setCell ⟨go10,(x4_1:Int).toNat * 2+1,none⟩ (.string t256))) ?hg ?ho ?hn ?hr ?_;(case ho=>rfl);(case hg=>rfl);(case hn=>rfl);(case hr=>(go_simp;done));intro w13 hw;have hg:w11.grownBy w13 (some go10):=(by rw [hw];exact HP12.2);have hp_:Kd.R k71 71 w13 w.heap.size (fun _=>True) (.slice (some ⟨go10,0,none⟩) x3_1.length co10) y257:=(by rw [hw,Ny257.out];exact HP12.1);clear HP12;have n0_:=ζa (hp_);have n1_:=ζa ((by rw [hw];exact δq (δq (HB.out) GB10.out) GB10.out:Below w.heap.size w w13));clear HO_3;clear HB;have HO_3:=n0_;have HB:=n1_;clear n0_ n1_;clear hg hw hp_))
        go_roundg k1
        case measure=>have:=HK1.out;omega
        case rel=>exact ⟨(y257),(ζm (x4_1+1)),(by rfl),H',⟨by have:=HK1.out;omega⟩,⟨by exact HO_3.out⟩,⟨by repeat ((with_reducible exact HB.out))⟩⟩
       ·
        rw [if_neg c9] at H
        exact absurd H (by simp)
      ·
       rw [if_neg c7] at H
       exact absurd H (by simp)
     ·
      rw [if_neg c6] at H
      have c6b0:decide (x4_1<(l0.length:Int))=φ:=decide_eq_false c6
      clear c6
      obtain rfl:=Option.some.inj H
      go_wp2
      go_ret
      exact ⟨_,by rfl,by exact HO_3.out,by repeat ((with_reducible exact HB.out))⟩
  ·
   rw [if_neg c3] at H
   exact absurd H (by simp)
 ·
  rw [if_neg c2] at H
  exact absurd H (by simp)


open Go.Proofs.YteghpdmlpefnfaaDoorW.PrintWords renaming gate_dst → δx, box_event → δz, below_step → δr, below_size → δs, blk_cell → δl, blk_frozen → δm

/-! ### laws_eqPair: function 53 -/
def laws_eqPair.f (a0_0:ByteArray) (a0_1:ByteArray) (a1_0:ByteArray) (a1_1:ByteArray):Option (Bool):=if a0_0.toList=a1_0.toList then (if a0_1.toList=a1_1.toList then (some τ) else (some φ)) else (some φ)
set_option maxHeartbeats 8000000 in
set_option maxRecDepth 100000 in
theorem laws_eqPair.calls (a0_0:ByteArray) (a0_1:ByteArray) (a1_0:ByteArray) (a1_1:ByteArray) (r:Bool) (w:World) (h:laws_eqPair.f a0_0 a0_1 a1_0 a1_1=some r) :
  Calls Tryd.prog 53 #[.agg #[.string a0_0,.string a0_1],.agg #[.string a1_0,.string a1_1]] w fun e w'=>e = .returned (.bool r)∧Below w.heap.size w w':=by
 have hu71:=Tryd.underlying71
 have HB:=ζa (Below.refl w.heap.size w)
 have H:(if a0_0.toList=a1_0.toList then (if a0_1.toList=a1_1.toList then (some τ) else (some φ)) else (some φ))=some r:=h
 clear h
 by_cases c3:a0_0.toList=a1_0.toList
 ·
  rw [if_pos c3] at H
  have c3b0:(a0_0.toList == a1_0.toList)=τ:=beq_iff_eq.mpr c3
  have c3b1:(a0_0.toList != a1_0.toList)=φ:=bne_eq_false_iff_eq.mpr c3
  clear c3
  by_cases c4:a0_1.toList=a1_1.toList
  ·
   rw [if_pos c4] at H
   have c4b0:(a0_1.toList == a1_1.toList)=τ:=beq_iff_eq.mpr c4
   have c4b1:(a0_1.toList != a1_1.toList)=φ:=bne_eq_false_iff_eq.mpr c4
   clear c4
   obtain rfl:=Option.some.inj H
   go_enter Tryd.func53,Tryd.ntmps53
   go_wp2_with (first|((with_reducible refine δx (N:=2) rfl ?_);refine δz ?hg (N:=2) ?hd (cs:=#[.string a0_0,.string a0_1]) (t:=71) ?hr ?_;(case hd=>rfl);(case hg=>rfl);(case hr=>(go_simp;done));intro gb328 hg w5 hbox hb;have n0_:=ζa (δr (by exact HB.out) hb);have n1_:=ζa (hbox);have n2_:=ζa ((by rw [hg];exact (δs (by exact HB.out)):w.heap.size≤gb328));have n3_:=ζa ((by rw [hg];exact (δs (by exact HB.out)):w.heap.size≤gb328));clear HB;have HB:=n0_;have BK328:=n1_;have GW328:=n2_;have GE328:=n3_;clear n0_ n1_ n2_ n3_;clear hb hbox hg)|((with_reducible refine δx (N:=3) rfl ?_);refine δz ?hg (N:=3) ?hd (cs:=#[.string a1_0,.string a1_1]) (t:=71) ?hr ?_;(case hd=>rfl);(case hg=>rfl);(case hr=>(go_simp;done));intro gb329 hg w6 hbox hb;have n0_:=ζa (blk_below (g:=gb328) (o:=.cells #[.string a0_0,.string a0_1] 71 (0,0)) (by exact BK328.out) hb);have n1_:=ζa (δr (by exact HB.out) hb);have n2_:=ζa (hbox);have n3_:=ζa ((by rw [hg];exact (δs (by exact HB.out)):w.heap.size≤gb329));have n4_:=ζa ((by rw [hg];exact (δs (by exact HB.out)):w.heap.size≤gb329));have n5_:=ζa ((by rw [hg];exact Nat.ne_of_lt (blk_lt (g:=gb328) (o:=.cells #[.string a0_0,.string a0_1] 71 (0,0)) (by exact BK328.out)):gb328≠gb329));have n6_:=ζa ((by rw [hg];exact Nat.ne_of_gt (blk_lt (g:=gb328) (o:=.cells #[.string a0_0,.string a0_1] 71 (0,0)) (by exact BK328.out)):gb329≠gb328));clear BK328;clear HB;have BK328:=n0_;have HB:=n1_;have BK329:=n2_;have GW329:=n3_;have GE329:=n4_;have NB328_329:=n5_;have NB329_328:=n6_;clear n0_ n1_ n2_ n3_ n4_ n5_ n6_;clear hb hbox hg;have hnb7:=NB328_329.out;have hnc7:=NB329_328.out;have hcz8_0:w6.cell? ⟨gb328,0,none⟩=some (.string a0_0):=(δl BK328.out 0).trans rfl;have hcz8_1:w6.cell? ⟨gb328,1,none⟩=some (.string a0_1):=(δl BK328.out 1).trans rfl;have hfz8_0:=δm BK328.out 0;have hfz8_1:=δm BK328.out 1;have hcz9_0:w6.cell? ⟨gb329,0,none⟩=some (.string a1_0):=(δl BK329.out 0).trans rfl;have hcz9_1:w6.cell? ⟨gb329,1,none⟩=some (.string a1_1):=(δl BK329.out 1).trans rfl;have hfz9_0:=δm BK329.out 0;have hfz9_1:=δm BK329.out 1))
   go_ret
   exact ⟨by rfl,by repeat ((with_reducible exact HB.out))⟩
  ·
   rw [if_neg c4] at H
   have c4b0:(a0_1.toList == a1_1.toList)=φ:=beq_eq_false_iff_ne.mpr c4
   have c4b1:(a0_1.toList != a1_1.toList)=τ:=bne_iff_ne.mpr c4
   obtain rfl:=Option.some.inj H
   go_enter Tryd.func53,Tryd.ntmps53
   go_wp2_with (first|((with_reducible refine δx (N:=2) rfl ?_);refine δz ?hg (N:=2) ?hd (cs:=#[.string a0_0,.string a0_1]) (t:=71) ?hr ?_;(case hd=>rfl);(case hg=>rfl);(case hr=>(go_simp;done));intro gb328 hg w10 hbox hb;have n0_:=ζa (δr (by exact HB.out) hb);have n1_:=ζa (hbox);have n2_:=ζa ((by rw [hg];exact (δs (by exact HB.out)):w.heap.size≤gb328));have n3_:=ζa ((by rw [hg];exact (δs (by exact HB.out)):w.heap.size≤gb328));clear HB;have HB:=n0_;have BK328:=n1_;have GW328:=n2_;have GE328:=n3_;clear n0_ n1_ n2_ n3_;clear hb hbox hg)|((with_reducible refine δx (N:=3) rfl ?_);refine δz ?hg (N:=3) ?hd (cs:=#[.string a1_0,.string a1_1]) (t:=71) ?hr ?_;(case hd=>rfl);(case hg=>rfl);(case hr=>(go_simp;done));intro gb329 hg w11 hbox hb;have n0_:=ζa (blk_below (g:=gb328) (o:=.cells #[.string a0_0,.string a0_1] 71 (0,0)) (by exact BK328.out) hb);have n1_:=ζa (δr (by exact HB.out) hb);have n2_:=ζa (hbox);have n3_:=ζa ((by rw [hg];exact (δs (by exact HB.out)):w.heap.size≤gb329));have n4_:=ζa ((by rw [hg];exact (δs (by exact HB.out)):w.heap.size≤gb329));have n5_:=ζa ((by rw [hg];exact Nat.ne_of_lt (blk_lt (g:=gb328) (o:=.cells #[.string a0_0,.string a0_1] 71 (0,0)) (by exact BK328.out)):gb328≠gb329));have n6_:=ζa ((by rw [hg];exact Nat.ne_of_gt (blk_lt (g:=gb328) (o:=.cells #[.string a0_0,.string a0_1] 71 (0,0)) (by exact BK328.out)):gb329≠gb328));clear BK328;clear HB;have BK328:=n0_;have HB:=n1_;have BK329:=n2_;have GW329:=n3_;have GE329:=n4_;have NB328_329:=n5_;have NB329_328:=n6_;clear n0_ n1_ n2_ n3_ n4_ n5_ n6_;clear hb hbox hg;have hnb12:=NB328_329.out;have hnc12:=NB329_328.out;have hcz13_0:w11.cell? ⟨gb328,0,none⟩=some (.string a0_0):=(δl BK328.out 0).trans rfl;have hcz13_1:w11.cell? ⟨gb328,1,none⟩=some (.string a0_1):=(δl BK328.out 1).trans rfl;have hfz13_0:=δm BK328.out 0;have hfz13_1:=δm BK328.out 1;have hcz14_0:w11.cell? ⟨gb329,0,none⟩=some (.string a1_0):=(δl BK329.out 0).trans rfl;have hcz14_1:w11.cell? ⟨gb329,1,none⟩=some (.string a1_1):=(δl BK329.out 1).trans rfl;have hfz14_0:=δm BK329.out 0;have hfz14_1:=δm BK329.out 1))
   go_ret
   exact ⟨by rfl,by repeat ((with_reducible exact HB.out))⟩
 ·
  rw [if_neg c3] at H
  have c3b0:(a0_0.toList == a1_0.toList)=φ:=beq_eq_false_iff_ne.mpr c3
  have c3b1:(a0_0.toList != a1_0.toList)=τ:=bne_iff_ne.mpr c3
  obtain rfl:=Option.some.inj H
  go_enter Tryd.func53,Tryd.ntmps53
  go_wp2_with (first|((with_reducible refine δx (N:=2) rfl ?_);refine δz ?hg (N:=2) ?hd (cs:=#[.string a0_0,.string a0_1]) (t:=71) ?hr ?_;(case hd=>rfl);(case hg=>rfl);(case hr=>(go_simp;done));intro gb328 hg w15 hbox hb;have n0_:=ζa (δr (by exact HB.out) hb);have n1_:=ζa (hbox);have n2_:=ζa ((by rw [hg];exact (δs (by exact HB.out)):w.heap.size≤gb328));have n3_:=ζa ((by rw [hg];exact (δs (by exact HB.out)):w.heap.size≤gb328));clear HB;have HB:=n0_;have BK328:=n1_;have GW328:=n2_;have GE328:=n3_;clear n0_ n1_ n2_ n3_;clear hb hbox hg)|((with_reducible refine δx (N:=3) rfl ?_);refine δz ?hg (N:=3) ?hd (cs:=#[.string a1_0,.string a1_1]) (t:=71) ?hr ?_;(case hd=>rfl);(case hg=>rfl);(case hr=>(go_simp;done));intro gb329 hg w16 hbox hb;have n0_:=ζa (blk_below (g:=gb328) (o:=.cells #[.string a0_0,.string a0_1] 71 (0,0)) (by exact BK328.out) hb);have n1_:=ζa (δr (by exact HB.out) hb);have n2_:=ζa (hbox);have n3_:=ζa ((by rw [hg];exact (δs (by exact HB.out)):w.heap.size≤gb329));have n4_:=ζa ((by rw [hg];exact (δs (by exact HB.out)):w.heap.size≤gb329));have n5_:=ζa ((by rw [hg];exact Nat.ne_of_lt (blk_lt (g:=gb328) (o:=.cells #[.string a0_0,.string a0_1] 71 (0,0)) (by exact BK328.out)):gb328≠gb329));have n6_:=ζa ((by rw [hg];exact Nat.ne_of_gt (blk_lt (g:=gb328) (o:=.cells #[.string a0_0,.string a0_1] 71 (0,0)) (by exact BK328.out)):gb329≠gb328));clear BK328;clear HB;have BK328:=n0_;have HB:=n1_;have BK329:=n2_;have GW329:=n3_;have GE329:=n4_;have NB328_329:=n5_;have NB329_328:=n6_;clear n0_ n1_ n2_ n3_ n4_ n5_ n6_;clear hb hbox hg;have hnb17:=NB328_329.out;have hnc17:=NB329_328.out;have hcz18_0:w16.cell? ⟨gb328,0,none⟩=some (.string a0_0):=(δl BK328.out 0).trans rfl;have hcz18_1:w16.cell? ⟨gb328,1,none⟩=some (.string a0_1):=(δl BK328.out 1).trans rfl;have hfz18_0:=δm BK328.out 0;have hfz18_1:=δm BK328.out 1;have hcz19_0:w16.cell? ⟨gb329,0,none⟩=some (.string a1_0):=(δl BK329.out 0).trans rfl;have hcz19_1:w16.cell? ⟨gb329,1,none⟩=some (.string a1_1):=(δl BK329.out 1).trans rfl;have hfz19_0:=δm BK329.out 0;have hfz19_1:=δm BK329.out 1))
  go_ret
  exact ⟨by rfl,by repeat ((with_reducible exact HB.out))⟩


open Go.Proofs.YteghpdmlpefnfaaDoorW.PrintWords renaming below_drew1 → δj, below_step → δr
open Go.Proofs.YteghpdmlpefnfaaDoorW.PrintLast renaming pure_ → ζk, any_of → ζj
open Go.Act renaming put → ζl
open List renaming setIfInBounds_toArray → δa, set_cons_zero → δb, set_cons_succ → δc, map_toArray → δd, map_cons → δe, map_nil → δf

/-! ### laws_eqPairS: function 22 -/
def laws_eqPairS.l0:Nat→List (S71)→List (S71)→Int→Option (Bool)
 | 0,_,_,_=>none
 | k+1,x0,x1,x5=>if x5<(x0.length:Int) then (if 0≤x5 then (if x5<(x1.length:Int) then ((laws_eqPair.f ((rd_T71 x0 x5).f0) ((rd_T71 x0 x5).f1) ((rd_T71 x1 x5).f0) ((rd_T71 x1 x5).f1)).bind fun t332=>(if t332=τ then (laws_eqPairS.l0 k x0 x1 (ζm (x5+1))) else (some φ))) else (none)) else (none)) else (some τ)
def laws_eqPairS.f (k:Nat) (l0:List (S71)) (l1:List (S71)):Option (Bool):=if (l0.length:Int)=(l1.length:Int) then (laws_eqPairS.l0 k l0 l1 0) else (some φ)
def laws_eqPairS.T6:Bool × List (List Nat × List Nat):=(τ,[([],[]),([],[]),([0,1],[0,1]),([2],[2]),([],[]),([],[]),([4,5],[4,5]),([6],[6]),([3,7],[3,7]),([8],[8])])
def laws_eqPairS.B6:List Nat:=[0,0,3,7,0,0,48,112,255,511]
theorem laws_eqPairS.tab6:rtab .any (opsOf Tryd.f22 6)=laws_eqPairS.T6:=by kernel_rfl
theorem laws_eqPairS.bits6:waitsOk laws_eqPairS.T6.2 laws_eqPairS.B6=τ:=by kernel_rfl
set_option maxHeartbeats 8000000 in
set_option maxRecDepth 100000 in
theorem laws_eqPairS.calls (k:Nat) (A0:Option Addr) (c0:Nat) (l0:List (S71)) (A1:Option Addr) (c1:Nat) (l1:List (S71)) (r:Bool) (w:World) (hr0:Kd.C k71 w A0 l0.length l0) (hc0:l0.length≤c0) (hr1:Kd.C k71 w A1 l1.length l1) (hc1:l1.length≤c1) (h:laws_eqPairS.f k l0 l1=some r) :
  Calls Tryd.prog 22 #[.slice A0 l0.length c0,.slice A1 l1.length c1] w fun e w'=>e = .returned (.bool r)∧Below w.heap.size w w':=by
 have hu71:=Tryd.underlying71
 have HR0:=ζa hr0
 have HC0:=ζa hc0
 clear hr0 hc0
 have HR1:=ζa hr1
 have HC1:=ζa hc1
 clear hr1 hc1
 have HB:=ζa (Below.refl w.heap.size w)
 have H:(if (l0.length:Int)=(l1.length:Int) then (laws_eqPairS.l0 k l0 l1 0) else (some φ))=some r:=h
 clear h
 by_cases c3:(l0.length:Int)=(l1.length:Int)
 ·
  rw [if_pos c3] at H
  have c3b0:((l0.length:Int) == (l1.length:Int))=τ:=beq_iff_eq.mpr c3
  have c3b1:((l0.length:Int) != (l1.length:Int))=φ:=bne_eq_false_iff_eq.mpr c3
  have c3b2:(l0.length == l1.length)=τ:=by (simp at c3 ⊢;omega)
  clear c3
  have H':=ζa H
  clear H
  go_enter Tryd.func22,Tryd.ntmps22
  go_wp2
  go_loopg [5] k (fun kq v5 w' => ∃ (x5_1:Int),v5 = .int .i64 x5_1∧Aside0 (laws_eqPairS.l0 kq l0 l1 x5_1=some r)∧Aside0 (kq≤k)∧Aside0 (Below w.heap.size w w'))
  case atStart=>exact ⟨(0),(by rfl),H',⟨Nat.le_refl _⟩,⟨by repeat ((with_reducible exact HB.out))⟩⟩
  case round =>
   clear H'
   try clear c1
   try clear c2
   try clear p2
   try clear c3
   try clear c3b0
   try clear c3b1
   try clear c3b2
   obtain ⟨x5_1,rfl,HA,HK1,HB⟩:=hrel
   cases gk with
   | zero=>exact absurd HA.out (by simp [laws_eqPairS.l0])
   | succ k1 =>
    have H:=HA.out
    clear HA
    simp only [laws_eqPairS.l0] at H
    by_cases c4:x5_1<(l0.length:Int)
    ·
     rw [if_pos c4] at H
     have c4b0:decide (x5_1<(l0.length:Int))=τ:=decide_eq_true c4
     clear c4
     by_cases c5:0≤x5_1
     ·
      rw [if_pos c5] at H
      have c5b0:decide (0≤x5_1)=τ:=decide_eq_true c5
      clear c5
      by_cases c6:x5_1<(l1.length:Int)
      ·
       rw [if_pos c6] at H
       have c6b0:decide (x5_1<(l1.length:Int))=τ:=decide_eq_true c6
       clear c6
       replace H:=Option.bind_eq_some_iff.mp H
       obtain ⟨t332,A70,H⟩:=H
       replace H:(if t332=τ then (laws_eqPairS.l0 k1 l0 l1 (ζm (x5_1+1))) else (some φ))=some r:=H
       have A7:=ζa A70
       clear A70
       by_cases c8:t332=τ
       ·
        subst c8
        have H1:(laws_eqPairS.l0 k1 l0 l1 (ζm (x5_1+1)))=some r:=by rw [if_pos rfl] at H;exact H
        clear H
        have H:=H1
        clear H1
        have H':=ζa H
        clear H
        try go_wp2
        have n0_:=ζa (δj HB.out)
        clear HB
        have HB:=n0_
        clear n0_
        have p330:0≤(x5_1:Int):=of_decide_eq_true (by (with_reducible assumption))
        have q330:x5_1<(l0.length:Int):=of_decide_eq_true (by (with_reducible assumption))
        obtain ⟨ad330,e330,hx330_0,hx330_1⟩:=at_T71 HR0.out x5_1 p330 q330
        have hw330_1:=hx330_1
        have hw330_0:=hx330_0
        cases e330
        replace hx330_0:=(HB.out.cell (World.block_lt_of_cell? w _ hx330_0)).trans hx330_0
        replace hx330_1:=(HB.out.cell (World.block_lt_of_cell? w _ hx330_1)).trans hx330_1
        replace p330:=eq_true p330
        replace q330:=eq_true q330
        have p331:0≤(x5_1:Int):=of_decide_eq_true (by (with_reducible assumption))
        have q331:x5_1<(l1.length:Int):=of_decide_eq_true (by (with_reducible assumption))
        obtain ⟨ad331,e331,hx331_0,hx331_1⟩:=at_T71 HR1.out x5_1 p331 q331
        have hw331_1:=hx331_1
        have hw331_0:=hx331_0
        cases e331
        replace hx331_0:=(HB.out.cell (World.block_lt_of_cell? w _ hx331_0)).trans hx331_0
        replace hx331_1:=(HB.out.cell (World.block_lt_of_cell? w _ hx331_1)).trans hx331_1
        replace p331:=eq_true p331
        replace q331:=eq_true q331
        refine start_ (n:=10) (S:=fun w'=>w'.cell? (ad330.add ((x5_1).toNat * 2))=some (.string ((rd_T71 l0 x5_1).f0))∧w'.cell? ⟨(ad330.add ((x5_1).toNat * 2)).block,(ad330.add ((x5_1).toNat * 2)).off+1,none⟩=some (.string ((rd_T71 l0 x5_1).f1))∧w'.cell? (ad331.add ((x5_1).toNat * 2))=some (.string ((rd_T71 l1 x5_1).f0))∧w'.cell? ⟨(ad331.add ((x5_1).toNat * 2)).block,(ad331.add ((x5_1).toNat * 2)).off+1,none⟩=some (.string ((rd_T71 l1 x5_1).f1))) (ds:=[]) #[φ,φ,φ,φ,φ,φ,φ,φ,φ,φ] (by kernel_rfl) rfl rfl ⟨((HB.out.cell (World.block_lt_of_cell? w _ hw330_0)).trans hw330_0),((HB.out.cell (World.block_lt_of_cell? w _ hw330_1)).trans hw330_1),((HB.out.cell (World.block_lt_of_cell? w _ hw331_0)).trans hw331_0),((HB.out.cell (World.block_lt_of_cell? w _ hw331_1)).trans hw331_1)⟩ (fun hHeld => ?_);refine with_tabW laws_eqPairS.tab6 laws_eqPairS.bits6 (fun HT_ HW_ => ?_)
        generalize wr.drew=w9 at HB hx330_0 hx330_1 hx331_0 hx331_1 hHeld ⊢
        refine ζk (i:=0) (N:=some 17) (v:=?_) (a':=?_) #[τ,φ,φ,φ,φ,φ,φ,φ,φ,φ] rfl rfl (ζj HT_.out (by kernel_rfl)) (fun _ _ _ h=>h) (Or.inl ⟨by rfl,?_⟩) ?_ ?_
        rotate_left
        · intro w';go_simp;with_reducible rfl
        rotate_left
        · simp only [ζl,δa,δb,δc,i64_w,i32_w];rfl
        refine ζk (i:=1) (N:=some 18) (v:=?_) (a':=?_) #[τ,τ,φ,φ,φ,φ,φ,φ,φ,φ] rfl rfl (ζj HT_.out (by kernel_rfl)) (fun _ _ _ h=>h) (Or.inl ⟨by rfl,?_⟩) ?_ ?_
        rotate_left
        · intro w';go_simp;with_reducible rfl
        rotate_left
        · simp only [ζl,δa,δb,δc,i64_w,i32_w];rfl
        refine ζk (i:=2) (N:=some 19) (v:=?_) (a':=?_) #[τ,τ,τ,φ,φ,φ,φ,φ,φ,φ] rfl rfl (ζj HT_.out (by kernel_rfl)) (fun _ _ _ h=>h) (Or.inl ⟨by rfl,?_⟩) ?_ ?_
        rotate_left
        · intro w';go_simp;with_reducible rfl
        rotate_left
        · simp only [ζl,δa,δb,δc,i64_w,i32_w];rfl
        refine ζk (i:=4) (N:=some 21) (v:=?_) (a':=?_) #[τ,τ,τ,φ,τ,φ,φ,φ,φ,φ] rfl rfl (ζj HT_.out (by kernel_rfl)) (fun _ _ _ h=>h) (Or.inl ⟨by rfl,?_⟩) ?_ ?_
        rotate_left
        · intro w';go_simp;with_reducible rfl
        rotate_left
        · simp only [ζl,δa,δb,δc,i64_w,i32_w];rfl
        refine ζk (i:=5) (N:=some 22) (v:=?_) (a':=?_) #[τ,τ,τ,φ,τ,τ,φ,φ,φ,φ] rfl rfl (ζj HT_.out (by kernel_rfl)) (fun _ _ _ h=>h) (Or.inl ⟨by rfl,?_⟩) ?_ ?_
        rotate_left
        · intro w';go_simp;with_reducible rfl
        rotate_left
        · simp only [ζl,δa,δb,δc,i64_w,i32_w];rfl
        refine ζk (i:=6) (N:=some 23) (v:=?_) (a':=?_) #[τ,τ,τ,φ,τ,τ,τ,φ,φ,φ] rfl rfl (ζj HT_.out (by kernel_rfl)) (fun _ _ _ h=>h) (Or.inl ⟨by rfl,?_⟩) ?_ ?_
        rotate_left
        · intro w';go_simp;with_reducible rfl
        rotate_left
        · simp only [ζl,δa,δb,δc,i64_w,i32_w];rfl
        refine take_ (i:=3) (N:=some 20) (v:=?_) (a':=?_) #[τ,τ,τ,τ,τ,τ,τ,φ,φ,φ] rfl rfl (take_ofW HT_.out HW_.out (by kernel_rfl)) (fun _ _ _ h=>h) (Or.inl ⟨by rfl,?_⟩) hHeld ?_ ?_
        rotate_left
        · rintro w' ⟨s0,s1,s2,s3⟩;go_simp;with_reducible rfl
        rotate_left
        · simp only [ζl,δa,δb,δc,i64_w,i32_w];rfl
        refine take_ (i:=7) (N:=some 24) (v:=?_) (a':=?_) #[τ,τ,τ,τ,τ,τ,τ,τ,φ,φ] rfl rfl (take_ofW HT_.out HW_.out (by kernel_rfl)) (fun _ _ _ h=>h) (Or.inl ⟨by rfl,?_⟩) hHeld ?_ ?_
        rotate_left
        · rintro w' ⟨s0,s1,s2,s3⟩;go_simp;with_reducible rfl
        rotate_left
        · simp only [ζl,δa,δb,δc,i64_w,i32_w];rfl
        refine one_ (i:=8) (N:=some 25) #[τ,τ,τ,τ,τ,τ,τ,τ,τ,φ] rfl rfl (one_of HT_.out (by kernel_rfl)) (by decide) (fun K hK => ?_)
        refine goes_ Tryd.func53 (by kernel_rfl) rfl #[.agg #[.string ((rd_T71 l0 x5_1).f0),.string ((rd_T71 l0 x5_1).f1)],.agg #[.string ((rd_T71 l1 x5_1).f0),.string ((rd_T71 l1 x5_1).f1)]] (by rfl) rfl rfl (by (try simp only [δd,δe,δf]);rfl) ?_
        with_reducible refine (laws_eqPair.calls ((rd_T71 l0 x5_1).f0) ((rd_T71 l0 x5_1).f1) ((rd_T71 l1 x5_1).f0) ((rd_T71 l1 x5_1).f1) τ _ A7.out).mono ?_
        rintro e w10 ⟨rfl,hb⟩
        refine ⟨_,rfl,?_⟩
        have n0_:=ζa (δr (by exact HB.out) hb)
        clear HB
        have HB:=n0_
        clear n0_
        (try clear hb)
        (try clear hb2)
        (try clear hk)
        (try clear hi)
        refine hK.out _ _ ⟨((HB.out.cell (World.block_lt_of_cell? w _ hw330_0)).trans hw330_0),((HB.out.cell (World.block_lt_of_cell? w _ hw330_1)).trans hw330_1),((HB.out.cell (World.block_lt_of_cell? w _ hw331_0)).trans hw331_0),((HB.out.cell (World.block_lt_of_cell? w _ hw331_1)).trans hw331_1)⟩ (fun hHeld => ?_)
        clear hK K
        refine norm_ (a':=?_) ?_ ?_
        rotate_left
        ·
         show ζl _ (some 25) _=_
         simp only [ζl,δa,δb,δc,i64_w,i32_w];rfl
        refine ζk (i:=9) (N:=some 26) (v:=?_) (a':=?_) #[τ,τ,τ,τ,τ,τ,τ,τ,τ,τ] rfl rfl (ζj HT_.out (by kernel_rfl)) (fun _ _ _ h=>h) (Or.inl ⟨by rfl,?_⟩) ?_ ?_
        rotate_left
        · intro w';go_simp;with_reducible rfl
        rotate_left
        · simp only [ζl,δa,δb,δc,i64_w,i32_w];rfl
        refine done_ (done_of HT_.out (by kernel_rfl)) ?_
        try go_wp2
        go_roundg k1
        case measure=>have:=HK1.out;omega
        case rel=>exact ⟨(ζm (x5_1+1)),(by rfl),H',⟨by have:=HK1.out;omega⟩,⟨by repeat ((with_reducible exact HB.out))⟩⟩
       ·
        replace c8:=Bool.eq_false_iff.mpr c8
        subst c8
        have H1:(some φ)=some r:=by rw [if_neg (show ¬ (φ=τ) by decide)] at H;exact H
        clear H
        have H:=H1
        clear H1
        obtain rfl:=Option.some.inj H
        try go_wp2
        have n0_:=ζa (δj HB.out)
        clear HB
        have HB:=n0_
        clear n0_
        have p330:0≤(x5_1:Int):=of_decide_eq_true (by (with_reducible assumption))
        have q330:x5_1<(l0.length:Int):=of_decide_eq_true (by (with_reducible assumption))
        obtain ⟨ad330,e330,hx330_0,hx330_1⟩:=at_T71 HR0.out x5_1 p330 q330
        have hw330_1:=hx330_1
        have hw330_0:=hx330_0
        cases e330
        replace hx330_0:=(HB.out.cell (World.block_lt_of_cell? w _ hx330_0)).trans hx330_0
        replace hx330_1:=(HB.out.cell (World.block_lt_of_cell? w _ hx330_1)).trans hx330_1
        replace p330:=eq_true p330
        replace q330:=eq_true q330
        have p331:0≤(x5_1:Int):=of_decide_eq_true (by (with_reducible assumption))
        have q331:x5_1<(l1.length:Int):=of_decide_eq_true (by (with_reducible assumption))
        obtain ⟨ad331,e331,hx331_0,hx331_1⟩:=at_T71 HR1.out x5_1 p331 q331
        have hw331_1:=hx331_1
        have hw331_0:=hx331_0
        cases e331
        replace hx331_0:=(HB.out.cell (World.block_lt_of_cell? w _ hx331_0)).trans hx331_0
        replace hx331_1:=(HB.out.cell (World.block_lt_of_cell? w _ hx331_1)).trans hx331_1
        replace p331:=eq_true p331
        replace q331:=eq_true q331
        refine start_ (n:=10) (S:=fun w'=>w'.cell? (ad330.add ((x5_1).toNat * 2))=some (.string ((rd_T71 l0 x5_1).f0))∧w'.cell? ⟨(ad330.add ((x5_1).toNat * 2)).block,(ad330.add ((x5_1).toNat * 2)).off+1,none⟩=some (.string ((rd_T71 l0 x5_1).f1))∧w'.cell? (ad331.add ((x5_1).toNat * 2))=some (.string ((rd_T71 l1 x5_1).f0))∧w'.cell? ⟨(ad331.add ((x5_1).toNat * 2)).block,(ad331.add ((x5_1).toNat * 2)).off+1,none⟩=some (.string ((rd_T71 l1 x5_1).f1))) (ds:=[]) #[φ,φ,φ,φ,φ,φ,φ,φ,φ,φ] (by kernel_rfl) rfl rfl ⟨((HB.out.cell (World.block_lt_of_cell? w _ hw330_0)).trans hw330_0),((HB.out.cell (World.block_lt_of_cell? w _ hw330_1)).trans hw330_1),((HB.out.cell (World.block_lt_of_cell? w _ hw331_0)).trans hw331_0),((HB.out.cell (World.block_lt_of_cell? w _ hw331_1)).trans hw331_1)⟩ (fun hHeld => ?_);refine with_tabW laws_eqPairS.tab6 laws_eqPairS.bits6 (fun HT_ HW_ => ?_)
        generalize wr.drew=w11 at HB hx330_0 hx330_1 hx331_0 hx331_1 hHeld ⊢
        refine ζk (i:=0) (N:=some 17) (v:=?_) (a':=?_) #[τ,φ,φ,φ,φ,φ,φ,φ,φ,φ] rfl rfl (ζj HT_.out (by kernel_rfl)) (fun _ _ _ h=>h) (Or.inl ⟨by rfl,?_⟩) ?_ ?_
        rotate_left
        · intro w';go_simp;with_reducible rfl
        rotate_left
        · simp only [ζl,δa,δb,δc,i64_w,i32_w];rfl
        refine ζk (i:=1) (N:=some 18) (v:=?_) (a':=?_) #[τ,τ,φ,φ,φ,φ,φ,φ,φ,φ] rfl rfl (ζj HT_.out (by kernel_rfl)) (fun _ _ _ h=>h) (Or.inl ⟨by rfl,?_⟩) ?_ ?_
        rotate_left
        · intro w';go_simp;with_reducible rfl
        rotate_left
        · simp only [ζl,δa,δb,δc,i64_w,i32_w];rfl
        refine ζk (i:=2) (N:=some 19) (v:=?_) (a':=?_) #[τ,τ,τ,φ,φ,φ,φ,φ,φ,φ] rfl rfl (ζj HT_.out (by kernel_rfl)) (fun _ _ _ h=>h) (Or.inl ⟨by rfl,?_⟩) ?_ ?_
        rotate_left
        · intro w';go_simp;with_reducible rfl
        rotate_left
        · simp only [ζl,δa,δb,δc,i64_w,i32_w];rfl
        refine ζk (i:=4) (N:=some 21) (v:=?_) (a':=?_) #[τ,τ,τ,φ,τ,φ,φ,φ,φ,φ] rfl rfl (ζj HT_.out (by kernel_rfl)) (fun _ _ _ h=>h) (Or.inl ⟨by rfl,?_⟩) ?_ ?_
        rotate_left
        · intro w';go_simp;with_reducible rfl
        rotate_left
        · simp only [ζl,δa,δb,δc,i64_w,i32_w];rfl
        refine ζk (i:=5) (N:=some 22) (v:=?_) (a':=?_) #[τ,τ,τ,φ,τ,τ,φ,φ,φ,φ] rfl rfl (ζj HT_.out (by kernel_rfl)) (fun _ _ _ h=>h) (Or.inl ⟨by rfl,?_⟩) ?_ ?_
        rotate_left
        · intro w';go_simp;with_reducible rfl
        rotate_left
        · simp only [ζl,δa,δb,δc,i64_w,i32_w];rfl
        refine ζk (i:=6) (N:=some 23) (v:=?_) (a':=?_) #[τ,τ,τ,φ,τ,τ,τ,φ,φ,φ] rfl rfl (ζj HT_.out (by kernel_rfl)) (fun _ _ _ h=>h) (Or.inl ⟨by rfl,?_⟩) ?_ ?_
        rotate_left
        · intro w';go_simp;with_reducible rfl
        rotate_left
        · simp only [ζl,δa,δb,δc,i64_w,i32_w];rfl
        refine take_ (i:=3) (N:=some 20) (v:=?_) (a':=?_) #[τ,τ,τ,τ,τ,τ,τ,φ,φ,φ] rfl rfl (take_ofW HT_.out HW_.out (by kernel_rfl)) (fun _ _ _ h=>h) (Or.inl ⟨by rfl,?_⟩) hHeld ?_ ?_
        rotate_left
        · rintro w' ⟨s0,s1,s2,s3⟩;go_simp;with_reducible rfl
        rotate_left
        · simp only [ζl,δa,δb,δc,i64_w,i32_w];rfl
        refine take_ (i:=7) (N:=some 24) (v:=?_) (a':=?_) #[τ,τ,τ,τ,τ,τ,τ,τ,φ,φ] rfl rfl (take_ofW HT_.out HW_.out (by kernel_rfl)) (fun _ _ _ h=>h) (Or.inl ⟨by rfl,?_⟩) hHeld ?_ ?_
        rotate_left
        · rintro w' ⟨s0,s1,s2,s3⟩;go_simp;with_reducible rfl
        rotate_left
        · simp only [ζl,δa,δb,δc,i64_w,i32_w];rfl
        refine one_ (i:=8) (N:=some 25) #[τ,τ,τ,τ,τ,τ,τ,τ,τ,φ] rfl rfl (one_of HT_.out (by kernel_rfl)) (by decide) (fun K hK => ?_)
        refine goes_ Tryd.func53 (by kernel_rfl) rfl #[.agg #[.string ((rd_T71 l0 x5_1).f0),.string ((rd_T71 l0 x5_1).f1)],.agg #[.string ((rd_T71 l1 x5_1).f0),.string ((rd_T71 l1 x5_1).f1)]] (by rfl) rfl rfl (by (try simp only [δd,δe,δf]);rfl) ?_
        with_reducible refine (laws_eqPair.calls ((rd_T71 l0 x5_1).f0) ((rd_T71 l0 x5_1).f1) ((rd_T71 l1 x5_1).f0) ((rd_T71 l1 x5_1).f1) φ _ A7.out).mono ?_
        rintro e w12 ⟨rfl,hb⟩
        refine ⟨_,rfl,?_⟩
        have n0_:=ζa (δr (by exact HB.out) hb)
        clear HB
        have HB:=n0_
        clear n0_
        (try clear hb)
        (try clear hb2)
        (try clear hk)
        (try clear hi)
        refine hK.out _ _ ⟨((HB.out.cell (World.block_lt_of_cell? w _ hw330_0)).trans hw330_0),((HB.out.cell (World.block_lt_of_cell? w _ hw330_1)).trans hw330_1),((HB.out.cell (World.block_lt_of_cell? w _ hw331_0)).trans hw331_0),((HB.out.cell (World.block_lt_of_cell? w _ hw331_1)).trans hw331_1)⟩ (fun hHeld => ?_)
        clear hK K
        refine norm_ (a':=?_) ?_ ?_
        rotate_left
        ·
         show ζl _ (some 25) _=_
         simp only [ζl,δa,δb,δc,i64_w,i32_w];rfl
        refine ζk (i:=9) (N:=some 26) (v:=?_) (a':=?_) #[τ,τ,τ,τ,τ,τ,τ,τ,τ,τ] rfl rfl (ζj HT_.out (by kernel_rfl)) (fun _ _ _ h=>h) (Or.inl ⟨by rfl,?_⟩) ?_ ?_
        rotate_left
        · intro w';go_simp;with_reducible rfl
        rotate_left
        · simp only [ζl,δa,δb,δc,i64_w,i32_w];rfl
        refine done_ (done_of HT_.out (by kernel_rfl)) ?_
        try go_wp2
        go_ret
        exact ⟨by rfl,by repeat ((with_reducible exact HB.out))⟩
      ·
       rw [if_neg c6] at H
       exact absurd H (by simp)
     ·
      rw [if_neg c5] at H
      exact absurd H (by simp)
    ·
     rw [if_neg c4] at H
     have c4b0:decide (x5_1<(l0.length:Int))=φ:=decide_eq_false c4
     clear c4
     obtain rfl:=Option.some.inj H
     go_wp2
     go_ret
     exact ⟨by rfl,by repeat ((with_reducible exact HB.out))⟩
 ·
  rw [if_neg c3] at H
  have c3b0:((l0.length:Int) == (l1.length:Int))=φ:=beq_eq_false_iff_ne.mpr c3
  have c3b1:((l0.length:Int) != (l1.length:Int))=τ:=bne_iff_ne.mpr c3
  have c3b2:(l0.length == l1.length)=φ:=by (simp at c3 ⊢;omega)
  obtain rfl:=Option.some.inj H
  go_enter Tryd.func22,Tryd.ntmps22
  go_wp2
  go_ret
  exact ⟨by rfl,by repeat ((with_reducible exact HB.out))⟩



/-! ### spec_l01In: function 33 -/
def spec_l01In.f (a0:Int) (a1:Int) (a2:Int):Option (Bool):=if a0 ≥ a1 then (some (decide (a0≤a2))) else (some φ)
set_option maxHeartbeats 8000000 in
set_option maxRecDepth 100000 in
theorem spec_l01In.calls (a0:Int) (a1:Int) (a2:Int) (r:Bool) (w:World) (h:spec_l01In.f a0 a1 a2=some r) :
  Calls Tryd.prog 33 #[.int .i64 a0,.int .i64 a1,.int .i64 a2] w fun e w'=>e = .returned (.bool r)∧Drawn0 w w':=by
 have H:(if a0 ≥ a1 then (some (decide (a0≤a2))) else (some φ))=some r:=h
 clear h
 by_cases c4:a0 ≥ a1
 ·
  rw [if_pos c4] at H
  have c4b0:decide (a1≤a0)=τ:=decide_eq_true c4
  clear c4
  obtain rfl:=Option.some.inj H
  go_enter Tryd.func33,Tryd.ntmps33
  go_wp2
  go_ret
  exact ⟨by first|rfl|(simp;done)|(simp [*];done),by repeat (first|exact Drawn0.refl _|apply Drawn0.step)⟩
 ·
  rw [if_neg c4] at H
  have c4b0:decide (a1≤a0)=φ:=decide_eq_false c4
  clear c4
  obtain rfl:=Option.some.inj H
  go_enter Tryd.func33,Tryd.ntmps33
  go_wp2
  go_ret
  exact ⟨by first|rfl|(simp;done)|(simp [*];done),by repeat (first|exact Drawn0.refl _|apply Drawn0.step)⟩


open Go.Proofs.YteghpdmlpefnfaaDoorW.PrintWords renaming gate_callee → δv

/-! ### spec_l03Key: function 122 -/
def spec_l03Key.f (a0:ByteArray):Option (Bool):=(spec_l01In.f (a0.size:Int) 1 60).bind fun t194=>(some t194)
set_option maxHeartbeats 8000000 in
set_option maxRecDepth 100000 in
theorem spec_l03Key.calls (a0:ByteArray) (r:Bool) (w:World) (h:spec_l03Key.f a0=some r) :
  Calls Tryd.prog 122 #[.string a0] w fun e w'=>e = .returned (.bool r)∧Drawn0 w w':=by
 have H:((spec_l01In.f (a0.size:Int) 1 60).bind fun t194=>(some t194))=some r:=h
 clear h
 replace H:=Option.bind_eq_some_iff.mp H
 obtain ⟨t194,A20,H⟩:=H
 replace H:(some t194)=some r:=H
 have A2:=ζa A20
 clear A20
 obtain rfl:=Option.some.inj H
 go_enter Tryd.func122,Tryd.ntmps122
 go_wp2_with (first|((with_reducible refine δv (f:=33) rfl ?_);refine goesL_ (some 5) rfl rfl Tryd.func33 (by kernel_rfl) rfl #[.int .i64 (a0.size:Int),.int .i64 1,.int .i64 60] rfl (by (try simp only [δd,δe,δf]);first|done|rfl|(simp only [δg,δh];rfl)) ?_;(with_reducible refine (spec_l01In.calls (a0.size:Int) 1 60 t194 _ A2.out).mono ?_);rintro e w' ⟨rfl,⟨nd,rfl⟩⟩;refine ⟨_,rfl,?_⟩))
 go_ret
 exact ⟨by first|rfl|(simp;done)|(simp [*];done),by repeat (first|exact Drawn0.refl _|apply Drawn0.step)⟩


open Go.Proofs.YteghpdmlpefnfaaDoorW.PrintWords renaming gate_dst → δx, box_event → δz, below_step → δr, below_alloc → δk, pw_below_drewN → δi, below_drew1 → δj, below_size → δs, blk_cell → δl, blk_frozen → δm, gate_callee → δv, below_set → δq

/-! ### spec_l03Pair: function 81 -/
def spec_l03Pair.f (a0_0:ByteArray) (a0_1:ByteArray):Option (Bool):=(spec_l03Key.f a0_0).bind fun t196=>(if t196=τ then (some (decide ((a0_1.size:Int)≤1000))) else (some φ))
set_option maxHeartbeats 8000000 in
set_option maxRecDepth 100000 in
theorem spec_l03Pair.calls (a0_0:ByteArray) (a0_1:ByteArray) (r:Bool) (w:World) (h:spec_l03Pair.f a0_0 a0_1=some r) :
  Calls Tryd.prog 81 #[.agg #[.string a0_0,.string a0_1]] w fun e w'=>e = .returned (.bool r)∧Below w.heap.size w w':=by
 have hu71:=Tryd.underlying71
 have HB:=ζa (Below.refl w.heap.size w)
 have H:((spec_l03Key.f a0_0).bind fun t196=>(if t196=τ then (some (decide ((a0_1.size:Int)≤1000))) else (some φ)))=some r:=h
 clear h
 replace H:=Option.bind_eq_some_iff.mp H
 obtain ⟨t196,A20,H⟩:=H
 replace H:(if t196=τ then (some (decide ((a0_1.size:Int)≤1000))) else (some φ))=some r:=H
 have A2:=ζa A20
 clear A20
 by_cases c3:t196=τ
 ·
  subst c3
  have H1:(some (decide ((a0_1.size:Int)≤1000)))=some r:=by rw [if_pos rfl] at H;exact H
  clear H
  have H:=H1
  clear H1
  obtain rfl:=Option.some.inj H
  go_enter Tryd.func81,Tryd.ntmps81
  go_wp2_with (first|((with_reducible refine δx (N:=1) rfl ?_);(try (refine gate_guard (by rfl) ?_;dsimp only));refine δz ?hg (N:=1) ?hd (cs:=#[.string a0_0,.string a0_1]) (t:=71) ?hr ?_;(case hd=>rfl);(case hg=>rfl);(case hr=>first|(go_simp;done)|(go_simp;rfl));intro gb195 hg w4 hbox hb;have n0_:=ζa (δr (by repeat (first|(with_reducible first|exact HB.out|apply δk|apply δi|apply δj)|exact HB.out)) hb);have n1_:=ζa (hbox);have n2_:=ζa ((by rw [hg];exact (δs (by repeat (first|(with_reducible first|exact HB.out|apply δk|apply δi|apply δj)|exact HB.out))):w.heap.size≤gb195));have n3_:=ζa ((by rw [hg];exact (δs (by repeat (first|(with_reducible first|exact HB.out|apply δk|apply δi|apply δj)|exact HB.out))):w.heap.size≤gb195));clear HB;have HB:=n0_;have BK195:=n1_;have GW195:=n2_;have GE195:=n3_;clear n0_ n1_ n2_ n3_;clear hb hbox hg;have hcz5_0:w4.cell? ⟨gb195,0,none⟩=some (.string a0_0):=(δl BK195.out 0).trans rfl;have hcz5_1:w4.cell? ⟨gb195,1,none⟩=some (.string a0_1):=(δl BK195.out 1).trans rfl;have hfz5_0:=δm BK195.out 0;have hfz5_1:=δm BK195.out 1)|((with_reducible refine δv (f:=122) rfl ?_);refine goesL_ (some 5) rfl rfl Tryd.func122 (by kernel_rfl) rfl #[.string a0_0] rfl (by (try simp only [δd,δe,δf]);first|done|rfl|(simp only [δg,δh];rfl)) ?_;(with_reducible refine (spec_l03Key.calls a0_0 τ _ A2.out).mono ?_);rintro e w' ⟨rfl,⟨nd,rfl⟩⟩;refine ⟨_,rfl,?_⟩))
  go_ret
  exact ⟨by first|rfl|(simp [errW_none,errW_some] <;> rfl)|(simp [*,errW_none,errW_some] <;> rfl),by repeat (first|(with_reducible first|exact HB.out|apply δk|apply δi|apply δj|refine δq ?_ GE195.out)|exact HB.out)⟩
 ·
  replace c3:=Bool.eq_false_iff.mpr c3
  subst c3
  have H1:(some φ)=some r:=by rw [if_neg (show ¬ (φ=τ) by decide)] at H;exact H
  clear H
  have H:=H1
  clear H1
  obtain rfl:=Option.some.inj H
  go_enter Tryd.func81,Tryd.ntmps81
  go_wp2_with (first|((with_reducible refine δx (N:=1) rfl ?_);(try (refine gate_guard (by rfl) ?_;dsimp only));refine δz ?hg (N:=1) ?hd (cs:=#[.string a0_0,.string a0_1]) (t:=71) ?hr ?_;(case hd=>rfl);(case hg=>rfl);(case hr=>first|(go_simp;done)|(go_simp;rfl));intro gb195 hg w6 hbox hb;have n0_:=ζa (δr (by repeat (first|(with_reducible first|exact HB.out|apply δk|apply δi|apply δj)|exact HB.out)) hb);have n1_:=ζa (hbox);have n2_:=ζa ((by rw [hg];exact (δs (by repeat (first|(with_reducible first|exact HB.out|apply δk|apply δi|apply δj)|exact HB.out))):w.heap.size≤gb195));have n3_:=ζa ((by rw [hg];exact (δs (by repeat (first|(with_reducible first|exact HB.out|apply δk|apply δi|apply δj)|exact HB.out))):w.heap.size≤gb195));clear HB;have HB:=n0_;have BK195:=n1_;have GW195:=n2_;have GE195:=n3_;clear n0_ n1_ n2_ n3_;clear hb hbox hg;have hcz7_0:w6.cell? ⟨gb195,0,none⟩=some (.string a0_0):=(δl BK195.out 0).trans rfl;have hcz7_1:w6.cell? ⟨gb195,1,none⟩=some (.string a0_1):=(δl BK195.out 1).trans rfl;have hfz7_0:=δm BK195.out 0;have hfz7_1:=δm BK195.out 1)|((with_reducible refine δv (f:=122) rfl ?_);refine goesL_ (some 5) rfl rfl Tryd.func122 (by kernel_rfl) rfl #[.string a0_0] rfl (by (try simp only [δd,δe,δf]);first|done|rfl|(simp only [δg,δh];rfl)) ?_;(with_reducible refine (spec_l03Key.calls a0_0 φ _ A2.out).mono ?_);rintro e w' ⟨rfl,⟨nd,rfl⟩⟩;refine ⟨_,rfl,?_⟩))
  go_ret
  exact ⟨by first|rfl|(simp [errW_none,errW_some] <;> rfl)|(simp [*,errW_none,errW_some] <;> rfl),by repeat (first|(with_reducible first|exact HB.out|apply δk|apply δi|apply δj|refine δq ?_ GE195.out)|exact HB.out)⟩



/-! ### spec_StoreOK: function 48 -/
def spec_StoreOK.l0:Nat→List (S71)→Int→Option (Bool)
 | 0,_,_=>none
 | k+1,x0,x3=>if x3<(x0.length:Int) then (if 0≤x3 then ((spec_l03Pair.f ((rd_T71 x0 x3).f0) ((rd_T71 x0 x3).f1)).bind fun t198=>(if t198=τ then (if x3 > 0 then (if 0≤(ζm (x3 - 1)) then (if (ζm (x3 - 1))<(x0.length:Int) then (if ((Op.bytesLess (((rd_T71 x0 (ζm (x3 - 1))).f0).toList) (((rd_T71 x0 x3).f0).toList))=τ) then (spec_StoreOK.l0 k x0 (ζm (x3+1))) else (some φ)) else (none)) else (none)) else (spec_StoreOK.l0 k x0 (ζm (x3+1)))) else (some φ))) else (none)) else (some τ)
def spec_StoreOK.f (k:Nat) (l0:List (S71)):Option (Bool):=if (l0.length:Int) > 4096 then (some φ) else (if (l0.length:Int) > 400 then (some φ) else (spec_StoreOK.l0 k l0 0))
def spec_StoreOK.T8:Bool × List (List Nat × List Nat):=(τ,[([],[]),([],[]),([0,1],[0,1]),([2],[2]),([3],[3]),([4],[4]),([5,4],[5]),([6],[6]),([7,6],[6,7]),([8,6,6],[6,8]),([9],[9]),([9],[9]),([11,9],[9,11]),([10,12,9],[9,10,12]),([13,9],[9,13]),([14,9],[9,14]),([9],[9]),([9],[9]),([16,17,9],[9,16,17]),([18,9],[9,18]),([19,9],[9,19]),([15,20,9],[9,15,20]),([9,21,6],[6,9,21]),([6,22],[6,22])])
def spec_StoreOK.B8:List Nat:=[0,0,3,7,15,31,63,127,255,511,1023,1023,3071,8191,16383,32767,1023,1023,197631,459775,984063,2097151,4194303,8388607]
theorem spec_StoreOK.tab8:rtab .any (opsOf Tryd.f48 8)=spec_StoreOK.T8:=by kernel_rfl
theorem spec_StoreOK.bits8:waitsOk spec_StoreOK.T8.2 spec_StoreOK.B8=τ:=by kernel_rfl
set_option maxHeartbeats 8000000 in
set_option maxRecDepth 100000 in
theorem spec_StoreOK.calls (k:Nat) (A0:Option Addr) (c0:Nat) (l0:List (S71)) (r:Bool) (w:World) (hr0:Kd.C k71 w A0 l0.length l0) (hc0:l0.length≤c0) (h:spec_StoreOK.f k l0=some r) :
  Calls Tryd.prog 48 #[.slice A0 l0.length c0] w fun e w'=>e = .returned (.bool r)∧Below w.heap.size w w':=by
 have hu71:=Tryd.underlying71
 have HR0:=ζa hr0
 have HC0:=ζa hc0
 clear hr0 hc0
 have HB:=ζa (Below.refl w.heap.size w)
 have H:(if (l0.length:Int) > 4096 then (some φ) else (if (l0.length:Int) > 400 then (some φ) else (spec_StoreOK.l0 k l0 0)))=some r:=h
 clear h
 by_cases c2:(l0.length:Int) > 4096
 ·
  rw [if_pos c2] at H
  have c2b0:decide (4096<(l0.length:Int))=τ:=decide_eq_true c2
  have c2b1:decide (4096<l0.length)=τ:=decide_eq_true (by omega)
  clear c2
  obtain rfl:=Option.some.inj H
  go_enter Tryd.func48,Tryd.ntmps48
  go_wp2
  go_ret
  exact ⟨by rfl,by repeat ((with_reducible exact HB.out))⟩
 ·
  rw [if_neg c2] at H
  have c2b0:decide (4096<(l0.length:Int))=φ:=decide_eq_false c2
  have c2b1:decide (4096<l0.length)=φ:=decide_eq_false (by omega)
  clear c2
  by_cases c3:(l0.length:Int) > 400
  ·
   rw [if_pos c3] at H
   have c3b0:decide (400<(l0.length:Int))=τ:=decide_eq_true c3
   have c3b1:decide (400<l0.length)=τ:=decide_eq_true (by omega)
   clear c3
   obtain rfl:=Option.some.inj H
   go_enter Tryd.func48,Tryd.ntmps48
   go_wp2
   go_ret
   exact ⟨by rfl,by repeat ((with_reducible exact HB.out))⟩
  ·
   rw [if_neg c3] at H
   have c3b0:decide (400<(l0.length:Int))=φ:=decide_eq_false c3
   have c3b1:decide (400<l0.length)=φ:=decide_eq_false (by omega)
   clear c3
   have H':=ζa H
   clear H
   go_enter Tryd.func48,Tryd.ntmps48
   go_wp2
   go_loopg [3] k (fun kq v3 w' => ∃ (x3_1:Int),v3 = .int .i64 x3_1∧Aside0 (spec_StoreOK.l0 kq l0 x3_1=some r)∧Aside0 (kq≤k)∧Aside0 (Below w.heap.size w w'))
   case atStart=>exact ⟨(0),(by rfl),H',⟨Nat.le_refl _⟩,⟨by repeat ((with_reducible exact HB.out))⟩⟩
   case round =>
    clear H'
    try clear c2
    try clear c2b0
    try clear c2b1
    try clear p2
    try clear c3
    try clear c3b0
    try clear c3b1
    obtain ⟨x3_1,rfl,HA,HK1,HB⟩:=hrel
    cases gk with
    | zero=>exact absurd HA.out (by simp [spec_StoreOK.l0])
    | succ k1 =>
     have H:=HA.out
     clear HA
     simp only [spec_StoreOK.l0] at H
     by_cases c4:x3_1<(l0.length:Int)
     ·
      rw [if_pos c4] at H
      have c4b0:decide (x3_1<(l0.length:Int))=τ:=decide_eq_true c4
      clear c4
      by_cases c5:0≤x3_1
      ·
       rw [if_pos c5] at H
       have c5b0:decide (0≤x3_1)=τ:=decide_eq_true c5
       clear c5
       replace H:=Option.bind_eq_some_iff.mp H
       obtain ⟨t198,A60,H⟩:=H
       replace H:(if t198=τ then (if x3_1 > 0 then (if 0≤(ζm (x3_1 - 1)) then (if (ζm (x3_1 - 1))<(l0.length:Int) then (if ((Op.bytesLess (((rd_T71 l0 (ζm (x3_1 - 1))).f0).toList) (((rd_T71 l0 x3_1).f0).toList))=τ) then (spec_StoreOK.l0 k1 l0 (ζm (x3_1+1))) else (some φ)) else (none)) else (none)) else (spec_StoreOK.l0 k1 l0 (ζm (x3_1+1)))) else (some φ))=some r:=H
       have A6:=ζa A60
       clear A60
       by_cases c7:t198=τ
       ·
        subst c7
        have H1:(if x3_1 > 0 then (if 0≤(ζm (x3_1 - 1)) then (if (ζm (x3_1 - 1))<(l0.length:Int) then (if ((Op.bytesLess (((rd_T71 l0 (ζm (x3_1 - 1))).f0).toList) (((rd_T71 l0 x3_1).f0).toList))=τ) then (spec_StoreOK.l0 k1 l0 (ζm (x3_1+1))) else (some φ)) else (none)) else (none)) else (spec_StoreOK.l0 k1 l0 (ζm (x3_1+1))))=some r:=by rw [if_pos rfl] at H;exact H
        clear H
        have H:=H1
        clear H1
        by_cases c8:x3_1 > 0
        ·
         rw [if_pos c8] at H
         have c8b0:decide (0<x3_1)=τ:=decide_eq_true c8
         clear c8
         obtain ⟨ji9,hji9⟩ : ∃ j_:Int,(ζm (x3_1 - 1))=j_:=⟨_,rfl⟩
         replace H:(if 0≤(ji9) then (if (ji9)<(l0.length:Int) then (if ((Op.bytesLess (((rd_T71 l0 (ji9)).f0).toList) (((rd_T71 l0 x3_1).f0).toList))=τ) then (spec_StoreOK.l0 k1 l0 (ζm (x3_1+1))) else (some φ)) else (none)) else (none))=some r:=by (rw [hji9] at H;exact H)
         (try rw [hji9] at A6)
         have hji9w:(IntKind.i64.wrap (x3_1 - 1))=ji9:=(i64_w _).trans hji9
         by_cases c10:0≤(ji9)
         ·
          rw [if_pos c10] at H
          have c10b0:decide (0≤(ji9))=τ:=decide_eq_true c10
          clear c10
          by_cases c11:(ji9)<(l0.length:Int)
          ·
           rw [if_pos c11] at H
           have c11b0:decide ((ji9)<(l0.length:Int))=τ:=decide_eq_true c11
           clear c11
           by_cases c12:((Op.bytesLess (((rd_T71 l0 (ji9)).f0).toList) (((rd_T71 l0 x3_1).f0).toList))=τ)
           ·
            rw [if_pos c12] at H
            have c12b0:(Op.bytesLess (((rd_T71 l0 (ji9)).f0).toList) (((rd_T71 l0 x3_1).f0).toList))=τ:=c12
            clear c12
            have H':=ζa H
            clear H
            try go_wp2
            have n0_:=ζa (δj HB.out)
            clear HB
            have HB:=n0_
            clear n0_
            have p197:0≤(x3_1:Int):=of_decide_eq_true (by (with_reducible assumption))
            have q197:x3_1<(l0.length:Int):=of_decide_eq_true (by (with_reducible assumption))
            obtain ⟨ad197,e197,hx197_0,hx197_1⟩:=at_T71 HR0.out x3_1 p197 q197
            have hw197_1:=hx197_1
            have hw197_0:=hx197_0
            cases e197
            replace hx197_0:=(HB.out.cell (World.block_lt_of_cell? w _ hx197_0)).trans hx197_0
            replace hx197_1:=(HB.out.cell (World.block_lt_of_cell? w _ hx197_1)).trans hx197_1
            replace p197:=eq_true p197
            replace q197:=eq_true q197
            have p199:0≤((ji9):Int):=of_decide_eq_true (by (with_reducible assumption))
            have q199:(ji9)<(l0.length:Int):=of_decide_eq_true (by (with_reducible assumption))
            obtain ⟨ad199,e199,hx199_0,hx199_1⟩:=at_T71 HR0.out (ji9) p199 q199
            have hw199_1:=hx199_1
            have hw199_0:=hx199_0
            obtain rfl:ad197=ad199:=(by injection e199)
            replace hx199_0:=(HB.out.cell (World.block_lt_of_cell? w _ hx199_0)).trans hx199_0
            replace hx199_1:=(HB.out.cell (World.block_lt_of_cell? w _ hx199_1)).trans hx199_1
            replace p199:=eq_true p199
            replace q199:=eq_true q199
            have p200:0≤(x3_1:Int):=of_decide_eq_true (by (with_reducible assumption))
            have q200:x3_1<(l0.length:Int):=of_decide_eq_true (by (with_reducible assumption))
            obtain ⟨ad200,e200,hx200_0,hx200_1⟩:=at_T71 HR0.out x3_1 p200 q200
            have hw200_1:=hx200_1
            have hw200_0:=hx200_0
            obtain rfl:ad197=ad200:=(by injection e200)
            replace hx200_0:=(HB.out.cell (World.block_lt_of_cell? w _ hx200_0)).trans hx200_0
            replace hx200_1:=(HB.out.cell (World.block_lt_of_cell? w _ hx200_1)).trans hx200_1
            replace p200:=eq_true p200
            replace q200:=eq_true q200
            refine start_ (n:=24) (S:=fun w'=>w'.cell? (ad197.add ((x3_1).toNat * 2))=some (.string ((rd_T71 l0 x3_1).f0))∧w'.cell? ⟨(ad197.add ((x3_1).toNat * 2)).block,(ad197.add ((x3_1).toNat * 2)).off+1,none⟩=some (.string ((rd_T71 l0 x3_1).f1))∧w'.cell? (ad197.add (((ji9)).toNat * 2))=some (.string ((rd_T71 l0 (ji9)).f0))∧w'.cell? ⟨(ad197.add (((ji9)).toNat * 2)).block,(ad197.add (((ji9)).toNat * 2)).off+1,none⟩=some (.string ((rd_T71 l0 (ji9)).f1))∧w'.cell? (ad197.add ((x3_1).toNat * 2))=some (.string ((rd_T71 l0 x3_1).f0))∧w'.cell? ⟨(ad197.add ((x3_1).toNat * 2)).block,(ad197.add ((x3_1).toNat * 2)).off+1,none⟩=some (.string ((rd_T71 l0 x3_1).f1))) (ds:=[]) #[φ,φ,φ,φ,φ,φ,φ,φ,φ,φ,φ,φ,φ,φ,φ,φ,φ,φ,φ,φ,φ,φ,φ,φ] (by kernel_rfl) rfl rfl ⟨((HB.out.cell (World.block_lt_of_cell? w _ hw197_0)).trans hw197_0),((HB.out.cell (World.block_lt_of_cell? w _ hw197_1)).trans hw197_1),((HB.out.cell (World.block_lt_of_cell? w _ hw199_0)).trans hw199_0),((HB.out.cell (World.block_lt_of_cell? w _ hw199_1)).trans hw199_1),((HB.out.cell (World.block_lt_of_cell? w _ hw200_0)).trans hw200_0),((HB.out.cell (World.block_lt_of_cell? w _ hw200_1)).trans hw200_1)⟩ (fun hHeld => ?_);refine with_tabW spec_StoreOK.tab8 spec_StoreOK.bits8 (fun HT_ HW_ => ?_)
            generalize wr.drew=w13 at HB hx197_0 hx197_1 hx199_0 hx199_1 hx200_0 hx200_1 hHeld ⊢
            refine ζk (i:=0) (N:=some 16) (v:=?_) (a':=?_) #[τ,φ,φ,φ,φ,φ,φ,φ,φ,φ,φ,φ,φ,φ,φ,φ,φ,φ,φ,φ,φ,φ,φ,φ] rfl rfl (ζj HT_.out (by kernel_rfl)) (fun _ _ _ h=>h) (Or.inl ⟨by rfl,?_⟩) ?_ ?_
            rotate_left
            · intro w';go_simp;with_reducible rfl
            rotate_left
            · simp only [ζl,δa,δb,δc,i64_w,i32_w];rfl
            refine ζk (i:=1) (N:=some 17) (v:=?_) (a':=?_) #[τ,τ,φ,φ,φ,φ,φ,φ,φ,φ,φ,φ,φ,φ,φ,φ,φ,φ,φ,φ,φ,φ,φ,φ] rfl rfl (ζj HT_.out (by kernel_rfl)) (fun _ _ _ h=>h) (Or.inl ⟨by rfl,?_⟩) ?_ ?_
            rotate_left
            · intro w';go_simp;with_reducible rfl
            rotate_left
            · simp only [ζl,δa,δb,δc,i64_w,i32_w];rfl
            refine ζk (i:=2) (N:=some 18) (v:=?_) (a':=?_) #[τ,τ,τ,φ,φ,φ,φ,φ,φ,φ,φ,φ,φ,φ,φ,φ,φ,φ,φ,φ,φ,φ,φ,φ] rfl rfl (ζj HT_.out (by kernel_rfl)) (fun _ _ _ h=>h) (Or.inl ⟨by rfl,?_⟩) ?_ ?_
            rotate_left
            · intro w';go_simp;with_reducible rfl
            rotate_left
            · simp only [ζl,δa,δb,δc,i64_w,i32_w];rfl
            refine take_ (i:=3) (N:=some 19) (v:=?_) (a':=?_) #[τ,τ,τ,τ,φ,φ,φ,φ,φ,φ,φ,φ,φ,φ,φ,φ,φ,φ,φ,φ,φ,φ,φ,φ] rfl rfl (take_ofW HT_.out HW_.out (by kernel_rfl)) (fun _ _ _ h=>h) (Or.inl ⟨by rfl,?_⟩) hHeld ?_ ?_
            rotate_left
            · rintro w' ⟨s0,s1,s2,s3,s4,s5⟩;go_simp;with_reducible rfl
            rotate_left
            · simp only [ζl,δa,δb,δc,i64_w,i32_w];rfl
            refine one_ (i:=4) (N:=some 20) #[τ,τ,τ,τ,τ,φ,φ,φ,φ,φ,φ,φ,φ,φ,φ,φ,φ,φ,φ,φ,φ,φ,φ,φ] rfl rfl (one_of HT_.out (by kernel_rfl)) (by decide) (fun K hK => ?_)
            refine goes_ Tryd.func81 (by kernel_rfl) rfl #[.agg #[.string ((rd_T71 l0 x3_1).f0),.string ((rd_T71 l0 x3_1).f1)]] (by rfl) rfl rfl (by (try simp only [δd,δe,δf]);rfl) ?_
            with_reducible refine (spec_l03Pair.calls ((rd_T71 l0 x3_1).f0) ((rd_T71 l0 x3_1).f1) τ _ A6.out).mono ?_
            rintro e w14 ⟨rfl,hb⟩
            refine ⟨_,rfl,?_⟩
            have n0_:=ζa (δr (by exact HB.out) hb)
            clear HB
            have HB:=n0_
            clear n0_
            (try clear hb)
            (try clear hb2)
            (try clear hk)
            (try clear hi)
            refine hK.out _ _ ⟨((HB.out.cell (World.block_lt_of_cell? w _ hw197_0)).trans hw197_0),((HB.out.cell (World.block_lt_of_cell? w _ hw197_1)).trans hw197_1),((HB.out.cell (World.block_lt_of_cell? w _ hw199_0)).trans hw199_0),((HB.out.cell (World.block_lt_of_cell? w _ hw199_1)).trans hw199_1),((HB.out.cell (World.block_lt_of_cell? w _ hw200_0)).trans hw200_0),((HB.out.cell (World.block_lt_of_cell? w _ hw200_1)).trans hw200_1)⟩ (fun hHeld => ?_)
            clear hK K
            refine norm_ (a':=?_) ?_ ?_
            rotate_left
            ·
             show ζl _ (some 20) _=_
             simp only [ζl,δa,δb,δc,i64_w,i32_w];rfl
            refine ζk (i:=5) (N:=some 21) (v:=?_) (a':=?_) #[τ,τ,τ,τ,τ,τ,φ,φ,φ,φ,φ,φ,φ,φ,φ,φ,φ,φ,φ,φ,φ,φ,φ,φ] rfl rfl (ζj HT_.out (by kernel_rfl)) (fun _ _ _ h=>h) (Or.inl ⟨by rfl,?_⟩) ?_ ?_
            rotate_left
            · intro w';go_simp;with_reducible rfl
            rotate_left
            · simp only [ζl,δa,δb,δc,i64_w,i32_w];rfl
            refine ζk (i:=6) (N:=some 22) (v:=?_) (a':=?_) #[τ,τ,τ,τ,τ,τ,τ,φ,φ,φ,φ,φ,φ,φ,φ,φ,φ,φ,φ,φ,φ,φ,φ,φ] rfl rfl (ζj HT_.out (by kernel_rfl)) (fun _ _ _ h=>h) (Or.inl ⟨by rfl,?_⟩) ?_ ?_
            rotate_left
            · intro w';go_simp;with_reducible rfl
            rotate_left
            · simp only [ζl,δa,δb,δc,i64_w,i32_w];rfl
            refine ζk (i:=7) (N:=some 23) (v:=?_) (a':=?_) #[τ,τ,τ,τ,τ,τ,τ,τ,φ,φ,φ,φ,φ,φ,φ,φ,φ,φ,φ,φ,φ,φ,φ,φ] rfl rfl (ζj HT_.out (by kernel_rfl)) (fun _ _ _ h=>h) (Or.inl ⟨by rfl,?_⟩) ?_ ?_
            rotate_left
            · intro w';go_simp;with_reducible rfl
            rotate_left
            · simp only [ζl,δa,δb,δc,i64_w,i32_w];rfl
            refine ζk (i:=8) (N:=some 24) (v:=?_) (a':=?_) #[τ,τ,τ,τ,τ,τ,τ,τ,τ,φ,φ,φ,φ,φ,φ,φ,φ,φ,φ,φ,φ,φ,φ,φ] rfl rfl (ζj HT_.out (by kernel_rfl)) (fun _ _ _ h=>h) (Or.inl ⟨by rfl,?_⟩) ?_ ?_
            rotate_left
            · intro w';go_simp;with_reducible rfl
            rotate_left
            · simp only [ζl,δa,δb,δc,i64_w,i32_w];rfl
            refine ζk (i:=9) (N:=some 25) (v:=?_) (a':=?_) #[τ,τ,τ,τ,τ,τ,τ,τ,τ,τ,φ,φ,φ,φ,φ,φ,φ,φ,φ,φ,φ,φ,φ,φ] rfl rfl (ζj HT_.out (by kernel_rfl)) (fun _ _ _ h=>h) (Or.inl ⟨by rfl,?_⟩) ?_ ?_
            rotate_left
            · intro w';go_simp;with_reducible rfl
            rotate_left
            · simp only [ζl,δa,δb,δc,i64_w,i32_w];rfl
            refine ζk (i:=10) (N:=some 26) (v:=?_) (a':=?_) #[τ,τ,τ,τ,τ,τ,τ,τ,τ,τ,τ,φ,φ,φ,φ,φ,φ,φ,φ,φ,φ,φ,φ,φ] rfl rfl (ζj HT_.out (by kernel_rfl)) (fun _ _ _ h=>h) (Or.inl ⟨by rfl,?_⟩) ?_ ?_
            rotate_left
            · intro w';go_simp;with_reducible rfl
            rotate_left
            · simp only [ζl,δa,δb,δc,i64_w,i32_w];rfl
            refine ζk (i:=11) (N:=some 27) (v:=?_) (a':=?_) #[τ,τ,τ,τ,τ,τ,τ,τ,τ,τ,τ,τ,φ,φ,φ,φ,φ,φ,φ,φ,φ,φ,φ,φ] rfl rfl (ζj HT_.out (by kernel_rfl)) (fun _ _ _ h=>h) (Or.inl ⟨by rfl,?_⟩) ?_ ?_
            rotate_left
            · intro w';go_simp;with_reducible rfl
            rotate_left
            · simp only [ζl,δa,δb,δc,i64_w,i32_w];rfl
            refine ζk (i:=12) (N:=some 28) (v:=?_) (a':=?_) #[τ,τ,τ,τ,τ,τ,τ,τ,τ,τ,τ,τ,τ,φ,φ,φ,φ,φ,φ,φ,φ,φ,φ,φ] rfl rfl (ζj HT_.out (by kernel_rfl)) (fun _ _ _ h=>h) (Or.inl ⟨by rfl,?_⟩) ?_ ?_
            rotate_left
            · intro w';go_simp;with_reducible rfl
            rotate_left
            · simp only [ζl,δa,δb,δc,i64_w,i32_w];rfl
            refine ζk (i:=13) (N:=some 29) (v:=?_) (a':=?_) #[τ,τ,τ,τ,τ,τ,τ,τ,τ,τ,τ,τ,τ,τ,φ,φ,φ,φ,φ,φ,φ,φ,φ,φ] rfl rfl (ζj HT_.out (by kernel_rfl)) (fun _ _ _ h=>h) (Or.inl ⟨by rfl,?_⟩) ?_ ?_
            rotate_left
            · intro w';go_simp;with_reducible rfl
            rotate_left
            · simp only [ζl,δa,δb,δc,i64_w,i32_w];rfl
            refine ζk (i:=14) (N:=some 30) (v:=?_) (a':=?_) #[τ,τ,τ,τ,τ,τ,τ,τ,τ,τ,τ,τ,τ,τ,τ,φ,φ,φ,φ,φ,φ,φ,φ,φ] rfl rfl (ζj HT_.out (by kernel_rfl)) (fun _ _ _ h=>h) (Or.inl ⟨by rfl,?_⟩) ?_ ?_
            rotate_left
            · intro w';go_simp;with_reducible rfl
            rotate_left
            · simp only [ζl,δa,δb,δc,i64_w,i32_w];rfl
            refine ζk (i:=16) (N:=some 32) (v:=?_) (a':=?_) #[τ,τ,τ,τ,τ,τ,τ,τ,τ,τ,τ,τ,τ,τ,τ,φ,τ,φ,φ,φ,φ,φ,φ,φ] rfl rfl (ζj HT_.out (by kernel_rfl)) (fun _ _ _ h=>h) (Or.inl ⟨by rfl,?_⟩) ?_ ?_
            rotate_left
            · intro w';go_simp;with_reducible rfl
            rotate_left
            · simp only [ζl,δa,δb,δc,i64_w,i32_w];rfl
            refine ζk (i:=17) (N:=some 33) (v:=?_) (a':=?_) #[τ,τ,τ,τ,τ,τ,τ,τ,τ,τ,τ,τ,τ,τ,τ,φ,τ,τ,φ,φ,φ,φ,φ,φ] rfl rfl (ζj HT_.out (by kernel_rfl)) (fun _ _ _ h=>h) (Or.inl ⟨by rfl,?_⟩) ?_ ?_
            rotate_left
            · intro w';go_simp;with_reducible rfl
            rotate_left
            · simp only [ζl,δa,δb,δc,i64_w,i32_w];rfl
            refine ζk (i:=18) (N:=some 34) (v:=?_) (a':=?_) #[τ,τ,τ,τ,τ,τ,τ,τ,τ,τ,τ,τ,τ,τ,τ,φ,τ,τ,τ,φ,φ,φ,φ,φ] rfl rfl (ζj HT_.out (by kernel_rfl)) (fun _ _ _ h=>h) (Or.inl ⟨by rfl,?_⟩) ?_ ?_
            rotate_left
            · intro w';go_simp;with_reducible rfl
            rotate_left
            · simp only [ζl,δa,δb,δc,i64_w,i32_w];rfl
            refine ζk (i:=19) (N:=some 35) (v:=?_) (a':=?_) #[τ,τ,τ,τ,τ,τ,τ,τ,τ,τ,τ,τ,τ,τ,τ,φ,τ,τ,τ,τ,φ,φ,φ,φ] rfl rfl (ζj HT_.out (by kernel_rfl)) (fun _ _ _ h=>h) (Or.inl ⟨by rfl,?_⟩) ?_ ?_
            rotate_left
            · intro w';go_simp;with_reducible rfl
            rotate_left
            · simp only [ζl,δa,δb,δc,i64_w,i32_w];rfl
            refine take_ (i:=15) (N:=some 31) (v:=?_) (a':=?_) #[τ,τ,τ,τ,τ,τ,τ,τ,τ,τ,τ,τ,τ,τ,τ,τ,τ,τ,τ,τ,φ,φ,φ,φ] rfl rfl (take_ofW HT_.out HW_.out (by kernel_rfl)) (fun _ _ _ h=>h) (Or.inl ⟨by rfl,?_⟩) hHeld ?_ ?_
            rotate_left
            · rintro w' ⟨s0,s1,s2,s3,s4,s5⟩;go_simp;with_reducible rfl
            rotate_left
            · simp only [ζl,δa,δb,δc,i64_w,i32_w];rfl
            refine take_ (i:=20) (N:=some 36) (v:=?_) (a':=?_) #[τ,τ,τ,τ,τ,τ,τ,τ,τ,τ,τ,τ,τ,τ,τ,τ,τ,τ,τ,τ,τ,φ,φ,φ] rfl rfl (take_ofW HT_.out HW_.out (by kernel_rfl)) (fun _ _ _ h=>h) (Or.inl ⟨by rfl,?_⟩) hHeld ?_ ?_
            rotate_left
            · rintro w' ⟨s0,s1,s2,s3,s4,s5⟩;go_simp;with_reducible rfl
            rotate_left
            · simp only [ζl,δa,δb,δc,i64_w,i32_w];rfl
            refine ζk (i:=21) (N:=some 37) (v:=?_) (a':=?_) #[τ,τ,τ,τ,τ,τ,τ,τ,τ,τ,τ,τ,τ,τ,τ,τ,τ,τ,τ,τ,τ,τ,φ,φ] rfl rfl (ζj HT_.out (by kernel_rfl)) (fun _ _ _ h=>h) (Or.inl ⟨by rfl,?_⟩) ?_ ?_
            rotate_left
            · intro w';go_simp;with_reducible rfl
            rotate_left
            · simp only [ζl,δa,δb,δc,i64_w,i32_w];rfl
            refine ζk (i:=22) (N:=some 38) (v:=?_) (a':=?_) #[τ,τ,τ,τ,τ,τ,τ,τ,τ,τ,τ,τ,τ,τ,τ,τ,τ,τ,τ,τ,τ,τ,τ,φ] rfl rfl (ζj HT_.out (by kernel_rfl)) (fun _ _ _ h=>h) (Or.inl ⟨by rfl,?_⟩) ?_ ?_
            rotate_left
            · intro w';go_simp;with_reducible rfl
            rotate_left
            · simp only [ζl,δa,δb,δc,i64_w,i32_w];rfl
            refine ζk (i:=23) (N:=some 39) (v:=?_) (a':=?_) #[τ,τ,τ,τ,τ,τ,τ,τ,τ,τ,τ,τ,τ,τ,τ,τ,τ,τ,τ,τ,τ,τ,τ,τ] rfl rfl (ζj HT_.out (by kernel_rfl)) (fun _ _ _ h=>h) (Or.inl ⟨by rfl,?_⟩) ?_ ?_
            rotate_left
            · intro w';go_simp;with_reducible rfl
            rotate_left
            · simp only [ζl,δa,δb,δc,i64_w,i32_w];rfl
            refine done_ (done_of HT_.out (by kernel_rfl)) ?_
            try go_wp2
            go_roundg k1
            case measure=>have:=HK1.out;omega
            case rel=>exact ⟨(ζm (x3_1+1)),(by rfl),H',⟨by have:=HK1.out;omega⟩,⟨by repeat ((with_reducible exact HB.out))⟩⟩
           ·
            rw [if_neg c12] at H
            have c12b0:(Op.bytesLess (((rd_T71 l0 (ji9)).f0).toList) (((rd_T71 l0 x3_1).f0).toList))=φ:=by simpa using c12
            clear c12
            obtain rfl:=Option.some.inj H
            try go_wp2
            have n0_:=ζa (δj HB.out)
            clear HB
            have HB:=n0_
            clear n0_
            have p197:0≤(x3_1:Int):=of_decide_eq_true (by (with_reducible assumption))
            have q197:x3_1<(l0.length:Int):=of_decide_eq_true (by (with_reducible assumption))
            obtain ⟨ad197,e197,hx197_0,hx197_1⟩:=at_T71 HR0.out x3_1 p197 q197
            have hw197_1:=hx197_1
            have hw197_0:=hx197_0
            cases e197
            replace hx197_0:=(HB.out.cell (World.block_lt_of_cell? w _ hx197_0)).trans hx197_0
            replace hx197_1:=(HB.out.cell (World.block_lt_of_cell? w _ hx197_1)).trans hx197_1
            replace p197:=eq_true p197
            replace q197:=eq_true q197
            have p199:0≤((ji9):Int):=of_decide_eq_true (by (with_reducible assumption))
            have q199:(ji9)<(l0.length:Int):=of_decide_eq_true (by (with_reducible assumption))
            obtain ⟨ad199,e199,hx199_0,hx199_1⟩:=at_T71 HR0.out (ji9) p199 q199
            have hw199_1:=hx199_1
            have hw199_0:=hx199_0
            obtain rfl:ad197=ad199:=(by injection e199)
            replace hx199_0:=(HB.out.cell (World.block_lt_of_cell? w _ hx199_0)).trans hx199_0
            replace hx199_1:=(HB.out.cell (World.block_lt_of_cell? w _ hx199_1)).trans hx199_1
            replace p199:=eq_true p199
            replace q199:=eq_true q199
            have p200:0≤(x3_1:Int):=of_decide_eq_true (by (with_reducible assumption))
            have q200:x3_1<(l0.length:Int):=of_decide_eq_true (by (with_reducible assumption))
            obtain ⟨ad200,e200,hx200_0,hx200_1⟩:=at_T71 HR0.out x3_1 p200 q200
            have hw200_1:=hx200_1
            have hw200_0:=hx200_0
            obtain rfl:ad197=ad200:=(by injection e200)
            replace hx200_0:=(HB.out.cell (World.block_lt_of_cell? w _ hx200_0)).trans hx200_0
            replace hx200_1:=(HB.out.cell (World.block_lt_of_cell? w _ hx200_1)).trans hx200_1
            replace p200:=eq_true p200
            replace q200:=eq_true q200
            refine start_ (n:=24) (S:=fun w'=>w'.cell? (ad197.add ((x3_1).toNat * 2))=some (.string ((rd_T71 l0 x3_1).f0))∧w'.cell? ⟨(ad197.add ((x3_1).toNat * 2)).block,(ad197.add ((x3_1).toNat * 2)).off+1,none⟩=some (.string ((rd_T71 l0 x3_1).f1))∧w'.cell? (ad197.add (((ji9)).toNat * 2))=some (.string ((rd_T71 l0 (ji9)).f0))∧w'.cell? ⟨(ad197.add (((ji9)).toNat * 2)).block,(ad197.add (((ji9)).toNat * 2)).off+1,none⟩=some (.string ((rd_T71 l0 (ji9)).f1))∧w'.cell? (ad197.add ((x3_1).toNat * 2))=some (.string ((rd_T71 l0 x3_1).f0))∧w'.cell? ⟨(ad197.add ((x3_1).toNat * 2)).block,(ad197.add ((x3_1).toNat * 2)).off+1,none⟩=some (.string ((rd_T71 l0 x3_1).f1))) (ds:=[]) #[φ,φ,φ,φ,φ,φ,φ,φ,φ,φ,φ,φ,φ,φ,φ,φ,φ,φ,φ,φ,φ,φ,φ,φ] (by kernel_rfl) rfl rfl ⟨((HB.out.cell (World.block_lt_of_cell? w _ hw197_0)).trans hw197_0),((HB.out.cell (World.block_lt_of_cell? w _ hw197_1)).trans hw197_1),((HB.out.cell (World.block_lt_of_cell? w _ hw199_0)).trans hw199_0),((HB.out.cell (World.block_lt_of_cell? w _ hw199_1)).trans hw199_1),((HB.out.cell (World.block_lt_of_cell? w _ hw200_0)).trans hw200_0),((HB.out.cell (World.block_lt_of_cell? w _ hw200_1)).trans hw200_1)⟩ (fun hHeld => ?_);refine with_tabW spec_StoreOK.tab8 spec_StoreOK.bits8 (fun HT_ HW_ => ?_)
            generalize wr.drew=w15 at HB hx197_0 hx197_1 hx199_0 hx199_1 hx200_0 hx200_1 hHeld ⊢
            refine ζk (i:=0) (N:=some 16) (v:=?_) (a':=?_) #[τ,φ,φ,φ,φ,φ,φ,φ,φ,φ,φ,φ,φ,φ,φ,φ,φ,φ,φ,φ,φ,φ,φ,φ] rfl rfl (ζj HT_.out (by kernel_rfl)) (fun _ _ _ h=>h) (Or.inl ⟨by rfl,?_⟩) ?_ ?_
            rotate_left
            · intro w';go_simp;with_reducible rfl
            rotate_left
            · simp only [ζl,δa,δb,δc,i64_w,i32_w];rfl
            refine ζk (i:=1) (N:=some 17) (v:=?_) (a':=?_) #[τ,τ,φ,φ,φ,φ,φ,φ,φ,φ,φ,φ,φ,φ,φ,φ,φ,φ,φ,φ,φ,φ,φ,φ] rfl rfl (ζj HT_.out (by kernel_rfl)) (fun _ _ _ h=>h) (Or.inl ⟨by rfl,?_⟩) ?_ ?_
            rotate_left
            · intro w';go_simp;with_reducible rfl
            rotate_left
            · simp only [ζl,δa,δb,δc,i64_w,i32_w];rfl
            refine ζk (i:=2) (N:=some 18) (v:=?_) (a':=?_) #[τ,τ,τ,φ,φ,φ,φ,φ,φ,φ,φ,φ,φ,φ,φ,φ,φ,φ,φ,φ,φ,φ,φ,φ] rfl rfl (ζj HT_.out (by kernel_rfl)) (fun _ _ _ h=>h) (Or.inl ⟨by rfl,?_⟩) ?_ ?_
            rotate_left
            · intro w';go_simp;with_reducible rfl
            rotate_left
            · simp only [ζl,δa,δb,δc,i64_w,i32_w];rfl
            refine take_ (i:=3) (N:=some 19) (v:=?_) (a':=?_) #[τ,τ,τ,τ,φ,φ,φ,φ,φ,φ,φ,φ,φ,φ,φ,φ,φ,φ,φ,φ,φ,φ,φ,φ] rfl rfl (take_ofW HT_.out HW_.out (by kernel_rfl)) (fun _ _ _ h=>h) (Or.inl ⟨by rfl,?_⟩) hHeld ?_ ?_
            rotate_left
            · rintro w' ⟨s0,s1,s2,s3,s4,s5⟩;go_simp;with_reducible rfl
            rotate_left
            · simp only [ζl,δa,δb,δc,i64_w,i32_w];rfl
            refine one_ (i:=4) (N:=some 20) #[τ,τ,τ,τ,τ,φ,φ,φ,φ,φ,φ,φ,φ,φ,φ,φ,φ,φ,φ,φ,φ,φ,φ,φ] rfl rfl (one_of HT_.out (by kernel_rfl)) (by decide) (fun K hK => ?_)
            refine goes_ Tryd.func81 (by kernel_rfl) rfl #[.agg #[.string ((rd_T71 l0 x3_1).f0),.string ((rd_T71 l0 x3_1).f1)]] (by rfl) rfl rfl (by (try simp only [δd,δe,δf]);rfl) ?_
            with_reducible refine (spec_l03Pair.calls ((rd_T71 l0 x3_1).f0) ((rd_T71 l0 x3_1).f1) τ _ A6.out).mono ?_
            rintro e w16 ⟨rfl,hb⟩
            refine ⟨_,rfl,?_⟩
            have n0_:=ζa (δr (by exact HB.out) hb)
            clear HB
            have HB:=n0_
            clear n0_
            (try clear hb)
            (try clear hb2)
            (try clear hk)
            (try clear hi)
            refine hK.out _ _ ⟨((HB.out.cell (World.block_lt_of_cell? w _ hw197_0)).trans hw197_0),((HB.out.cell (World.block_lt_of_cell? w _ hw197_1)).trans hw197_1),((HB.out.cell (World.block_lt_of_cell? w _ hw199_0)).trans hw199_0),((HB.out.cell (World.block_lt_of_cell? w _ hw199_1)).trans hw199_1),((HB.out.cell (World.block_lt_of_cell? w _ hw200_0)).trans hw200_0),((HB.out.cell (World.block_lt_of_cell? w _ hw200_1)).trans hw200_1)⟩ (fun hHeld => ?_)
            clear hK K
            refine norm_ (a':=?_) ?_ ?_
            rotate_left
            ·
             show ζl _ (some 20) _=_
             simp only [ζl,δa,δb,δc,i64_w,i32_w];rfl
            refine ζk (i:=5) (N:=some 21) (v:=?_) (a':=?_) #[τ,τ,τ,τ,τ,τ,φ,φ,φ,φ,φ,φ,φ,φ,φ,φ,φ,φ,φ,φ,φ,φ,φ,φ] rfl rfl (ζj HT_.out (by kernel_rfl)) (fun _ _ _ h=>h) (Or.inl ⟨by rfl,?_⟩) ?_ ?_
            rotate_left
            · intro w';go_simp;with_reducible rfl
            rotate_left
            · simp only [ζl,δa,δb,δc,i64_w,i32_w];rfl
            refine ζk (i:=6) (N:=some 22) (v:=?_) (a':=?_) #[τ,τ,τ,τ,τ,τ,τ,φ,φ,φ,φ,φ,φ,φ,φ,φ,φ,φ,φ,φ,φ,φ,φ,φ] rfl rfl (ζj HT_.out (by kernel_rfl)) (fun _ _ _ h=>h) (Or.inl ⟨by rfl,?_⟩) ?_ ?_
            rotate_left
            · intro w';go_simp;with_reducible rfl
            rotate_left
            · simp only [ζl,δa,δb,δc,i64_w,i32_w];rfl
            refine ζk (i:=7) (N:=some 23) (v:=?_) (a':=?_) #[τ,τ,τ,τ,τ,τ,τ,τ,φ,φ,φ,φ,φ,φ,φ,φ,φ,φ,φ,φ,φ,φ,φ,φ] rfl rfl (ζj HT_.out (by kernel_rfl)) (fun _ _ _ h=>h) (Or.inl ⟨by rfl,?_⟩) ?_ ?_
            rotate_left
            · intro w';go_simp;with_reducible rfl
            rotate_left
            · simp only [ζl,δa,δb,δc,i64_w,i32_w];rfl
            refine ζk (i:=8) (N:=some 24) (v:=?_) (a':=?_) #[τ,τ,τ,τ,τ,τ,τ,τ,τ,φ,φ,φ,φ,φ,φ,φ,φ,φ,φ,φ,φ,φ,φ,φ] rfl rfl (ζj HT_.out (by kernel_rfl)) (fun _ _ _ h=>h) (Or.inl ⟨by rfl,?_⟩) ?_ ?_
            rotate_left
            · intro w';go_simp;with_reducible rfl
            rotate_left
            · simp only [ζl,δa,δb,δc,i64_w,i32_w];rfl
            refine ζk (i:=9) (N:=some 25) (v:=?_) (a':=?_) #[τ,τ,τ,τ,τ,τ,τ,τ,τ,τ,φ,φ,φ,φ,φ,φ,φ,φ,φ,φ,φ,φ,φ,φ] rfl rfl (ζj HT_.out (by kernel_rfl)) (fun _ _ _ h=>h) (Or.inl ⟨by rfl,?_⟩) ?_ ?_
            rotate_left
            · intro w';go_simp;with_reducible rfl
            rotate_left
            · simp only [ζl,δa,δb,δc,i64_w,i32_w];rfl
            refine ζk (i:=10) (N:=some 26) (v:=?_) (a':=?_) #[τ,τ,τ,τ,τ,τ,τ,τ,τ,τ,τ,φ,φ,φ,φ,φ,φ,φ,φ,φ,φ,φ,φ,φ] rfl rfl (ζj HT_.out (by kernel_rfl)) (fun _ _ _ h=>h) (Or.inl ⟨by rfl,?_⟩) ?_ ?_
            rotate_left
            · intro w';go_simp;with_reducible rfl
            rotate_left
            · simp only [ζl,δa,δb,δc,i64_w,i32_w];rfl
            refine ζk (i:=11) (N:=some 27) (v:=?_) (a':=?_) #[τ,τ,τ,τ,τ,τ,τ,τ,τ,τ,τ,τ,φ,φ,φ,φ,φ,φ,φ,φ,φ,φ,φ,φ] rfl rfl (ζj HT_.out (by kernel_rfl)) (fun _ _ _ h=>h) (Or.inl ⟨by rfl,?_⟩) ?_ ?_
            rotate_left
            · intro w';go_simp;with_reducible rfl
            rotate_left
            · simp only [ζl,δa,δb,δc,i64_w,i32_w];rfl
            refine ζk (i:=12) (N:=some 28) (v:=?_) (a':=?_) #[τ,τ,τ,τ,τ,τ,τ,τ,τ,τ,τ,τ,τ,φ,φ,φ,φ,φ,φ,φ,φ,φ,φ,φ] rfl rfl (ζj HT_.out (by kernel_rfl)) (fun _ _ _ h=>h) (Or.inl ⟨by rfl,?_⟩) ?_ ?_
            rotate_left
            · intro w';go_simp;with_reducible rfl
            rotate_left
            · simp only [ζl,δa,δb,δc,i64_w,i32_w];rfl
            refine ζk (i:=13) (N:=some 29) (v:=?_) (a':=?_) #[τ,τ,τ,τ,τ,τ,τ,τ,τ,τ,τ,τ,τ,τ,φ,φ,φ,φ,φ,φ,φ,φ,φ,φ] rfl rfl (ζj HT_.out (by kernel_rfl)) (fun _ _ _ h=>h) (Or.inl ⟨by rfl,?_⟩) ?_ ?_
            rotate_left
            · intro w';go_simp;with_reducible rfl
            rotate_left
            · simp only [ζl,δa,δb,δc,i64_w,i32_w];rfl
            refine ζk (i:=14) (N:=some 30) (v:=?_) (a':=?_) #[τ,τ,τ,τ,τ,τ,τ,τ,τ,τ,τ,τ,τ,τ,τ,φ,φ,φ,φ,φ,φ,φ,φ,φ] rfl rfl (ζj HT_.out (by kernel_rfl)) (fun _ _ _ h=>h) (Or.inl ⟨by rfl,?_⟩) ?_ ?_
            rotate_left
            · intro w';go_simp;with_reducible rfl
            rotate_left
            · simp only [ζl,δa,δb,δc,i64_w,i32_w];rfl
            refine ζk (i:=16) (N:=some 32) (v:=?_) (a':=?_) #[τ,τ,τ,τ,τ,τ,τ,τ,τ,τ,τ,τ,τ,τ,τ,φ,τ,φ,φ,φ,φ,φ,φ,φ] rfl rfl (ζj HT_.out (by kernel_rfl)) (fun _ _ _ h=>h) (Or.inl ⟨by rfl,?_⟩) ?_ ?_
            rotate_left
            · intro w';go_simp;with_reducible rfl
            rotate_left
            · simp only [ζl,δa,δb,δc,i64_w,i32_w];rfl
            refine ζk (i:=17) (N:=some 33) (v:=?_) (a':=?_) #[τ,τ,τ,τ,τ,τ,τ,τ,τ,τ,τ,τ,τ,τ,τ,φ,τ,τ,φ,φ,φ,φ,φ,φ] rfl rfl (ζj HT_.out (by kernel_rfl)) (fun _ _ _ h=>h) (Or.inl ⟨by rfl,?_⟩) ?_ ?_
            rotate_left
            · intro w';go_simp;with_reducible rfl
            rotate_left
            · simp only [ζl,δa,δb,δc,i64_w,i32_w];rfl
            refine ζk (i:=18) (N:=some 34) (v:=?_) (a':=?_) #[τ,τ,τ,τ,τ,τ,τ,τ,τ,τ,τ,τ,τ,τ,τ,φ,τ,τ,τ,φ,φ,φ,φ,φ] rfl rfl (ζj HT_.out (by kernel_rfl)) (fun _ _ _ h=>h) (Or.inl ⟨by rfl,?_⟩) ?_ ?_
            rotate_left
            · intro w';go_simp;with_reducible rfl
            rotate_left
            · simp only [ζl,δa,δb,δc,i64_w,i32_w];rfl
            refine ζk (i:=19) (N:=some 35) (v:=?_) (a':=?_) #[τ,τ,τ,τ,τ,τ,τ,τ,τ,τ,τ,τ,τ,τ,τ,φ,τ,τ,τ,τ,φ,φ,φ,φ] rfl rfl (ζj HT_.out (by kernel_rfl)) (fun _ _ _ h=>h) (Or.inl ⟨by rfl,?_⟩) ?_ ?_
            rotate_left
            · intro w';go_simp;with_reducible rfl
            rotate_left
            · simp only [ζl,δa,δb,δc,i64_w,i32_w];rfl
            refine take_ (i:=15) (N:=some 31) (v:=?_) (a':=?_) #[τ,τ,τ,τ,τ,τ,τ,τ,τ,τ,τ,τ,τ,τ,τ,τ,τ,τ,τ,τ,φ,φ,φ,φ] rfl rfl (take_ofW HT_.out HW_.out (by kernel_rfl)) (fun _ _ _ h=>h) (Or.inl ⟨by rfl,?_⟩) hHeld ?_ ?_
            rotate_left
            · rintro w' ⟨s0,s1,s2,s3,s4,s5⟩;go_simp;with_reducible rfl
            rotate_left
            · simp only [ζl,δa,δb,δc,i64_w,i32_w];rfl
            refine take_ (i:=20) (N:=some 36) (v:=?_) (a':=?_) #[τ,τ,τ,τ,τ,τ,τ,τ,τ,τ,τ,τ,τ,τ,τ,τ,τ,τ,τ,τ,τ,φ,φ,φ] rfl rfl (take_ofW HT_.out HW_.out (by kernel_rfl)) (fun _ _ _ h=>h) (Or.inl ⟨by rfl,?_⟩) hHeld ?_ ?_
            rotate_left
            · rintro w' ⟨s0,s1,s2,s3,s4,s5⟩;go_simp;with_reducible rfl
            rotate_left
            · simp only [ζl,δa,δb,δc,i64_w,i32_w];rfl
            refine ζk (i:=21) (N:=some 37) (v:=?_) (a':=?_) #[τ,τ,τ,τ,τ,τ,τ,τ,τ,τ,τ,τ,τ,τ,τ,τ,τ,τ,τ,τ,τ,τ,φ,φ] rfl rfl (ζj HT_.out (by kernel_rfl)) (fun _ _ _ h=>h) (Or.inl ⟨by rfl,?_⟩) ?_ ?_
            rotate_left
            · intro w';go_simp;with_reducible rfl
            rotate_left
            · simp only [ζl,δa,δb,δc,i64_w,i32_w];rfl
            refine ζk (i:=22) (N:=some 38) (v:=?_) (a':=?_) #[τ,τ,τ,τ,τ,τ,τ,τ,τ,τ,τ,τ,τ,τ,τ,τ,τ,τ,τ,τ,τ,τ,τ,φ] rfl rfl (ζj HT_.out (by kernel_rfl)) (fun _ _ _ h=>h) (Or.inl ⟨by rfl,?_⟩) ?_ ?_
            rotate_left
            · intro w';go_simp;with_reducible rfl
            rotate_left
            · simp only [ζl,δa,δb,δc,i64_w,i32_w];rfl
            refine ζk (i:=23) (N:=some 39) (v:=?_) (a':=?_) #[τ,τ,τ,τ,τ,τ,τ,τ,τ,τ,τ,τ,τ,τ,τ,τ,τ,τ,τ,τ,τ,τ,τ,τ] rfl rfl (ζj HT_.out (by kernel_rfl)) (fun _ _ _ h=>h) (Or.inl ⟨by rfl,?_⟩) ?_ ?_
            rotate_left
            · intro w';go_simp;with_reducible rfl
            rotate_left
            · simp only [ζl,δa,δb,δc,i64_w,i32_w];rfl
            refine done_ (done_of HT_.out (by kernel_rfl)) ?_
            try go_wp2
            go_ret
            exact ⟨by rfl,by repeat ((with_reducible exact HB.out))⟩
          ·
           rw [if_neg c11] at H
           exact absurd H (by simp)
         ·
          rw [if_neg c10] at H
          exact absurd H (by simp)
        ·
         rw [if_neg c8] at H
         have c8b0:decide (0<x3_1)=φ:=decide_eq_false c8
         clear c8
         have H':=ζa H
         clear H
         try go_wp2
         have n0_:=ζa (δj HB.out)
         clear HB
         have HB:=n0_
         clear n0_
         have p197:0≤(x3_1:Int):=of_decide_eq_true (by (with_reducible assumption))
         have q197:x3_1<(l0.length:Int):=of_decide_eq_true (by (with_reducible assumption))
         obtain ⟨ad197,e197,hx197_0,hx197_1⟩:=at_T71 HR0.out x3_1 p197 q197
         have hw197_1:=hx197_1
         have hw197_0:=hx197_0
         cases e197
         replace hx197_0:=(HB.out.cell (World.block_lt_of_cell? w _ hx197_0)).trans hx197_0
         replace hx197_1:=(HB.out.cell (World.block_lt_of_cell? w _ hx197_1)).trans hx197_1
         replace p197:=eq_true p197
         replace q197:=eq_true q197
         refine start_ (n:=24) (S:=fun w'=>w'.cell? (ad197.add ((x3_1).toNat * 2))=some (.string ((rd_T71 l0 x3_1).f0))∧w'.cell? ⟨(ad197.add ((x3_1).toNat * 2)).block,(ad197.add ((x3_1).toNat * 2)).off+1,none⟩=some (.string ((rd_T71 l0 x3_1).f1))) (ds:=[]) #[φ,φ,φ,φ,φ,φ,φ,φ,φ,φ,φ,φ,φ,φ,φ,φ,φ,φ,φ,φ,φ,φ,φ,φ] (by kernel_rfl) rfl rfl ⟨((HB.out.cell (World.block_lt_of_cell? w _ hw197_0)).trans hw197_0),((HB.out.cell (World.block_lt_of_cell? w _ hw197_1)).trans hw197_1)⟩ (fun hHeld => ?_);refine with_tabW spec_StoreOK.tab8 spec_StoreOK.bits8 (fun HT_ HW_ => ?_)
         generalize wr.drew=w17 at HB hx197_0 hx197_1 hHeld ⊢
         refine ζk (i:=0) (N:=some 16) (v:=?_) (a':=?_) #[τ,φ,φ,φ,φ,φ,φ,φ,φ,φ,φ,φ,φ,φ,φ,φ,φ,φ,φ,φ,φ,φ,φ,φ] rfl rfl (ζj HT_.out (by kernel_rfl)) (fun _ _ _ h=>h) (Or.inl ⟨by rfl,?_⟩) ?_ ?_
         rotate_left
         · intro w';go_simp;with_reducible rfl
         rotate_left
         · simp only [ζl,δa,δb,δc,i64_w,i32_w];rfl
         refine ζk (i:=1) (N:=some 17) (v:=?_) (a':=?_) #[τ,τ,φ,φ,φ,φ,φ,φ,φ,φ,φ,φ,φ,φ,φ,φ,φ,φ,φ,φ,φ,φ,φ,φ] rfl rfl (ζj HT_.out (by kernel_rfl)) (fun _ _ _ h=>h) (Or.inl ⟨by rfl,?_⟩) ?_ ?_
         rotate_left
         · intro w';go_simp;with_reducible rfl
         rotate_left
         · simp only [ζl,δa,δb,δc,i64_w,i32_w];rfl
         refine ζk (i:=2) (N:=some 18) (v:=?_) (a':=?_) #[τ,τ,τ,φ,φ,φ,φ,φ,φ,φ,φ,φ,φ,φ,φ,φ,φ,φ,φ,φ,φ,φ,φ,φ] rfl rfl (ζj HT_.out (by kernel_rfl)) (fun _ _ _ h=>h) (Or.inl ⟨by rfl,?_⟩) ?_ ?_
         rotate_left
         · intro w';go_simp;with_reducible rfl
         rotate_left
         · simp only [ζl,δa,δb,δc,i64_w,i32_w];rfl
         refine take_ (i:=3) (N:=some 19) (v:=?_) (a':=?_) #[τ,τ,τ,τ,φ,φ,φ,φ,φ,φ,φ,φ,φ,φ,φ,φ,φ,φ,φ,φ,φ,φ,φ,φ] rfl rfl (take_ofW HT_.out HW_.out (by kernel_rfl)) (fun _ _ _ h=>h) (Or.inl ⟨by rfl,?_⟩) hHeld ?_ ?_
         rotate_left
         · rintro w' ⟨s0,s1⟩;go_simp;with_reducible rfl
         rotate_left
         · simp only [ζl,δa,δb,δc,i64_w,i32_w];rfl
         refine one_ (i:=4) (N:=some 20) #[τ,τ,τ,τ,τ,φ,φ,φ,φ,φ,φ,φ,φ,φ,φ,φ,φ,φ,φ,φ,φ,φ,φ,φ] rfl rfl (one_of HT_.out (by kernel_rfl)) (by decide) (fun K hK => ?_)
         refine goes_ Tryd.func81 (by kernel_rfl) rfl #[.agg #[.string ((rd_T71 l0 x3_1).f0),.string ((rd_T71 l0 x3_1).f1)]] (by rfl) rfl rfl (by (try simp only [δd,δe,δf]);rfl) ?_
         with_reducible refine (spec_l03Pair.calls ((rd_T71 l0 x3_1).f0) ((rd_T71 l0 x3_1).f1) τ _ A6.out).mono ?_
         rintro e w18 ⟨rfl,hb⟩
         refine ⟨_,rfl,?_⟩
         have n0_:=ζa (δr (by exact HB.out) hb)
         clear HB
         have HB:=n0_
         clear n0_
         (try clear hb)
         (try clear hb2)
         (try clear hk)
         (try clear hi)
         refine hK.out _ _ ⟨((HB.out.cell (World.block_lt_of_cell? w _ hw197_0)).trans hw197_0),((HB.out.cell (World.block_lt_of_cell? w _ hw197_1)).trans hw197_1)⟩ (fun hHeld => ?_)
         clear hK K
         refine norm_ (a':=?_) ?_ ?_
         rotate_left
         ·
          show ζl _ (some 20) _=_
          simp only [ζl,δa,δb,δc,i64_w,i32_w];rfl
         refine ζk (i:=5) (N:=some 21) (v:=?_) (a':=?_) #[τ,τ,τ,τ,τ,τ,φ,φ,φ,φ,φ,φ,φ,φ,φ,φ,φ,φ,φ,φ,φ,φ,φ,φ] rfl rfl (ζj HT_.out (by kernel_rfl)) (fun _ _ _ h=>h) (Or.inl ⟨by rfl,?_⟩) ?_ ?_
         rotate_left
         · intro w';go_simp;with_reducible rfl
         rotate_left
         · simp only [ζl,δa,δb,δc,i64_w,i32_w];rfl
         refine ζk (i:=6) (N:=some 22) (v:=?_) (a':=?_) #[τ,τ,τ,τ,τ,τ,τ,φ,φ,φ,φ,φ,φ,φ,φ,φ,φ,φ,φ,φ,φ,φ,φ,φ] rfl rfl (ζj HT_.out (by kernel_rfl)) (fun _ _ _ h=>h) (Or.inl ⟨by rfl,?_⟩) ?_ ?_
         rotate_left
         · intro w';go_simp;with_reducible rfl
         rotate_left
         · simp only [ζl,δa,δb,δc,i64_w,i32_w];rfl
         refine ζk (i:=7) (N:=some 23) (v:=?_) (a':=?_) #[τ,τ,τ,τ,τ,τ,τ,τ,φ,φ,φ,φ,φ,φ,φ,φ,φ,φ,φ,φ,φ,φ,φ,φ] rfl rfl (ζj HT_.out (by kernel_rfl)) (fun _ _ _ h=>h) (Or.inl ⟨by rfl,?_⟩) ?_ ?_
         rotate_left
         · intro w';go_simp;with_reducible rfl
         rotate_left
         · simp only [ζl,δa,δb,δc,i64_w,i32_w];rfl
         refine ζk (i:=8) (N:=some 24) (v:=?_) (a':=?_) #[τ,τ,τ,τ,τ,τ,τ,τ,τ,φ,φ,φ,φ,φ,φ,φ,φ,φ,φ,φ,φ,φ,φ,φ] rfl rfl (ζj HT_.out (by kernel_rfl)) (fun _ _ _ h=>h) (Or.inl ⟨by rfl,?_⟩) ?_ ?_
         rotate_left
         · intro w';go_simp;with_reducible rfl
         rotate_left
         · simp only [ζl,δa,δb,δc,i64_w,i32_w];rfl
         refine ζk (i:=9) (N:=some 25) (v:=?_) (a':=?_) #[τ,τ,τ,τ,τ,τ,τ,τ,τ,τ,φ,φ,φ,φ,φ,φ,φ,φ,φ,φ,φ,φ,φ,φ] rfl rfl (ζj HT_.out (by kernel_rfl)) (fun _ _ _ h=>h) (Or.inl ⟨by rfl,?_⟩) ?_ ?_
         rotate_left
         · intro w';go_simp;with_reducible rfl
         rotate_left
         · simp only [ζl,δa,δb,δc,i64_w,i32_w];rfl
         refine ζk (i:=10) (N:=some 26) (v:=undef) (a':=?_) #[τ,τ,τ,τ,τ,τ,τ,τ,τ,τ,τ,φ,φ,φ,φ,φ,φ,φ,φ,φ,φ,φ,φ,φ] rfl rfl (ζj HT_.out (by kernel_rfl)) (fun _ _ _ h=>h) (Or.inr ⟨by rfl,rfl⟩) ?_ ?_
         rotate_left
         · simp only [ζl,δa,δb,δc,i64_w,i32_w];rfl
         refine ζk (i:=11) (N:=some 27) (v:=undef) (a':=?_) #[τ,τ,τ,τ,τ,τ,τ,τ,τ,τ,τ,τ,φ,φ,φ,φ,φ,φ,φ,φ,φ,φ,φ,φ] rfl rfl (ζj HT_.out (by kernel_rfl)) (fun _ _ _ h=>h) (Or.inr ⟨by rfl,rfl⟩) ?_ ?_
         rotate_left
         · simp only [ζl,δa,δb,δc,i64_w,i32_w];rfl
         refine ζk (i:=12) (N:=some 28) (v:=undef) (a':=?_) #[τ,τ,τ,τ,τ,τ,τ,τ,τ,τ,τ,τ,τ,φ,φ,φ,φ,φ,φ,φ,φ,φ,φ,φ] rfl rfl (ζj HT_.out (by kernel_rfl)) (fun _ _ _ h=>h) (Or.inr ⟨by rfl,rfl⟩) ?_ ?_
         rotate_left
         · simp only [ζl,δa,δb,δc,i64_w,i32_w];rfl
         refine ζk (i:=13) (N:=some 29) (v:=undef) (a':=?_) #[τ,τ,τ,τ,τ,τ,τ,τ,τ,τ,τ,τ,τ,τ,φ,φ,φ,φ,φ,φ,φ,φ,φ,φ] rfl rfl (ζj HT_.out (by kernel_rfl)) (fun _ _ _ h=>h) (Or.inr ⟨by rfl,rfl⟩) ?_ ?_
         rotate_left
         · simp only [ζl,δa,δb,δc,i64_w,i32_w];rfl
         refine ζk (i:=14) (N:=some 30) (v:=undef) (a':=?_) #[τ,τ,τ,τ,τ,τ,τ,τ,τ,τ,τ,τ,τ,τ,τ,φ,φ,φ,φ,φ,φ,φ,φ,φ] rfl rfl (ζj HT_.out (by kernel_rfl)) (fun _ _ _ h=>h) (Or.inr ⟨by rfl,rfl⟩) ?_ ?_
         rotate_left
         · simp only [ζl,δa,δb,δc,i64_w,i32_w];rfl
         refine ζk (i:=15) (N:=some 31) (v:=undef) (a':=?_) #[τ,τ,τ,τ,τ,τ,τ,τ,τ,τ,τ,τ,τ,τ,τ,τ,φ,φ,φ,φ,φ,φ,φ,φ] rfl rfl (ζj HT_.out (by kernel_rfl)) (fun _ _ _ h=>h) (Or.inr ⟨by rfl,rfl⟩) ?_ ?_
         rotate_left
         · simp only [ζl,δa,δb,δc,i64_w,i32_w];rfl
         refine ζk (i:=16) (N:=some 32) (v:=undef) (a':=?_) #[τ,τ,τ,τ,τ,τ,τ,τ,τ,τ,τ,τ,τ,τ,τ,τ,τ,φ,φ,φ,φ,φ,φ,φ] rfl rfl (ζj HT_.out (by kernel_rfl)) (fun _ _ _ h=>h) (Or.inr ⟨by rfl,rfl⟩) ?_ ?_
         rotate_left
         · simp only [ζl,δa,δb,δc,i64_w,i32_w];rfl
         refine ζk (i:=17) (N:=some 33) (v:=undef) (a':=?_) #[τ,τ,τ,τ,τ,τ,τ,τ,τ,τ,τ,τ,τ,τ,τ,τ,τ,τ,φ,φ,φ,φ,φ,φ] rfl rfl (ζj HT_.out (by kernel_rfl)) (fun _ _ _ h=>h) (Or.inr ⟨by rfl,rfl⟩) ?_ ?_
         rotate_left
         · simp only [ζl,δa,δb,δc,i64_w,i32_w];rfl
         refine ζk (i:=18) (N:=some 34) (v:=undef) (a':=?_) #[τ,τ,τ,τ,τ,τ,τ,τ,τ,τ,τ,τ,τ,τ,τ,τ,τ,τ,τ,φ,φ,φ,φ,φ] rfl rfl (ζj HT_.out (by kernel_rfl)) (fun _ _ _ h=>h) (Or.inr ⟨by rfl,rfl⟩) ?_ ?_
         rotate_left
         · simp only [ζl,δa,δb,δc,i64_w,i32_w];rfl
         refine ζk (i:=19) (N:=some 35) (v:=undef) (a':=?_) #[τ,τ,τ,τ,τ,τ,τ,τ,τ,τ,τ,τ,τ,τ,τ,τ,τ,τ,τ,τ,φ,φ,φ,φ] rfl rfl (ζj HT_.out (by kernel_rfl)) (fun _ _ _ h=>h) (Or.inr ⟨by rfl,rfl⟩) ?_ ?_
         rotate_left
         · simp only [ζl,δa,δb,δc,i64_w,i32_w];rfl
         refine ζk (i:=20) (N:=some 36) (v:=undef) (a':=?_) #[τ,τ,τ,τ,τ,τ,τ,τ,τ,τ,τ,τ,τ,τ,τ,τ,τ,τ,τ,τ,τ,φ,φ,φ] rfl rfl (ζj HT_.out (by kernel_rfl)) (fun _ _ _ h=>h) (Or.inr ⟨by rfl,rfl⟩) ?_ ?_
         rotate_left
         · simp only [ζl,δa,δb,δc,i64_w,i32_w];rfl
         refine ζk (i:=21) (N:=some 37) (v:=undef) (a':=?_) #[τ,τ,τ,τ,τ,τ,τ,τ,τ,τ,τ,τ,τ,τ,τ,τ,τ,τ,τ,τ,τ,τ,φ,φ] rfl rfl (ζj HT_.out (by kernel_rfl)) (fun _ _ _ h=>h) (Or.inr ⟨by rfl,rfl⟩) ?_ ?_
         rotate_left
         · simp only [ζl,δa,δb,δc,i64_w,i32_w];rfl
         refine ζk (i:=22) (N:=some 38) (v:=?_) (a':=?_) #[τ,τ,τ,τ,τ,τ,τ,τ,τ,τ,τ,τ,τ,τ,τ,τ,τ,τ,τ,τ,τ,τ,τ,φ] rfl rfl (ζj HT_.out (by kernel_rfl)) (fun _ _ _ h=>h) (Or.inl ⟨by rfl,?_⟩) ?_ ?_
         rotate_left
         · intro w';go_simp;with_reducible rfl
         rotate_left
         · simp only [ζl,δa,δb,δc,i64_w,i32_w];rfl
         refine ζk (i:=23) (N:=some 39) (v:=?_) (a':=?_) #[τ,τ,τ,τ,τ,τ,τ,τ,τ,τ,τ,τ,τ,τ,τ,τ,τ,τ,τ,τ,τ,τ,τ,τ] rfl rfl (ζj HT_.out (by kernel_rfl)) (fun _ _ _ h=>h) (Or.inl ⟨by rfl,?_⟩) ?_ ?_
         rotate_left
         · intro w';go_simp;with_reducible rfl
         rotate_left
         · simp only [ζl,δa,δb,δc,i64_w,i32_w];rfl
         refine done_ (done_of HT_.out (by kernel_rfl)) ?_
         try go_wp2
         go_roundg k1
         case measure=>have:=HK1.out;omega
         case rel=>exact ⟨(ζm (x3_1+1)),(by rfl),H',⟨by have:=HK1.out;omega⟩,⟨by repeat ((with_reducible exact HB.out))⟩⟩
       ·
        replace c7:=Bool.eq_false_iff.mpr c7
        subst c7
        have H1:(some φ)=some r:=by rw [if_neg (show ¬ (φ=τ) by decide)] at H;exact H
        clear H
        have H:=H1
        clear H1
        obtain rfl:=Option.some.inj H
        try go_wp2
        have n0_:=ζa (δj HB.out)
        clear HB
        have HB:=n0_
        clear n0_
        have p197:0≤(x3_1:Int):=of_decide_eq_true (by (with_reducible assumption))
        have q197:x3_1<(l0.length:Int):=of_decide_eq_true (by (with_reducible assumption))
        obtain ⟨ad197,e197,hx197_0,hx197_1⟩:=at_T71 HR0.out x3_1 p197 q197
        have hw197_1:=hx197_1
        have hw197_0:=hx197_0
        cases e197
        replace hx197_0:=(HB.out.cell (World.block_lt_of_cell? w _ hx197_0)).trans hx197_0
        replace hx197_1:=(HB.out.cell (World.block_lt_of_cell? w _ hx197_1)).trans hx197_1
        replace p197:=eq_true p197
        replace q197:=eq_true q197
        refine start_ (n:=24) (S:=fun w'=>w'.cell? (ad197.add ((x3_1).toNat * 2))=some (.string ((rd_T71 l0 x3_1).f0))∧w'.cell? ⟨(ad197.add ((x3_1).toNat * 2)).block,(ad197.add ((x3_1).toNat * 2)).off+1,none⟩=some (.string ((rd_T71 l0 x3_1).f1))) (ds:=[]) #[φ,φ,φ,φ,φ,φ,φ,φ,φ,φ,φ,φ,φ,φ,φ,φ,φ,φ,φ,φ,φ,φ,φ,φ] (by kernel_rfl) rfl rfl ⟨((HB.out.cell (World.block_lt_of_cell? w _ hw197_0)).trans hw197_0),((HB.out.cell (World.block_lt_of_cell? w _ hw197_1)).trans hw197_1)⟩ (fun hHeld => ?_);refine with_tabW spec_StoreOK.tab8 spec_StoreOK.bits8 (fun HT_ HW_ => ?_)
        generalize wr.drew=w19 at HB hx197_0 hx197_1 hHeld ⊢
        refine ζk (i:=0) (N:=some 16) (v:=?_) (a':=?_) #[τ,φ,φ,φ,φ,φ,φ,φ,φ,φ,φ,φ,φ,φ,φ,φ,φ,φ,φ,φ,φ,φ,φ,φ] rfl rfl (ζj HT_.out (by kernel_rfl)) (fun _ _ _ h=>h) (Or.inl ⟨by rfl,?_⟩) ?_ ?_
        rotate_left
        · intro w';go_simp;with_reducible rfl
        rotate_left
        · simp only [ζl,δa,δb,δc,i64_w,i32_w];rfl
        refine ζk (i:=1) (N:=some 17) (v:=?_) (a':=?_) #[τ,τ,φ,φ,φ,φ,φ,φ,φ,φ,φ,φ,φ,φ,φ,φ,φ,φ,φ,φ,φ,φ,φ,φ] rfl rfl (ζj HT_.out (by kernel_rfl)) (fun _ _ _ h=>h) (Or.inl ⟨by rfl,?_⟩) ?_ ?_
        rotate_left
        · intro w';go_simp;with_reducible rfl
        rotate_left
        · simp only [ζl,δa,δb,δc,i64_w,i32_w];rfl
        refine ζk (i:=2) (N:=some 18) (v:=?_) (a':=?_) #[τ,τ,τ,φ,φ,φ,φ,φ,φ,φ,φ,φ,φ,φ,φ,φ,φ,φ,φ,φ,φ,φ,φ,φ] rfl rfl (ζj HT_.out (by kernel_rfl)) (fun _ _ _ h=>h) (Or.inl ⟨by rfl,?_⟩) ?_ ?_
        rotate_left
        · intro w';go_simp;with_reducible rfl
        rotate_left
        · simp only [ζl,δa,δb,δc,i64_w,i32_w];rfl
        refine take_ (i:=3) (N:=some 19) (v:=?_) (a':=?_) #[τ,τ,τ,τ,φ,φ,φ,φ,φ,φ,φ,φ,φ,φ,φ,φ,φ,φ,φ,φ,φ,φ,φ,φ] rfl rfl (take_ofW HT_.out HW_.out (by kernel_rfl)) (fun _ _ _ h=>h) (Or.inl ⟨by rfl,?_⟩) hHeld ?_ ?_
        rotate_left
        · rintro w' ⟨s0,s1⟩;go_simp;with_reducible rfl
        rotate_left
        · simp only [ζl,δa,δb,δc,i64_w,i32_w];rfl
        refine one_ (i:=4) (N:=some 20) #[τ,τ,τ,τ,τ,φ,φ,φ,φ,φ,φ,φ,φ,φ,φ,φ,φ,φ,φ,φ,φ,φ,φ,φ] rfl rfl (one_of HT_.out (by kernel_rfl)) (by decide) (fun K hK => ?_)
        refine goes_ Tryd.func81 (by kernel_rfl) rfl #[.agg #[.string ((rd_T71 l0 x3_1).f0),.string ((rd_T71 l0 x3_1).f1)]] (by rfl) rfl rfl (by (try simp only [δd,δe,δf]);rfl) ?_
        with_reducible refine (spec_l03Pair.calls ((rd_T71 l0 x3_1).f0) ((rd_T71 l0 x3_1).f1) φ _ A6.out).mono ?_
        rintro e w20 ⟨rfl,hb⟩
        refine ⟨_,rfl,?_⟩
        have n0_:=ζa (δr (by exact HB.out) hb)
        clear HB
        have HB:=n0_
        clear n0_
        (try clear hb)
        (try clear hb2)
        (try clear hk)
        (try clear hi)
        refine hK.out _ _ ⟨((HB.out.cell (World.block_lt_of_cell? w _ hw197_0)).trans hw197_0),((HB.out.cell (World.block_lt_of_cell? w _ hw197_1)).trans hw197_1)⟩ (fun hHeld => ?_)
        clear hK K
        refine norm_ (a':=?_) ?_ ?_
        rotate_left
        ·
         show ζl _ (some 20) _=_
         simp only [ζl,δa,δb,δc,i64_w,i32_w];rfl
        refine ζk (i:=5) (N:=some 21) (v:=?_) (a':=?_) #[τ,τ,τ,τ,τ,τ,φ,φ,φ,φ,φ,φ,φ,φ,φ,φ,φ,φ,φ,φ,φ,φ,φ,φ] rfl rfl (ζj HT_.out (by kernel_rfl)) (fun _ _ _ h=>h) (Or.inl ⟨by rfl,?_⟩) ?_ ?_
        rotate_left
        · intro w';go_simp;with_reducible rfl
        rotate_left
        · simp only [ζl,δa,δb,δc,i64_w,i32_w];rfl
        refine ζk (i:=6) (N:=some 22) (v:=?_) (a':=?_) #[τ,τ,τ,τ,τ,τ,τ,φ,φ,φ,φ,φ,φ,φ,φ,φ,φ,φ,φ,φ,φ,φ,φ,φ] rfl rfl (ζj HT_.out (by kernel_rfl)) (fun _ _ _ h=>h) (Or.inl ⟨by rfl,?_⟩) ?_ ?_
        rotate_left
        · intro w';go_simp;with_reducible rfl
        rotate_left
        · simp only [ζl,δa,δb,δc,i64_w,i32_w];rfl
        refine ζk (i:=7) (N:=some 23) (v:=undef) (a':=?_) #[τ,τ,τ,τ,τ,τ,τ,τ,φ,φ,φ,φ,φ,φ,φ,φ,φ,φ,φ,φ,φ,φ,φ,φ] rfl rfl (ζj HT_.out (by kernel_rfl)) (fun _ _ _ h=>h) (Or.inr ⟨by rfl,rfl⟩) ?_ ?_
        rotate_left
        · simp only [ζl,δa,δb,δc,i64_w,i32_w];rfl
        refine ζk (i:=8) (N:=some 24) (v:=undef) (a':=?_) #[τ,τ,τ,τ,τ,τ,τ,τ,τ,φ,φ,φ,φ,φ,φ,φ,φ,φ,φ,φ,φ,φ,φ,φ] rfl rfl (ζj HT_.out (by kernel_rfl)) (fun _ _ _ h=>h) (Or.inr ⟨by rfl,rfl⟩) ?_ ?_
        rotate_left
        · simp only [ζl,δa,δb,δc,i64_w,i32_w];rfl
        refine ζk (i:=9) (N:=some 25) (v:=undef) (a':=?_) #[τ,τ,τ,τ,τ,τ,τ,τ,τ,τ,φ,φ,φ,φ,φ,φ,φ,φ,φ,φ,φ,φ,φ,φ] rfl rfl (ζj HT_.out (by kernel_rfl)) (fun _ _ _ h=>h) (Or.inr ⟨by rfl,rfl⟩) ?_ ?_
        rotate_left
        · simp only [ζl,δa,δb,δc,i64_w,i32_w];rfl
        refine ζk (i:=10) (N:=some 26) (v:=undef) (a':=?_) #[τ,τ,τ,τ,τ,τ,τ,τ,τ,τ,τ,φ,φ,φ,φ,φ,φ,φ,φ,φ,φ,φ,φ,φ] rfl rfl (ζj HT_.out (by kernel_rfl)) (fun _ _ _ h=>h) (Or.inr ⟨by rfl,rfl⟩) ?_ ?_
        rotate_left
        · simp only [ζl,δa,δb,δc,i64_w,i32_w];rfl
        refine ζk (i:=11) (N:=some 27) (v:=undef) (a':=?_) #[τ,τ,τ,τ,τ,τ,τ,τ,τ,τ,τ,τ,φ,φ,φ,φ,φ,φ,φ,φ,φ,φ,φ,φ] rfl rfl (ζj HT_.out (by kernel_rfl)) (fun _ _ _ h=>h) (Or.inr ⟨by rfl,rfl⟩) ?_ ?_
        rotate_left
        · simp only [ζl,δa,δb,δc,i64_w,i32_w];rfl
        refine ζk (i:=12) (N:=some 28) (v:=undef) (a':=?_) #[τ,τ,τ,τ,τ,τ,τ,τ,τ,τ,τ,τ,τ,φ,φ,φ,φ,φ,φ,φ,φ,φ,φ,φ] rfl rfl (ζj HT_.out (by kernel_rfl)) (fun _ _ _ h=>h) (Or.inr ⟨by rfl,rfl⟩) ?_ ?_
        rotate_left
        · simp only [ζl,δa,δb,δc,i64_w,i32_w];rfl
        refine ζk (i:=13) (N:=some 29) (v:=undef) (a':=?_) #[τ,τ,τ,τ,τ,τ,τ,τ,τ,τ,τ,τ,τ,τ,φ,φ,φ,φ,φ,φ,φ,φ,φ,φ] rfl rfl (ζj HT_.out (by kernel_rfl)) (fun _ _ _ h=>h) (Or.inr ⟨by rfl,rfl⟩) ?_ ?_
        rotate_left
        · simp only [ζl,δa,δb,δc,i64_w,i32_w];rfl
        refine ζk (i:=14) (N:=some 30) (v:=undef) (a':=?_) #[τ,τ,τ,τ,τ,τ,τ,τ,τ,τ,τ,τ,τ,τ,τ,φ,φ,φ,φ,φ,φ,φ,φ,φ] rfl rfl (ζj HT_.out (by kernel_rfl)) (fun _ _ _ h=>h) (Or.inr ⟨by rfl,rfl⟩) ?_ ?_
        rotate_left
        · simp only [ζl,δa,δb,δc,i64_w,i32_w];rfl
        refine ζk (i:=15) (N:=some 31) (v:=undef) (a':=?_) #[τ,τ,τ,τ,τ,τ,τ,τ,τ,τ,τ,τ,τ,τ,τ,τ,φ,φ,φ,φ,φ,φ,φ,φ] rfl rfl (ζj HT_.out (by kernel_rfl)) (fun _ _ _ h=>h) (Or.inr ⟨by rfl,rfl⟩) ?_ ?_
        rotate_left
        · simp only [ζl,δa,δb,δc,i64_w,i32_w];rfl
        refine ζk (i:=16) (N:=some 32) (v:=undef) (a':=?_) #[τ,τ,τ,τ,τ,τ,τ,τ,τ,τ,τ,τ,τ,τ,τ,τ,τ,φ,φ,φ,φ,φ,φ,φ] rfl rfl (ζj HT_.out (by kernel_rfl)) (fun _ _ _ h=>h) (Or.inr ⟨by rfl,rfl⟩) ?_ ?_
        rotate_left
        · simp only [ζl,δa,δb,δc,i64_w,i32_w];rfl
        refine ζk (i:=17) (N:=some 33) (v:=undef) (a':=?_) #[τ,τ,τ,τ,τ,τ,τ,τ,τ,τ,τ,τ,τ,τ,τ,τ,τ,τ,φ,φ,φ,φ,φ,φ] rfl rfl (ζj HT_.out (by kernel_rfl)) (fun _ _ _ h=>h) (Or.inr ⟨by rfl,rfl⟩) ?_ ?_
        rotate_left
        · simp only [ζl,δa,δb,δc,i64_w,i32_w];rfl
        refine ζk (i:=18) (N:=some 34) (v:=undef) (a':=?_) #[τ,τ,τ,τ,τ,τ,τ,τ,τ,τ,τ,τ,τ,τ,τ,τ,τ,τ,τ,φ,φ,φ,φ,φ] rfl rfl (ζj HT_.out (by kernel_rfl)) (fun _ _ _ h=>h) (Or.inr ⟨by rfl,rfl⟩) ?_ ?_
        rotate_left
        · simp only [ζl,δa,δb,δc,i64_w,i32_w];rfl
        refine ζk (i:=19) (N:=some 35) (v:=undef) (a':=?_) #[τ,τ,τ,τ,τ,τ,τ,τ,τ,τ,τ,τ,τ,τ,τ,τ,τ,τ,τ,τ,φ,φ,φ,φ] rfl rfl (ζj HT_.out (by kernel_rfl)) (fun _ _ _ h=>h) (Or.inr ⟨by rfl,rfl⟩) ?_ ?_
        rotate_left
        · simp only [ζl,δa,δb,δc,i64_w,i32_w];rfl
        refine ζk (i:=20) (N:=some 36) (v:=undef) (a':=?_) #[τ,τ,τ,τ,τ,τ,τ,τ,τ,τ,τ,τ,τ,τ,τ,τ,τ,τ,τ,τ,τ,φ,φ,φ] rfl rfl (ζj HT_.out (by kernel_rfl)) (fun _ _ _ h=>h) (Or.inr ⟨by rfl,rfl⟩) ?_ ?_
        rotate_left
        · simp only [ζl,δa,δb,δc,i64_w,i32_w];rfl
        refine ζk (i:=21) (N:=some 37) (v:=undef) (a':=?_) #[τ,τ,τ,τ,τ,τ,τ,τ,τ,τ,τ,τ,τ,τ,τ,τ,τ,τ,τ,τ,τ,τ,φ,φ] rfl rfl (ζj HT_.out (by kernel_rfl)) (fun _ _ _ h=>h) (Or.inr ⟨by rfl,rfl⟩) ?_ ?_
        rotate_left
        · simp only [ζl,δa,δb,δc,i64_w,i32_w];rfl
        refine ζk (i:=22) (N:=some 38) (v:=undef) (a':=?_) #[τ,τ,τ,τ,τ,τ,τ,τ,τ,τ,τ,τ,τ,τ,τ,τ,τ,τ,τ,τ,τ,τ,τ,φ] rfl rfl (ζj HT_.out (by kernel_rfl)) (fun _ _ _ h=>h) (Or.inr ⟨by rfl,rfl⟩) ?_ ?_
        rotate_left
        · simp only [ζl,δa,δb,δc,i64_w,i32_w];rfl
        refine ζk (i:=23) (N:=some 39) (v:=?_) (a':=?_) #[τ,τ,τ,τ,τ,τ,τ,τ,τ,τ,τ,τ,τ,τ,τ,τ,τ,τ,τ,τ,τ,τ,τ,τ] rfl rfl (ζj HT_.out (by kernel_rfl)) (fun _ _ _ h=>h) (Or.inl ⟨by rfl,?_⟩) ?_ ?_
        rotate_left
        · intro w';go_simp;with_reducible rfl
        rotate_left
        · simp only [ζl,δa,δb,δc,i64_w,i32_w];rfl
        refine done_ (done_of HT_.out (by kernel_rfl)) ?_
        try go_wp2
        go_ret
        exact ⟨by rfl,by repeat ((with_reducible exact HB.out))⟩
      ·
       rw [if_neg c5] at H
       exact absurd H (by simp)
     ·
      rw [if_neg c4] at H
      have c4b0:decide (x3_1<(l0.length:Int))=φ:=decide_eq_false c4
      clear c4
      obtain rfl:=Option.some.inj H
      go_wp2
      go_ret
      exact ⟨by rfl,by repeat ((with_reducible exact HB.out))⟩


open Go.Proofs.YteghpdmlpefnfaaDoorW.PrintWords renaming gate_dst → δx, below_size → δs, below_step → δr, pw_below_drewN → δi, gate_builtin → δy
open List renaming setIfInBounds_toArray → δa, set_cons_zero → δb, set_cons_succ → δc
open Go.Proofs.YteghpdmlpefnfaaDoorW.PrintWords.Kd renaming R_drewN → ζc

/-! ### spec_l02Read: function 83 -/
mutual
def spec_l02Read.j0:Nat→ByteArray→List ByteArray→Bool→Option (List ByteArray × Bool)
 | 0,_,_,_=>none
 | k+1,x0,x4,x15=>if x15=τ then (some (x4,φ)) else (if 0<(x0.size:Int) then (spec_l02Read.l0 k x0 x4 1 (ζm (bt x0 0))) else (none))
def spec_l02Read.l0:Nat→ByteArray→List ByteArray→Int→Int→Option (List ByteArray × Bool)
 | 0,_,_,_,_=>none
 | k+1,x0,x4,x5,x6=>if x6 > 0 then (if (ζm (x5+2)) > (x0.size:Int) then (some ((([]:List ByteArray)),φ)) else (if 0≤x5 then (if x5<(x0.size:Int) then (if 0≤(ζm (x5+1)) then (if (ζm (x5+1))<(x0.size:Int) then (if (ζm ((ζm ((ζm (bt x0 x5)) * 256))+(ζm (bt x0 (ζm (x5+1)))))) > 1000 then (some ((([]:List ByteArray)),φ)) else (if (ζm ((ζm (x5+2))+(ζm ((ζm ((ζm (bt x0 x5)) * 256))+(ζm (bt x0 (ζm (x5+1)))))))) > (x0.size:Int) then (some ((([]:List ByteArray)),φ)) else (if 0≤(ζm (x5+2)) then (if (ζm (x5+2))≤(ζm ((ζm (x5+2))+(ζm ((ζm ((ζm (bt x0 x5)) * 256))+(ζm (bt x0 (ζm (x5+1)))))))) then (if (ζm ((ζm (x5+2))+(ζm ((ζm ((ζm (bt x0 x5)) * 256))+(ζm (bt x0 (ζm (x5+1))))))))≤(x0.size:Int) then (if x4.length<8796093022208 then (spec_l02Read.l0 k x0 (x4 ++ [x0.extract ((ζm (x5+2)):Int).toNat ((ζm ((ζm (x5+2))+(ζm ((ζm ((ζm (bt x0 x5)) * 256))+(ζm (bt x0 (ζm (x5+1)))))))):Int).toNat]) (ζm (x5+(ζm (2+(ζm ((ζm ((ζm (bt x0 x5)) * 256))+(ζm (bt x0 (ζm (x5+1)))))))))) (ζm (x6 - 1))) else (none)) else (none)) else (none)) else (none)))) else (none)) else (none)) else (none)) else (none))) else (if x5=(x0.size:Int) then (some (x4,τ)) else (some ((([]:List ByteArray)),φ)))
end
def spec_l02Read.f (k:Nat) (a0:ByteArray):Option (List ByteArray × Bool):=(some (([]:List ByteArray):List ByteArray)).bind fun y205=>(if a0.toList=([]:List UInt8) then (spec_l02Read.j0 k a0 y205 τ) else (if 0<(a0.size:Int) then (spec_l02Read.j0 k a0 y205 (decide ((bt a0 0) > 40))) else (none)))
set_option maxHeartbeats 8000000 in
set_option maxRecDepth 100000 in
theorem spec_l02Read.calls (k:Nat) (a0:ByteArray) (r1:List ByteArray) (r2:Bool) (w:World) (h:spec_l02Read.f k a0=some (r1,r2)) :
  Calls Tryd.prog 83 #[.string a0] w fun e w' => ∃ v0_:Value,e = .returned (.tuple #[v0_,.bool r2])∧Kd.R Kd.string 9 w' w.heap.size (fun _=>True) v0_ r1∧Below w.heap.size w w':=by
 have HB:=ζa (Below.refl w.heap.size w)
 have H:((some (([]:List ByteArray):List ByteArray)).bind fun y205=>(if a0.toList=([]:List UInt8) then (spec_l02Read.j0 k a0 y205 τ) else (if 0<(a0.size:Int) then (spec_l02Read.j0 k a0 y205 (decide ((bt a0 0) > 40))) else (none))))=some (r1,r2):=h
 clear h
 obtain ⟨y205,hy205⟩ : ∃ y_:List ByteArray,y_=(([]:List ByteArray)):=⟨_,rfl⟩
 replace H:(if a0.toList=([]:List UInt8) then (spec_l02Read.j0 k a0 y205 τ) else (if 0<(a0.size:Int) then (spec_l02Read.j0 k a0 y205 (decide ((bt a0 0) > 40))) else (none)))=some (r1,r2):=by (have H2_:=(Option.bind_some _ _).symm.trans H;rw [hy205];with_reducible exact H2_)
 have Ny205:=ζa hy205
 clear hy205
 have HC2:=ζa H
 clear H
 go_enter Tryd.func83,Tryd.ntmps83
 go_upto_region 2 with (((with_reducible refine δx (N:=8) rfl ?_);(try (refine gate_guard (by rfl) ?_;dsimp only));refine Kd.R_lit Kd.string _ 9 ?hg (N:=8) ?hd (xs:=([]:List ByteArray)) (inner:=[]) (ok:=fun _=>True) (okp:=fun _=>True) ?hr ?hp (fun _ hk=>hk) trivial (Below.refl _ _) (Nat.le_refl _) (by simp) ?_;(case hd=>rfl);(case hg=>rfl);(case hr=>(go_simp;done));(case hp=>exact (Reps.none _ _));intro v206 w3 ho4 hb hg_ hnew_;clear hg_ hnew_;(rw [← Ny205.out] at ho4);have n0_:=ζa (Kd.R_lower ho4 (δs (by exact HB.out)));have n1_:=ζa (δr (by exact HB.out) hb);clear HB;have HO207:=n0_;have HB:=n1_;clear n0_ n1_;clear hb ho4))
 repeat (go_quiet (fail);go_upto_region 2 with (fail))
 (try simp only [ζl,δa,δb,δc])
 go_cut [15] (fun v15 wc => ∃ (kq:Nat) (x15_1:Bool),v15 = .bool x15_1∧Aside0 (spec_l02Read.j0 kq a0 y205 x15_1=some (r1,r2))∧Aside0 (kq≤k)∧Aside0 (Kd.R Kd.string 9 wc w.heap.size (fun _=>True) v206 y205)∧Aside0 (Below w.heap.size w wc))
 case first =>
  have H:=HC2.out
  clear HC2
  by_cases c5:a0.toList=([]:List UInt8)
  ·
   rw [if_pos c5] at H
   have c5b0:(a0.toList == ([]:List UInt8))=τ:=beq_iff_eq.mpr c5
   have c5b1:(a0.toList != ([]:List UInt8))=φ:=bne_eq_false_iff_eq.mpr c5
   clear c5
   (skip)
   have H':=ζa H
   clear H
   go_wp2
   repeat (go_quiet (fail);try go_wp2)
   go_meet
   case rel=>exact ⟨_,(τ),(by rfl),H',⟨by omega⟩,⟨by exact HO207.out⟩,⟨by repeat ((with_reducible exact HB.out))⟩⟩
  ·
   rw [if_neg c5] at H
   have c5b0:(a0.toList == ([]:List UInt8))=φ:=beq_eq_false_iff_ne.mpr c5
   have c5b1:(a0.toList != ([]:List UInt8))=τ:=bne_iff_ne.mpr c5
   (skip)
   by_cases c6:0<(a0.size:Int)
   ·
    rw [if_pos c6] at H
    have c6b0:decide (0<(a0.size:Int))=τ:=decide_eq_true c6
    have c6b1:decide (0<a0.size)=τ:=decide_eq_true (by omega)
    clear c6
    have H':=ζa H
    clear H
    have p7:0≤(0:Int):=(by omega)
    have q7:0<a0.size:=(by have:(0:Int)<(a0.size:Int):=of_decide_eq_true (by (with_reducible assumption));omega)
    have hx7 : ∀ h:0<a0.size,((a0[0]'h).toNat:Int)=bt a0 0:=bt_at a0 0
    clear p7
    have qi7:(0<(a0.size:Int))=True:=eq_true (of_decide_eq_true (by (with_reducible assumption)))
    replace q7:=eq_true q7
    go_wp2
    repeat (go_quiet (fail);try go_wp2)
    go_meet
    case rel=>exact ⟨_,(decide ((bt a0 0) > 40)),(by rfl),H',⟨by omega⟩,⟨by exact HO207.out⟩,⟨by repeat ((with_reducible exact HB.out))⟩⟩
   ·
    rw [if_neg c6] at H
    exact absurd H (by simp)
 case rest =>
  clear HC2
  try clear p2
  try clear c5
  try clear c5b0
  try clear c5b1
  try clear c6
  try clear c6b0
  try clear c6b1
  try clear p7
  try clear q7
  try clear hx7
  try clear qi7
  try clear p7
  try clear q7
  obtain ⟨kq,x15_1,rfl,HA,HJ1,HO_4,HB⟩:=hcut
  cases kq with
  | zero=>exact absurd HA.out (by simp [spec_l02Read.j0])
  | succ kj1 =>
   have H:=HA.out
   clear HA
   simp only [spec_l02Read.j0] at H
   by_cases c8:x15_1=τ
   ·
    subst c8
    have H1:(some (y205,φ))=some (r1,r2):=by rw [if_pos rfl] at H;exact H
    clear H
    have H:=H1
    clear H1
    simp only [Option.some.injEq,Prod.mk.injEq] at H
    obtain ⟨rfl,rfl⟩:=H
    go_wp2
    repeat (go_quiet (fail);try go_wp2)
    go_ret2
    exact ⟨_,by rfl,by exact HO_4.out,by repeat ((with_reducible exact HB.out))⟩
   ·
    replace c8:=Bool.eq_false_iff.mpr c8
    subst c8
    have H1:(if 0<(a0.size:Int) then (spec_l02Read.l0 kj1 a0 y205 1 (ζm (bt a0 0))) else (none))=some (r1,r2):=by rw [if_neg (show ¬ (φ=τ) by decide)] at H;exact H
    clear H
    have H:=H1
    clear H1
    by_cases c9:0<(a0.size:Int)
    ·
     rw [if_pos c9] at H
     have c9b0:decide (0<(a0.size:Int))=τ:=decide_eq_true c9
     have c9b1:decide (0<a0.size)=τ:=decide_eq_true (by omega)
     clear c9
     have H':=ζa H
     clear H
     have p10:0≤(0:Int):=(by omega)
     have q10:0<a0.size:=(by have:(0:Int)<(a0.size:Int):=of_decide_eq_true (by (with_reducible assumption));omega)
     have hx10 : ∀ h:0<a0.size,((a0[0]'h).toNat:Int)=bt a0 0:=bt_at a0 0
     clear p10
     have qi10:(0<(a0.size:Int))=True:=eq_true (of_decide_eq_true (by (with_reducible assumption)))
     replace q10:=eq_true q10
     go_wp2
     repeat (go_quiet (fail);try go_wp2)
     go_loopg [4,5,6] kj1 (fun kq v4 v5 v6 w' => ∃ (x4_2:List ByteArray) (x5_2:Int) (x6_2:Int),v5 = .int .i64 x5_2∧v6 = .int .i64 x6_2∧Aside0 (spec_l02Read.l0 kq a0 x4_2 x5_2 x6_2=some (r1,r2))∧Aside0 (kq≤kj1)∧Aside0 (Kd.R Kd.string 9 w' w.heap.size (fun _=>True) v4 x4_2)∧Aside0 (Below w.heap.size w w'))
     case atStart=>exact ⟨(y205),(1),(ζm (bt a0 0)),(by rfl),(by rfl),H',⟨Nat.le_refl _⟩,⟨by exact HO_4.out⟩,⟨by repeat ((with_reducible exact HB.out))⟩⟩
     case round =>
      clear H'
      try clear p1
      try clear q1
      try clear hx1
      try clear qi1
      try clear p2
      try clear c5
      try clear c5b0
      try clear c5b1
      try clear c6
      try clear c6b0
      try clear c6b1
      try clear p6
      try clear p7
      try clear q7
      try clear hx7
      try clear qi7
      try clear c8
      try clear c9
      try clear c9b0
      try clear c9b1
      try clear p10
      try clear q10
      try clear hx10
      try clear qi10
      try clear p10
      try clear p2
      try clear p7
      try clear q10
      try clear q7
      obtain ⟨x4_2,x5_2,x6_2,rfl,rfl,HA,HK2,HO_4,HB⟩:=hrel
      cases gk with
      | zero=>exact absurd HA.out (by simp [spec_l02Read.l0])
      | succ k2 =>
       have H:=HA.out
       clear HA
       simp only [spec_l02Read.l0] at H
       by_cases c11:x6_2 > 0
       ·
        rw [if_pos c11] at H
        have c11b0:decide (0<x6_2)=τ:=decide_eq_true c11
        clear c11
        by_cases c12:(ζm (x5_2+2)) > (a0.size:Int)
        ·
         rw [if_pos c12] at H
         have c12b0:decide ((a0.size:Int)<(ζm (x5_2+2)))=τ:=decide_eq_true c12
         clear c12
         obtain ⟨y211,hy211⟩ : ∃ y_:List ByteArray,y_=(([]:List ByteArray)):=⟨_,rfl⟩
         replace H:(some (y211,φ))=some (r1,r2):=by (rw [hy211];with_reducible exact H)
         have Ny211:=ζa hy211
         clear hy211
         simp only [Option.some.injEq,Prod.mk.injEq] at H
         obtain ⟨rfl,rfl⟩:=H
         go_wp2_with (((with_reducible refine δx (N:=29) rfl ?_);(try (refine gate_guard (by rfl) ?_;dsimp only));refine Kd.R_lit Kd.string _ 9 ?hg (N:=29) ?hd (xs:=([]:List ByteArray)) (inner:=[]) (ok:=fun _=>True) (okp:=fun _=>True) ?hr ?hp (fun _ hk=>hk) trivial (Below.refl _ _) (Nat.le_refl _) (by simp) ?_;(case hd=>rfl);(case hg=>rfl);(case hr=>(go_simp;done));(case hp=>exact (Reps.none _ _));intro v212 w13 ho14 hb hg_ hnew_;clear hg_ hnew_;(rw [← Ny211.out] at ho14);have n0_:=ζa (Kd.R_elder' (by exact HO_4.out) (Kd.R_base ho14) hb);have n1_:=ζa (Kd.R_lower (Kd.R_new' ho14 (Kd.R_lt (by exact HO_4.out))) (δs (by exact HB.out)));have n2_:=ζa (δr (by exact HB.out) hb);clear HO_4;clear HB;have HO_4:=n0_;have HO213:=n1_;have HB:=n2_;clear n0_ n1_ n2_;clear hb ho14))
         repeat (go_quiet (fail);try go_wp2_with (fail))
         go_ret2
         exact ⟨_,by rfl,by exact Kd.R_mono HO213.out (fun _ hk=>trivial),by repeat ((with_reducible exact HB.out))⟩
        ·
         rw [if_neg c12] at H
         have c12b0:decide ((a0.size:Int)<(ζm (x5_2+2)))=φ:=decide_eq_false c12
         clear c12
         by_cases c15:0≤x5_2
         ·
          rw [if_pos c15] at H
          have c15b0:decide (0≤x5_2)=τ:=decide_eq_true c15
          clear c15
          by_cases c16:x5_2<(a0.size:Int)
          ·
           rw [if_pos c16] at H
           have c16b0:decide (x5_2<(a0.size:Int))=τ:=decide_eq_true c16
           clear c16
           obtain ⟨ji18,hji18⟩ : ∃ j_:Int,(ζm (x5_2+1))=j_:=⟨_,rfl⟩
           replace H:(if 0≤(ji18) then (if (ji18)<(a0.size:Int) then (if (ζm ((ζm ((ζm (bt a0 x5_2)) * 256))+(ζm (bt a0 (ji18))))) > 1000 then (some ((([]:List ByteArray)),φ)) else (if (ζm ((ζm (x5_2+2))+(ζm ((ζm ((ζm (bt a0 x5_2)) * 256))+(ζm (bt a0 (ji18))))))) > (a0.size:Int) then (some ((([]:List ByteArray)),φ)) else (if 0≤(ζm (x5_2+2)) then (if (ζm (x5_2+2))≤(ζm ((ζm (x5_2+2))+(ζm ((ζm ((ζm (bt a0 x5_2)) * 256))+(ζm (bt a0 (ji18))))))) then (if (ζm ((ζm (x5_2+2))+(ζm ((ζm ((ζm (bt a0 x5_2)) * 256))+(ζm (bt a0 (ji18)))))))≤(a0.size:Int) then (if x4_2.length<8796093022208 then (spec_l02Read.l0 k2 a0 (x4_2 ++ [a0.extract ((ζm (x5_2+2)):Int).toNat ((ζm ((ζm (x5_2+2))+(ζm ((ζm ((ζm (bt a0 x5_2)) * 256))+(ζm (bt a0 (ji18))))))):Int).toNat]) (ζm (x5_2+(ζm (2+(ζm ((ζm ((ζm (bt a0 x5_2)) * 256))+(ζm (bt a0 (ji18))))))))) (ζm (x6_2 - 1))) else (none)) else (none)) else (none)) else (none)))) else (none)) else (none))=some (r1,r2):=by (rw [hji18] at H;exact H)
           have hji18w:(IntKind.i64.wrap (x5_2+1))=ji18:=(i64_w _).trans hji18
           by_cases c19:0≤(ji18)
           ·
            rw [if_pos c19] at H
            have c19b0:decide (0≤(ji18))=τ:=decide_eq_true c19
            clear c19
            by_cases c20:(ji18)<(a0.size:Int)
            ·
             rw [if_pos c20] at H
             have c20b0:decide ((ji18)<(a0.size:Int))=τ:=decide_eq_true c20
             clear c20
             by_cases c22:(ζm ((ζm ((ζm (bt a0 x5_2)) * 256))+(ζm (bt a0 (ji18))))) > 1000
             ·
              rw [if_pos c22] at H
              have c22b0:decide (1000<(ζm ((ζm ((ζm (bt a0 x5_2)) * 256))+(ζm (bt a0 (ji18))))))=τ:=decide_eq_true c22
              clear c22
              obtain ⟨y214,hy214⟩ : ∃ y_:List ByteArray,y_=(([]:List ByteArray)):=⟨_,rfl⟩
              replace H:(some (y214,φ))=some (r1,r2):=by (rw [hy214];with_reducible exact H)
              have Ny214:=ζa hy214
              clear hy214
              simp only [Option.some.injEq,Prod.mk.injEq] at H
              obtain ⟨rfl,rfl⟩:=H
              have p17:0≤(x5_2:Int):=of_decide_eq_true (by (with_reducible assumption))
              have q17:x5_2<(a0.size:Int):=of_decide_eq_true (by (with_reducible assumption))
              have hx17:=bt_at a0 x5_2
              replace p17:=eq_true p17
              replace q17:=eq_true q17
              have p21:0≤((ji18):Int):=of_decide_eq_true (by (with_reducible assumption))
              have q21:(ji18)<(a0.size:Int):=of_decide_eq_true (by (with_reducible assumption))
              have hx21:=bt_at a0 (ji18)
              replace p21:=eq_true p21
              replace q21:=eq_true q21
              go_wp2_with (fail)
              repeat (go_quiet (fail);try go_wp2_with (((with_reducible refine δx (N:=52) rfl ?_);(try (refine gate_guard (by rfl) ?_;dsimp only));refine Kd.R_lit Kd.string _ 9 ?hg (N:=52) ?hd (xs:=([]:List ByteArray)) (inner:=[]) (ok:=fun _=>True) (okp:=fun _=>True) ?hr ?hp (fun _ hk=>hk) trivial (Below.refl _ _) (Nat.le_refl _) (by simp) ?_;(case hd=>rfl);(case hg=>rfl);(case hr=>(go_simp;done));(case hp=>exact (Reps.none _ _));intro v215 w23 ho24 hb hg_ hnew_;clear hg_ hnew_;(rw [← Ny214.out] at ho24);have n0_:=ζa (Kd.R_elder' (by (with_reducible repeat (apply ζc));exact HO_4.out) (Kd.R_base ho24) hb);have n1_:=ζa (Kd.R_lower (Kd.R_new' ho24 (Kd.R_lt (by (with_reducible repeat (apply ζc));exact HO_4.out))) (δs (by repeat ((with_reducible first|exact HB.out|apply δi)))));have n2_:=ζa (δr (by repeat ((with_reducible first|exact HB.out|apply δi))) hb);clear HO_4;clear HB;have HO_4:=n0_;have HO216:=n1_;have HB:=n2_;clear n0_ n1_ n2_;clear hb ho24)))
              go_ret2
              exact ⟨_,by rfl,by exact Kd.R_mono HO216.out (fun _ hk=>trivial),by repeat ((with_reducible exact HB.out))⟩
             ·
              rw [if_neg c22] at H
              have c22b0:decide (1000<(ζm ((ζm ((ζm (bt a0 x5_2)) * 256))+(ζm (bt a0 (ji18))))))=φ:=decide_eq_false c22
              clear c22
              by_cases c25:(ζm ((ζm (x5_2+2))+(ζm ((ζm ((ζm (bt a0 x5_2)) * 256))+(ζm (bt a0 (ji18))))))) > (a0.size:Int)
              ·
               rw [if_pos c25] at H
               have c25b0:decide ((a0.size:Int)<(ζm ((ζm (x5_2+2))+(ζm ((ζm ((ζm (bt a0 x5_2)) * 256))+(ζm (bt a0 (ji18))))))))=τ:=decide_eq_true c25
               clear c25
               obtain ⟨y217,hy217⟩ : ∃ y_:List ByteArray,y_=(([]:List ByteArray)):=⟨_,rfl⟩
               replace H:(some (y217,φ))=some (r1,r2):=by (rw [hy217];with_reducible exact H)
               have Ny217:=ζa hy217
               clear hy217
               simp only [Option.some.injEq,Prod.mk.injEq] at H
               obtain ⟨rfl,rfl⟩:=H
               have p17:0≤(x5_2:Int):=of_decide_eq_true (by (with_reducible assumption))
               have q17:x5_2<(a0.size:Int):=of_decide_eq_true (by (with_reducible assumption))
               have hx17:=bt_at a0 x5_2
               replace p17:=eq_true p17
               replace q17:=eq_true q17
               have p21:0≤((ji18):Int):=of_decide_eq_true (by (with_reducible assumption))
               have q21:(ji18)<(a0.size:Int):=of_decide_eq_true (by (with_reducible assumption))
               have hx21:=bt_at a0 (ji18)
               replace p21:=eq_true p21
               replace q21:=eq_true q21
               go_wp2_with (fail)
               repeat (go_quiet (fail);try go_wp2_with (((with_reducible refine δx (N:=52) rfl ?_);(try (refine gate_guard (by rfl) ?_;dsimp only));refine Kd.R_lit Kd.string _ 9 ?hg (N:=52) ?hd (xs:=([]:List ByteArray)) (inner:=[]) (ok:=fun _=>True) (okp:=fun _=>True) ?hr ?hp (fun _ hk=>hk) trivial (Below.refl _ _) (Nat.le_refl _) (by simp) ?_;(case hd=>rfl);(case hg=>rfl);(case hr=>(go_simp;done));(case hp=>exact (Reps.none _ _));intro v218 w26 ho27 hb hg_ hnew_;clear hg_ hnew_;(rw [← Ny217.out] at ho27);have n0_:=ζa (Kd.R_elder' (by (with_reducible repeat (apply ζc));exact HO_4.out) (Kd.R_base ho27) hb);have n1_:=ζa (Kd.R_lower (Kd.R_new' ho27 (Kd.R_lt (by (with_reducible repeat (apply ζc));exact HO_4.out))) (δs (by repeat ((with_reducible first|exact HB.out|apply δi)))));have n2_:=ζa (δr (by repeat ((with_reducible first|exact HB.out|apply δi))) hb);clear HO_4;clear HB;have HO_4:=n0_;have HO219:=n1_;have HB:=n2_;clear n0_ n1_ n2_;clear hb ho27)))
               go_ret2
               exact ⟨_,by rfl,by exact Kd.R_mono HO219.out (fun _ hk=>trivial),by repeat ((with_reducible exact HB.out))⟩
              ·
               rw [if_neg c25] at H
               have c25b0:decide ((a0.size:Int)<(ζm ((ζm (x5_2+2))+(ζm ((ζm ((ζm (bt a0 x5_2)) * 256))+(ζm (bt a0 (ji18))))))))=φ:=decide_eq_false c25
               clear c25
               obtain ⟨ji28,hji28⟩ : ∃ j_:Int,(ζm (x5_2+2))=j_:=⟨_,rfl⟩
               replace H:(if 0≤(ji28) then (if (ji28)≤(ζm ((ji28)+(ζm ((ζm ((ζm (bt a0 x5_2)) * 256))+(ζm (bt a0 (ji18))))))) then (if (ζm ((ji28)+(ζm ((ζm ((ζm (bt a0 x5_2)) * 256))+(ζm (bt a0 (ji18)))))))≤(a0.size:Int) then (if x4_2.length<8796093022208 then (spec_l02Read.l0 k2 a0 (x4_2 ++ [a0.extract ((ji28):Int).toNat ((ζm ((ji28)+(ζm ((ζm ((ζm (bt a0 x5_2)) * 256))+(ζm (bt a0 (ji18))))))):Int).toNat]) (ζm (x5_2+(ζm (2+(ζm ((ζm ((ζm (bt a0 x5_2)) * 256))+(ζm (bt a0 (ji18))))))))) (ζm (x6_2 - 1))) else (none)) else (none)) else (none)) else (none))=some (r1,r2):=by (rw [hji28] at H;exact H)
               (try rw [hji28] at c12b0)
               (try rw [hji28] at c25b0)
               have hji28w:(IntKind.i64.wrap (x5_2+2))=ji28:=(i64_w _).trans hji28
               by_cases c29:0≤(ji28)
               ·
                rw [if_pos c29] at H
                have c29b0:=eq_true c29
                have c29b1:decide (0≤(ji28))=τ:=decide_eq_true c29
                clear c29
                by_cases c30:(ji28)≤(ζm ((ji28)+(ζm ((ζm ((ζm (bt a0 x5_2)) * 256))+(ζm (bt a0 (ji18)))))))
                ·
                 rw [if_pos c30] at H
                 have c30b0:=eq_true c30
                 have c30b1:decide ((ji28)≤(ζm ((ji28)+(ζm ((ζm ((ζm (bt a0 x5_2)) * 256))+(ζm (bt a0 (ji18))))))))=τ:=decide_eq_true c30
                 by_cases c31:(ζm ((ji28)+(ζm ((ζm ((ζm (bt a0 x5_2)) * 256))+(ζm (bt a0 (ji18)))))))≤(a0.size:Int)
                 ·
                  rw [if_pos c31] at H
                  have c31b0:=eq_true c31
                  have c31b1:decide ((ζm ((ji28)+(ζm ((ζm ((ζm (bt a0 x5_2)) * 256))+(ζm (bt a0 (ji18)))))))≤(a0.size:Int))=τ:=decide_eq_true c31
                  by_cases c32:x4_2.length<8796093022208
                  ·
                   rw [if_pos c32] at H
                   have LMc32:=ζa c32
                   clear c32
                   obtain ⟨y220,hy220⟩ : ∃ y_:List ByteArray,y_=(x4_2 ++ [a0.extract ((ji28):Int).toNat ((ζm ((ji28)+(ζm ((ζm ((ζm (bt a0 x5_2)) * 256))+(ζm (bt a0 (ji18))))))):Int).toNat]):=⟨_,rfl⟩
                   replace H:(spec_l02Read.l0 k2 a0 y220 (ζm (x5_2+(ζm (2+(ζm ((ζm ((ζm (bt a0 x5_2)) * 256))+(ζm (bt a0 (ji18))))))))) (ζm (x6_2 - 1)))=some (r1,r2):=by (rw [hy220];with_reducible exact H)
                   have Ny220:=ζa hy220
                   clear hy220
                   have H':=ζa H
                   clear H
                   have p17:0≤(x5_2:Int):=of_decide_eq_true (by (with_reducible assumption))
                   have q17:x5_2<(a0.size:Int):=of_decide_eq_true (by (with_reducible assumption))
                   have hx17:=bt_at a0 x5_2
                   replace p17:=eq_true p17
                   replace q17:=eq_true q17
                   have p21:0≤((ji18):Int):=of_decide_eq_true (by (with_reducible assumption))
                   have q21:(ji18)<(a0.size:Int):=of_decide_eq_true (by (with_reducible assumption))
                   have hx21:=bt_at a0 (ji18)
                   replace p21:=eq_true p21
                   replace q21:=eq_true q21
                   go_wp2_with (fail)
                   repeat (go_quiet (fail);try go_wp2_with (((with_reducible refine δy (b:=.append) (xs:=#[.tmp 53,.tmp 62]) rfl ?_);(try (refine gate_guard (by rfl) ?_;dsimp only));at_builtin;refine Kd.R_append Kd.string (w0:=w) w.heap.size rfl (.tmp 53) (.tmp 62) 81 9 (.string ⟨#[]⟩) 16 rfl Tryd.underlying81 info9 rfl (by decide) (by omega) u4 x4_2 (a0.extract ((ji28):Int).toNat ((ζm ((ji28)+(ζm ((ζm ((ζm (bt a0 x5_2)) * 256))+(ζm (bt a0 (ji18))))))):Int).toNat) [.string (a0.extract ((ji28):Int).toNat ((ζm ((ji28)+(ζm ((ζm ((ζm (bt a0 x5_2)) * 256))+(ζm (bt a0 (ji18))))))):Int).toNat)] (fun _=>True) (fun _=>False) rfl rfl ?aP (fun _ hk=>hk.elim) ?aF ?aO ?aB ?aS ?aL ?_;(case aP=>exact rfl);(case aB=>exact (by repeat ((with_reducible first|exact HB.out|apply δi))));(case aF=>exact (fun _ _=>trivial));(case aO=>exact (by (with_reducible repeat (apply ζc));exact HO_4.out));(case aS=>exact (δs (by repeat ((with_reducible first|exact HB.out|apply δi)))));(case aL=>have:=LMc32.out;omega);intro v221 w33 ho hb hg hat;rw [← Ny220.out] at ho;have n0_:=ζa (hb);have n1_:=ζa (ho);clear HB;clear HO_4;have HB:=n0_;have HO222:=n1_;clear n0_ n1_;clear ho hb hg hat)))
                   go_roundg k2
                   case measure=>have:=HJ1.out;have:=HK2.out;omega
                   case rel=>exact ⟨(y220),(ζm (x5_2+(ζm (2+(ζm ((ζm ((ζm (bt a0 x5_2)) * 256))+(ζm (bt a0 (ji18))))))))),(ζm (x6_2 - 1)),(by rfl),(by rfl),H',⟨by have:=HJ1.out;have:=HK2.out;omega⟩,⟨by exact HO222.out⟩,⟨by repeat ((with_reducible exact HB.out))⟩⟩
                  ·
                   rw [if_neg c32] at H
                   exact absurd H (by simp)
                 ·
                  rw [if_neg c31] at H
                  exact absurd H (by simp)
                ·
                 rw [if_neg c30] at H
                 exact absurd H (by simp)
               ·
                rw [if_neg c29] at H
                exact absurd H (by simp)
            ·
             rw [if_neg c20] at H
             exact absurd H (by simp)
           ·
            rw [if_neg c19] at H
            exact absurd H (by simp)
          ·
           rw [if_neg c16] at H
           exact absurd H (by simp)
         ·
          rw [if_neg c15] at H
          exact absurd H (by simp)
       ·
        rw [if_neg c11] at H
        have c11b0:decide (0<x6_2)=φ:=decide_eq_false c11
        clear c11
        by_cases c34:x5_2=(a0.size:Int)
        ·
         rw [if_pos c34] at H
         have c34b0:(x5_2 == (a0.size:Int))=τ:=beq_iff_eq.mpr c34
         have c34b1:(x5_2 != (a0.size:Int))=φ:=bne_eq_false_iff_eq.mpr c34
         clear c34
         simp only [Option.some.injEq,Prod.mk.injEq] at H
         obtain ⟨rfl,rfl⟩:=H
         go_wp2
         repeat (go_quiet (fail);try go_wp2)
         go_ret2
         exact ⟨_,by rfl,by exact HO_4.out,by repeat ((with_reducible exact HB.out))⟩
        ·
         rw [if_neg c34] at H
         have c34b0:(x5_2 == (a0.size:Int))=φ:=beq_eq_false_iff_ne.mpr c34
         have c34b1:(x5_2 != (a0.size:Int))=τ:=bne_iff_ne.mpr c34
         obtain ⟨y208,hy208⟩ : ∃ y_:List ByteArray,y_=(([]:List ByteArray)):=⟨_,rfl⟩
         replace H:(some (y208,φ))=some (r1,r2):=by (rw [hy208];with_reducible exact H)
         have Ny208:=ζa hy208
         clear hy208
         simp only [Option.some.injEq,Prod.mk.injEq] at H
         obtain ⟨rfl,rfl⟩:=H
         go_wp2_with (((with_reducible refine δx (N:=72) rfl ?_);(try (refine gate_guard (by rfl) ?_;dsimp only));refine Kd.R_lit Kd.string _ 9 ?hg (N:=72) ?hd (xs:=([]:List ByteArray)) (inner:=[]) (ok:=fun _=>True) (okp:=fun _=>True) ?hr ?hp (fun _ hk=>hk) trivial (Below.refl _ _) (Nat.le_refl _) (by simp) ?_;(case hd=>rfl);(case hg=>rfl);(case hr=>(go_simp;done));(case hp=>exact (Reps.none _ _));intro v209 w35 ho36 hb hg_ hnew_;clear hg_ hnew_;(rw [← Ny208.out] at ho36);have n0_:=ζa (Kd.R_elder' (by exact HO_4.out) (Kd.R_base ho36) hb);have n1_:=ζa (Kd.R_lower (Kd.R_new' ho36 (Kd.R_lt (by exact HO_4.out))) (δs (by exact HB.out)));have n2_:=ζa (δr (by exact HB.out) hb);clear HO_4;clear HB;have HO_4:=n0_;have HO210:=n1_;have HB:=n2_;clear n0_ n1_ n2_;clear hb ho36))
         repeat (go_quiet (fail);try go_wp2_with (fail))
         go_ret2
         exact ⟨_,by rfl,by exact Kd.R_mono HO210.out (fun _ hk=>trivial),by repeat ((with_reducible exact HB.out))⟩
    ·
     rw [if_neg c9] at H
     exact absurd H (by simp)



/-! ### spec_l02Of: function 84 -/
mutual
def spec_l02Of.j0:Nat→ByteArray→Bool→Option (Int)
 | 0,_,_=>none
 | k+1,x0,x19=>if x19=τ then (some (-1)) else (spec_l02Of.l0 k x0 0 0)
def spec_l02Of.l0:Nat→ByteArray→Int→Int→Option (Int)
 | 0,_,_,_=>none
 | k+1,x0,x3,x4=>if x4<(x0.size:Int) then (if 0≤x4 then (if (bt x0 x4)<48 then (spec_l02Of.j2 k x0 x3 x4 τ) else (spec_l02Of.j2 k x0 x3 x4 (decide ((bt x0 x4) > 57)))) else (none)) else (some x3)
def spec_l02Of.j2:Nat→ByteArray→Int→Int→Bool→Option (Int)
 | 0,_,_,_,_=>none
 | k+1,x0,x3,x4,x35=>if x35=τ then (some (-1)) else (if 0≤x4 then (if x4<(x0.size:Int) then (if x3 > ((1000000000000000000 - (((bt x0 x4) - 48) % 256)) / 10) then (some (-1)) else (spec_l02Of.l0 k x0 (ζm ((ζm (x3 * 10))+(((bt x0 x4) - 48) % 256))) (ζm (x4+1)))) else (none)) else (none))
end
def spec_l02Of.f (k:Nat) (a0:ByteArray):Option (Int):=(spec_l01In.f (a0.size:Int) 1 19).bind fun t223=>(if t223=τ then (if (a0.size:Int) > 1 then (if 0<(a0.size:Int) then (spec_l02Of.j0 k a0 ((bt a0 0) == 48)) else (none)) else (spec_l02Of.j0 k a0 φ)) else (spec_l02Of.j0 k a0 τ))
set_option maxHeartbeats 8000000 in
set_option maxRecDepth 100000 in
theorem spec_l02Of.calls (k:Nat) (a0:ByteArray) (r:Int) (w:World) (h:spec_l02Of.f k a0=some r) :
  Calls Tryd.prog 84 #[.string a0] w fun e w'=>e = .returned (.int .i64 r)∧Drawn0 w w':=by
 have H:((spec_l01In.f (a0.size:Int) 1 19).bind fun t223=>(if t223=τ then (if (a0.size:Int) > 1 then (if 0<(a0.size:Int) then (spec_l02Of.j0 k a0 ((bt a0 0) == 48)) else (none)) else (spec_l02Of.j0 k a0 φ)) else (spec_l02Of.j0 k a0 τ)))=some r:=h
 clear h
 have HC2:=ζa H
 clear H
 go_enter Tryd.func84,Tryd.ntmps84
 go_upto_region 1 with (fail)
 go_cut [19] (fun v19 wc => ∃ (kq:Nat) (x19_1:Bool),v19 = .bool x19_1∧Aside0 (spec_l02Of.j0 kq a0 x19_1=some r)∧Aside0 (kq≤k)∧Drawn0 w wc)
 case first =>
  have H:=HC2.out
  clear HC2
  replace H:=Option.bind_eq_some_iff.mp H
  obtain ⟨t223,A30,H⟩:=H
  replace H:(if t223=τ then (if (a0.size:Int) > 1 then (if 0<(a0.size:Int) then (spec_l02Of.j0 k a0 ((bt a0 0) == 48)) else (none)) else (spec_l02Of.j0 k a0 φ)) else (spec_l02Of.j0 k a0 τ))=some r:=H
  have A3:=ζa A30
  clear A30
  by_cases c4:t223=τ
  ·
   subst c4
   have H1:(if (a0.size:Int) > 1 then (if 0<(a0.size:Int) then (spec_l02Of.j0 k a0 ((bt a0 0) == 48)) else (none)) else (spec_l02Of.j0 k a0 φ))=some r:=by rw [if_pos rfl] at H;exact H
   clear H
   have H:=H1
   clear H1
   by_cases c5:(a0.size:Int) > 1
   ·
    rw [if_pos c5] at H
    have c5b0:decide (1<(a0.size:Int))=τ:=decide_eq_true c5
    have c5b1:decide (1<a0.size)=τ:=decide_eq_true (by omega)
    clear c5
    (skip)
    by_cases c6:0<(a0.size:Int)
    ·
     rw [if_pos c6] at H
     have c6b0:decide (0<(a0.size:Int))=τ:=decide_eq_true c6
     have c6b1:decide (0<a0.size)=τ:=decide_eq_true (by omega)
     clear c6
     have H':=ζa H
     clear H
     go_wp2_with (((with_reducible refine δv (f:=33) rfl ?_);refine goesL_ (some 8) rfl rfl Tryd.func33 (by kernel_rfl) rfl #[.int .i64 (a0.size:Int),.int .i64 1,.int .i64 19] rfl (by (try simp only [δd,δe,δf]);rfl) ?_;(with_reducible refine (spec_l01In.calls (a0.size:Int) 1 19 τ _ A3.out).mono ?_);rintro e w' ⟨rfl,⟨nd,rfl⟩⟩;refine ⟨_,rfl,?_⟩;have p7:0≤(0:Int):=(by omega);have q7:0<a0.size:=(by have:(0:Int)<(a0.size:Int):=of_decide_eq_true (by (with_reducible assumption));omega);have hx7 : ∀ h:0<a0.size,((a0[0]'h).toNat:Int)=bt a0 0:=bt_at a0 0;clear p7;have qi7:(0<(a0.size:Int))=True:=eq_true (of_decide_eq_true (by (with_reducible assumption)));replace q7:=eq_true q7))
     go_meet
     case rel=>exact ⟨_,(((bt a0 0) == 48)),(by rfl),H',⟨by omega⟩,by repeat (first|exact Drawn0.refl _|apply Drawn0.step)⟩
    ·
     rw [if_neg c6] at H
     exact absurd H (by simp)
   ·
    rw [if_neg c5] at H
    have c5b0:decide (1<(a0.size:Int))=φ:=decide_eq_false c5
    have c5b1:decide (1<a0.size)=φ:=decide_eq_false (by omega)
    clear c5
    (skip)
    have H':=ζa H
    clear H
    go_wp2_with (((with_reducible refine δv (f:=33) rfl ?_);refine goesL_ (some 8) rfl rfl Tryd.func33 (by kernel_rfl) rfl #[.int .i64 (a0.size:Int),.int .i64 1,.int .i64 19] rfl (by (try simp only [δd,δe,δf]);rfl) ?_;(with_reducible refine (spec_l01In.calls (a0.size:Int) 1 19 τ _ A3.out).mono ?_);rintro e w' ⟨rfl,⟨nd,rfl⟩⟩;refine ⟨_,rfl,?_⟩))
    go_meet
    case rel=>exact ⟨_,(φ),(by rfl),H',⟨by omega⟩,by repeat (first|exact Drawn0.refl _|apply Drawn0.step)⟩
  ·
   replace c4:=Bool.eq_false_iff.mpr c4
   subst c4
   have H1:(spec_l02Of.j0 k a0 τ)=some r:=by rw [if_neg (show ¬ (φ=τ) by decide)] at H;exact H
   clear H
   have H:=H1
   clear H1
   have H':=ζa H
   clear H
   go_wp2_with (((with_reducible refine δv (f:=33) rfl ?_);refine goesL_ (some 8) rfl rfl Tryd.func33 (by kernel_rfl) rfl #[.int .i64 (a0.size:Int),.int .i64 1,.int .i64 19] rfl (by (try simp only [δd,δe,δf]);rfl) ?_;(with_reducible refine (spec_l01In.calls (a0.size:Int) 1 19 φ _ A3.out).mono ?_);rintro e w' ⟨rfl,⟨nd,rfl⟩⟩;refine ⟨_,rfl,?_⟩))
   go_meet
   case rel=>exact ⟨_,(τ),(by rfl),H',⟨by omega⟩,by repeat (first|exact Drawn0.refl _|apply Drawn0.step)⟩
 case rest =>
  clear HC2
  try clear p2
  try clear c3
  try clear c4
  try clear c5
  try clear c5b0
  try clear c5b1
  try clear c6
  try clear c6b0
  try clear c6b1
  try clear p7
  try clear q7
  try clear hx7
  try clear qi7
  try clear p7
  try clear q7
  obtain ⟨kq,x19_1,rfl,HA,HJ1,⟨mc1,rfl⟩⟩:=hcut
  cases kq with
  | zero=>exact absurd HA.out (by simp [spec_l02Of.j0])
  | succ kj1 =>
   have H:=HA.out
   clear HA
   simp only [spec_l02Of.j0] at H
   by_cases c8:x19_1=τ
   ·
    subst c8
    have H1:(some (-1))=some r:=by rw [if_pos rfl] at H;exact H
    clear H
    have H:=H1
    clear H1
    obtain rfl:=Option.some.inj H
    go_wp2
    go_ret
    exact ⟨by rfl,by repeat (first|exact Drawn0.refl _|apply Drawn0.step)⟩
   ·
    replace c8:=Bool.eq_false_iff.mpr c8
    subst c8
    have H1:(spec_l02Of.l0 kj1 a0 0 0)=some r:=by rw [if_neg (show ¬ (φ=τ) by decide)] at H;exact H
    clear H
    have H:=H1
    clear H1
    have H':=ζa H
    clear H
    go_wp2
    go_loopg [3,4] kj1 (fun kq v3 v4 w' => ∃ (x3_2:Int) (x4_2:Int),v3 = .int .i64 x3_2∧v4 = .int .i64 x4_2∧Aside0 (spec_l02Of.l0 kq a0 x3_2 x4_2=some r)∧Aside0 (kq≤kj1)∧Drawn0 w w')
    case atStart=>exact ⟨(0),(0),(by rfl),(by rfl),H',⟨Nat.le_refl _⟩,by repeat (first|exact Drawn0.refl _|apply Drawn0.step)⟩
    case round =>
     clear H'
     try clear c1
     try clear p2
     try clear c3
     try clear c4
     try clear c5
     try clear c5b0
     try clear c5b1
     try clear c6
     try clear c6b0
     try clear c6b1
     try clear p7
     try clear q7
     try clear hx7
     try clear qi7
     try clear c8
     try clear p2
     try clear p7
     try clear q7
     obtain ⟨x3_2,x4_2,rfl,rfl,HA,HK2,⟨m2,rfl⟩⟩:=hrel
     cases gk with
     | zero=>exact absurd HA.out (by simp [spec_l02Of.l0])
     | succ k2 =>
      have H:=HA.out
      clear HA
      simp only [spec_l02Of.l0] at H
      by_cases c9:x4_2<(a0.size:Int)
      ·
       rw [if_pos c9] at H
       have c9b0:decide (x4_2<(a0.size:Int))=τ:=decide_eq_true c9
       clear c9
       have HC10:=ζa H
       clear H
       go_upto_region 7 with (fail)
       go_cut [35] (fun v35 wc => ∃ (kq:Nat) (x35_9:Bool),v35 = .bool x35_9∧Aside0 (spec_l02Of.j2 kq a0 x3_2 x4_2 x35_9=some r)∧Aside0 (kq≤k2)∧Drawn0 w wc)
       case first =>
        have H:=HC10.out
        clear HC10
        by_cases c11:0≤x4_2
        ·
         rw [if_pos c11] at H
         have c11b0:decide (0≤x4_2)=τ:=decide_eq_true c11
         clear c11
         (skip)
         by_cases c13:(bt a0 x4_2)<48
         ·
          rw [if_pos c13] at H
          have c13b0:decide ((bt a0 x4_2)<48)=τ:=decide_eq_true c13
          clear c13
          have H':=ζa H
          clear H
          have p12:0≤(x4_2:Int):=of_decide_eq_true (by (with_reducible assumption))
          have q12:x4_2<(a0.size:Int):=of_decide_eq_true (by (with_reducible assumption))
          have hx12:=bt_at a0 x4_2
          replace p12:=eq_true p12
          replace q12:=eq_true q12
          go_wp2
          go_meet
          case rel=>exact ⟨_,(τ),(by rfl),H',⟨by have:=HJ1.out;have:=HK2.out;omega⟩,by repeat (first|exact Drawn0.refl _|apply Drawn0.step)⟩
         ·
          rw [if_neg c13] at H
          have c13b0:decide ((bt a0 x4_2)<48)=φ:=decide_eq_false c13
          clear c13
          have H':=ζa H
          clear H
          have p12:0≤(x4_2:Int):=of_decide_eq_true (by (with_reducible assumption))
          have q12:x4_2<(a0.size:Int):=of_decide_eq_true (by (with_reducible assumption))
          have hx12:=bt_at a0 x4_2
          replace p12:=eq_true p12
          replace q12:=eq_true q12
          have p14:0≤(x4_2:Int):=of_decide_eq_true (by (with_reducible assumption))
          have q14:x4_2<(a0.size:Int):=of_decide_eq_true (by (with_reducible assumption))
          have hx14:=bt_at a0 x4_2
          replace p14:=eq_true p14
          replace q14:=eq_true q14
          go_wp2
          go_meet
          case rel=>exact ⟨_,(decide ((bt a0 x4_2) > 57)),(by rfl),H',⟨by have:=HJ1.out;have:=HK2.out;omega⟩,by repeat (first|exact Drawn0.refl _|apply Drawn0.step)⟩
        ·
         rw [if_neg c11] at H
         exact absurd H (by simp)
       case rest =>
        clear HC10
        try clear c1
        try clear p1
        try clear q1
        try clear hx1
        try clear p2
        try clear c3
        try clear c4
        try clear c5
        try clear c5b0
        try clear c5b1
        try clear c6
        try clear c6b0
        try clear c6b1
        try clear p7
        try clear q7
        try clear hx7
        try clear qi7
        try clear c8
        try clear c9
        try clear c9b0
        try clear c11
        try clear c11b0
        try clear p12
        try clear q12
        try clear hx12
        try clear c13
        try clear c13b0
        try clear p14
        try clear q14
        try clear hx14
        try clear p12
        try clear p14
        try clear p2
        try clear p7
        try clear q12
        try clear q14
        try clear q7
        obtain ⟨kq,x35_9,rfl,HA,HJ9,⟨mc9,rfl⟩⟩:=hcut
        cases kq with
        | zero=>exact absurd HA.out (by simp [spec_l02Of.j2])
        | succ kj9 =>
         have H:=HA.out
         clear HA
         simp only [spec_l02Of.j2] at H
         by_cases c15:x35_9=τ
         ·
          subst c15
          have H1:(some (-1))=some r:=by rw [if_pos rfl] at H;exact H
          clear H
          have H:=H1
          clear H1
          obtain rfl:=Option.some.inj H
          go_wp2
          go_ret
          exact ⟨by rfl,by repeat (first|exact Drawn0.refl _|apply Drawn0.step)⟩
         ·
          replace c15:=Bool.eq_false_iff.mpr c15
          subst c15
          have H1:(if 0≤x4_2 then (if x4_2<(a0.size:Int) then (if x3_2 > ((1000000000000000000 - (((bt a0 x4_2) - 48) % 256)) / 10) then (some (-1)) else (spec_l02Of.l0 kj9 a0 (ζm ((ζm (x3_2 * 10))+(((bt a0 x4_2) - 48) % 256))) (ζm (x4_2+1)))) else (none)) else (none))=some r:=by rw [if_neg (show ¬ (φ=τ) by decide)] at H;exact H
          clear H
          have H:=H1
          clear H1
          by_cases c16:0≤x4_2
          ·
           rw [if_pos c16] at H
           have c16b0:decide (0≤x4_2)=τ:=decide_eq_true c16
           clear c16
           by_cases c17:x4_2<(a0.size:Int)
           ·
            rw [if_pos c17] at H
            have c17b0:decide (x4_2<(a0.size:Int))=τ:=decide_eq_true c17
            clear c17
            by_cases c19:x3_2 > ((1000000000000000000 - (((bt a0 x4_2) - 48) % 256)) / 10)
            ·
             rw [if_pos c19] at H
             have c19b0:decide (((1000000000000000000 - (((bt a0 x4_2) - 48) % 256)) / 10)<x3_2)=τ:=decide_eq_true c19
             clear c19
             obtain rfl:=Option.some.inj H
             have p18:0≤(x4_2:Int):=of_decide_eq_true (by (with_reducible assumption))
             have q18:x4_2<(a0.size:Int):=of_decide_eq_true (by (with_reducible assumption))
             have hx18:=bt_at a0 x4_2
             replace p18:=eq_true p18
             replace q18:=eq_true q18
             go_wp2
             go_ret
             exact ⟨by rfl,by repeat (first|exact Drawn0.refl _|apply Drawn0.step)⟩
            ·
             rw [if_neg c19] at H
             have c19b0:decide (((1000000000000000000 - (((bt a0 x4_2) - 48) % 256)) / 10)<x3_2)=φ:=decide_eq_false c19
             clear c19
             have H':=ζa H
             clear H
             have p18:0≤(x4_2:Int):=of_decide_eq_true (by (with_reducible assumption))
             have q18:x4_2<(a0.size:Int):=of_decide_eq_true (by (with_reducible assumption))
             have hx18:=bt_at a0 x4_2
             replace p18:=eq_true p18
             replace q18:=eq_true q18
             go_wp2
             go_roundg kj9
             case measure=>have:=HJ1.out;have:=HK2.out;have:=HJ9.out;omega
             case rel=>exact ⟨(ζm ((ζm (x3_2 * 10))+(((bt a0 x4_2) - 48) % 256))),(ζm (x4_2+1)),(by rfl),(by rfl),H',⟨by have:=HJ1.out;have:=HK2.out;have:=HJ9.out;omega⟩,by repeat (first|exact Drawn0.refl _|apply Drawn0.step)⟩
           ·
            rw [if_neg c17] at H
            exact absurd H (by simp)
          ·
           rw [if_neg c16] at H
           exact absurd H (by simp)
      ·
       rw [if_neg c9] at H
       have c9b0:decide (x4_2<(a0.size:Int))=φ:=decide_eq_false c9
       clear c9
       obtain rfl:=Option.some.inj H
       go_wp2
       go_ret
       exact ⟨by rfl,by repeat (first|exact Drawn0.refl _|apply Drawn0.step)⟩



/-! ### spec_l00Letter: function 152 -/
def spec_l00Letter.f (a0:Int):Option (Bool):=if a0 ≥ 97 then (if a0≤122 then (some τ) else (if a0 ≥ 65 then (if a0≤90 then (some τ) else (some (a0 == 95))) else (some (a0 == 95)))) else (if a0 ≥ 65 then (if a0≤90 then (some τ) else (some (a0 == 95))) else (some (a0 == 95)))
set_option maxHeartbeats 8000000 in
set_option maxRecDepth 100000 in
theorem spec_l00Letter.calls (a0:Int) (r:Bool) (w:World) (h:spec_l00Letter.f a0=some r) :
  Calls Tryd.prog 152 #[.int .u8 a0] w fun e w'=>e = .returned (.bool r)∧Drawn0 w w':=by
 have H:(if a0 ≥ 97 then (if a0≤122 then (some τ) else (if a0 ≥ 65 then (if a0≤90 then (some τ) else (some (a0 == 95))) else (some (a0 == 95)))) else (if a0 ≥ 65 then (if a0≤90 then (some τ) else (some (a0 == 95))) else (some (a0 == 95))))=some r:=h
 clear h
 by_cases c2:a0 ≥ 97
 ·
  rw [if_pos c2] at H
  have c2b0:decide (97≤a0)=τ:=decide_eq_true c2
  clear c2
  by_cases c3:a0≤122
  ·
   rw [if_pos c3] at H
   have c3b0:decide (a0≤122)=τ:=decide_eq_true c3
   clear c3
   obtain rfl:=Option.some.inj H
   go_enter Tryd.func152,Tryd.ntmps152
   go_wp2
   go_ret
   exact ⟨by first|rfl|(simp;done)|(simp [*];done),by repeat (first|exact Drawn0.refl _|apply Drawn0.step)⟩
  ·
   rw [if_neg c3] at H
   have c3b0:decide (a0≤122)=φ:=decide_eq_false c3
   clear c3
   by_cases c4:a0 ≥ 65
   ·
    rw [if_pos c4] at H
    have c4b0:decide (65≤a0)=τ:=decide_eq_true c4
    clear c4
    by_cases c5:a0≤90
    ·
     rw [if_pos c5] at H
     have c5b0:decide (a0≤90)=τ:=decide_eq_true c5
     clear c5
     obtain rfl:=Option.some.inj H
     go_enter Tryd.func152,Tryd.ntmps152
     go_wp2
     go_ret
     exact ⟨by first|rfl|(simp;done)|(simp [*];done),by repeat (first|exact Drawn0.refl _|apply Drawn0.step)⟩
    ·
     rw [if_neg c5] at H
     have c5b0:decide (a0≤90)=φ:=decide_eq_false c5
     clear c5
     obtain rfl:=Option.some.inj H
     go_enter Tryd.func152,Tryd.ntmps152
     go_wp2
     go_ret
     exact ⟨by first|rfl|(simp;done)|(simp [*];done),by repeat (first|exact Drawn0.refl _|apply Drawn0.step)⟩
   ·
    rw [if_neg c4] at H
    have c4b0:decide (65≤a0)=φ:=decide_eq_false c4
    clear c4
    obtain rfl:=Option.some.inj H
    go_enter Tryd.func152,Tryd.ntmps152
    go_wp2
    go_ret
    exact ⟨by first|rfl|(simp;done)|(simp [*];done),by repeat (first|exact Drawn0.refl _|apply Drawn0.step)⟩
 ·
  rw [if_neg c2] at H
  have c2b0:decide (97≤a0)=φ:=decide_eq_false c2
  clear c2
  by_cases c6:a0 ≥ 65
  ·
   rw [if_pos c6] at H
   have c6b0:decide (65≤a0)=τ:=decide_eq_true c6
   clear c6
   by_cases c7:a0≤90
   ·
    rw [if_pos c7] at H
    have c7b0:decide (a0≤90)=τ:=decide_eq_true c7
    clear c7
    obtain rfl:=Option.some.inj H
    go_enter Tryd.func152,Tryd.ntmps152
    go_wp2
    go_ret
    exact ⟨by first|rfl|(simp;done)|(simp [*];done),by repeat (first|exact Drawn0.refl _|apply Drawn0.step)⟩
   ·
    rw [if_neg c7] at H
    have c7b0:decide (a0≤90)=φ:=decide_eq_false c7
    clear c7
    obtain rfl:=Option.some.inj H
    go_enter Tryd.func152,Tryd.ntmps152
    go_wp2
    go_ret
    exact ⟨by first|rfl|(simp;done)|(simp [*];done),by repeat (first|exact Drawn0.refl _|apply Drawn0.step)⟩
  ·
   rw [if_neg c6] at H
   have c6b0:decide (65≤a0)=φ:=decide_eq_false c6
   clear c6
   obtain rfl:=Option.some.inj H
   go_enter Tryd.func152,Tryd.ntmps152
   go_wp2
   go_ret
   exact ⟨by first|rfl|(simp;done)|(simp [*];done),by repeat (first|exact Drawn0.refl _|apply Drawn0.step)⟩



/-! ### spec_l00Digit: function 153 -/
def spec_l00Digit.f (a0:Int):Option (Bool):=if a0 ≥ 48 then (some (decide (a0≤57))) else (some φ)
set_option maxHeartbeats 8000000 in
set_option maxRecDepth 100000 in
theorem spec_l00Digit.calls (a0:Int) (r:Bool) (w:World) (h:spec_l00Digit.f a0=some r) :
  Calls Tryd.prog 153 #[.int .u8 a0] w fun e w'=>e = .returned (.bool r)∧Drawn0 w w':=by
 have H:(if a0 ≥ 48 then (some (decide (a0≤57))) else (some φ))=some r:=h
 clear h
 by_cases c2:a0 ≥ 48
 ·
  rw [if_pos c2] at H
  have c2b0:decide (48≤a0)=τ:=decide_eq_true c2
  clear c2
  obtain rfl:=Option.some.inj H
  go_enter Tryd.func153,Tryd.ntmps153
  go_wp2
  go_ret
  exact ⟨by first|rfl|(simp;done)|(simp [*];done),by repeat (first|exact Drawn0.refl _|apply Drawn0.step)⟩
 ·
  rw [if_neg c2] at H
  have c2b0:decide (48≤a0)=φ:=decide_eq_false c2
  clear c2
  obtain rfl:=Option.some.inj H
  go_enter Tryd.func153,Tryd.ntmps153
  go_wp2
  go_ret
  exact ⟨by first|rfl|(simp;done)|(simp [*];done),by repeat (first|exact Drawn0.refl _|apply Drawn0.step)⟩



/-! ### spec_l00Word: function 134 -/
mutual
def spec_l00Word.j0:Nat→ByteArray→Bool→Option (Bool)
 | 0,_,_=>none
 | k+1,x0,x17=>if x17=τ then (some φ) else (spec_l00Word.l0 k x0 1)
def spec_l00Word.l0:Nat→ByteArray→Int→Option (Bool)
 | 0,_,_=>none
 | k+1,x0,x3=>if x3<(x0.size:Int) then (if 0≤x3 then ((spec_l00Letter.f (bt x0 x3)).bind fun t102=>(if t102=τ then (spec_l00Word.l0 k x0 (ζm (x3+1))) else ((spec_l00Digit.f (bt x0 x3)).bind fun t103=>(if t103=τ then (spec_l00Word.l0 k x0 (ζm (x3+1))) else (some φ))))) else (none)) else (some τ)
end
def spec_l00Word.f (k:Nat) (a0:ByteArray):Option (Bool):=if (a0.size:Int)<1 then (spec_l00Word.j0 k a0 τ) else (if (a0.size:Int) > 40 then (spec_l00Word.j0 k a0 τ) else (if 0<(a0.size:Int) then ((spec_l00Letter.f (bt a0 0)).bind fun t101=>(spec_l00Word.j0 k a0 (!t101))) else (none)))
set_option maxHeartbeats 8000000 in
set_option maxRecDepth 100000 in
theorem spec_l00Word.calls (k:Nat) (a0:ByteArray) (r:Bool) (w:World) (h:spec_l00Word.f k a0=some r) :
  Calls Tryd.prog 134 #[.string a0] w fun e w'=>e = .returned (.bool r)∧Drawn0 w w':=by
 have H:(if (a0.size:Int)<1 then (spec_l00Word.j0 k a0 τ) else (if (a0.size:Int) > 40 then (spec_l00Word.j0 k a0 τ) else (if 0<(a0.size:Int) then ((spec_l00Letter.f (bt a0 0)).bind fun t101=>(spec_l00Word.j0 k a0 (!t101))) else (none))))=some r:=h
 clear h
 have HC2:=ζa H
 clear H
 go_enter Tryd.func134,Tryd.ntmps134
 go_upto_region 1 with (fail)
 go_cut [17] (fun v17 wc => ∃ (kq:Nat) (x17_1:Bool),v17 = .bool x17_1∧Aside0 (spec_l00Word.j0 kq a0 x17_1=some r)∧Aside0 (kq≤k)∧Drawn0 w wc)
 case first =>
  have H:=HC2.out
  clear HC2
  by_cases c3:(a0.size:Int)<1
  ·
   rw [if_pos c3] at H
   have c3b0:decide ((a0.size:Int)<1)=τ:=decide_eq_true c3
   have c3b1:decide (a0.size<1)=τ:=decide_eq_true (by omega)
   clear c3
   (skip)
   have H':=ζa H
   clear H
   go_wp2
   go_meet
   case rel=>exact ⟨_,(τ),(by rfl),H',⟨by omega⟩,by repeat (exact Drawn0.refl _)⟩
  ·
   rw [if_neg c3] at H
   have c3b0:decide ((a0.size:Int)<1)=φ:=decide_eq_false c3
   have c3b1:decide (a0.size<1)=φ:=decide_eq_false (by omega)
   clear c3
   (skip)
   by_cases c4:(a0.size:Int) > 40
   ·
    rw [if_pos c4] at H
    have c4b0:decide (40<(a0.size:Int))=τ:=decide_eq_true c4
    have c4b1:decide (40<a0.size)=τ:=decide_eq_true (by omega)
    clear c4
    have H':=ζa H
    clear H
    go_wp2
    go_meet
    case rel=>exact ⟨_,(τ),(by rfl),H',⟨by omega⟩,by repeat (exact Drawn0.refl _)⟩
   ·
    rw [if_neg c4] at H
    have c4b0:decide (40<(a0.size:Int))=φ:=decide_eq_false c4
    have c4b1:decide (40<a0.size)=φ:=decide_eq_false (by omega)
    clear c4
    by_cases c5:0<(a0.size:Int)
    ·
     rw [if_pos c5] at H
     have c5b0:decide (0<(a0.size:Int))=τ:=decide_eq_true c5
     have c5b1:decide (0<a0.size)=τ:=decide_eq_true (by omega)
     clear c5
     replace H:=Option.bind_eq_some_iff.mp H
     obtain ⟨t101,A70,H⟩:=H
     replace H:(spec_l00Word.j0 k a0 (!t101))=some r:=H
     have A7:=ζa A70
     clear A70
     have H':=ζa H
     clear H
     have p6:0≤(0:Int):=(by omega)
     have q6:0<a0.size:=(by have:(0:Int)<(a0.size:Int):=of_decide_eq_true (by (with_reducible assumption));omega)
     have hx6 : ∀ h:0<a0.size,((a0[0]'h).toNat:Int)=bt a0 0:=bt_at a0 0
     clear p6
     have qi6:(0<(a0.size:Int))=True:=eq_true (of_decide_eq_true (by (with_reducible assumption)))
     replace q6:=eq_true q6
     go_wp2_with ((go_at_call 152;(with_reducible refine (spec_l00Letter.calls (bt a0 0) t101 _ A7.out).mono ?_);rintro e w' ⟨rfl,⟨nd,rfl⟩⟩))
     go_meet
     case rel=>exact ⟨_,(!t101),(by rfl),H',⟨by omega⟩,by repeat (first|exact Drawn0.refl _|apply Drawn0.step)⟩
    ·
     rw [if_neg c5] at H
     exact absurd H (by simp)
 case rest =>
  clear HC2
  try clear c1
  try clear p2
  try clear c3
  try clear c3b0
  try clear c3b1
  try clear c4
  try clear c4b0
  try clear c4b1
  try clear c5
  try clear c5b0
  try clear c5b1
  try clear p6
  try clear q6
  try clear hx6
  try clear qi6
  try clear p6
  try clear q6
  obtain ⟨kq,x17_1,rfl,HA,HJ1,⟨mc1,rfl⟩⟩:=hcut
  cases kq with
  | zero=>exact absurd HA.out (by simp [spec_l00Word.j0])
  | succ kj1 =>
   have H:=HA.out
   clear HA
   simp only [spec_l00Word.j0] at H
   by_cases c8:x17_1=τ
   ·
    subst c8
    have H1:(some φ)=some r:=by rw [if_pos rfl] at H;exact H
    clear H
    have H:=H1
    clear H1
    obtain rfl:=Option.some.inj H
    go_wp2
    go_ret
    exact ⟨by rfl,by repeat (first|exact Drawn0.refl _|apply Drawn0.step)⟩
   ·
    replace c8:=Bool.eq_false_iff.mpr c8
    subst c8
    have H1:(spec_l00Word.l0 kj1 a0 1)=some r:=by rw [if_neg (show ¬ (φ=τ) by decide)] at H;exact H
    clear H
    have H:=H1
    clear H1
    have H':=ζa H
    clear H
    go_wp2
    go_loopg [3] kj1 (fun kq v3 w' => ∃ (x3_2:Int),v3 = .int .i64 x3_2∧Aside0 (spec_l00Word.l0 kq a0 x3_2=some r)∧Aside0 (kq≤kj1)∧Drawn0 w w')
    case atStart=>exact ⟨(1),(by rfl),H',⟨Nat.le_refl _⟩,by repeat (first|exact Drawn0.refl _|apply Drawn0.step)⟩
    case round =>
     clear H'
     try clear c1
     try clear p2
     try clear c3
     try clear c3b0
     try clear c3b1
     try clear c4
     try clear c4b0
     try clear c4b1
     try clear c5
     try clear c5b0
     try clear c5b1
     try clear p6
     try clear q6
     try clear hx6
     try clear qi6
     try clear c8
     try clear p2
     try clear p6
     try clear q6
     obtain ⟨x3_2,rfl,HA,HK2,⟨m2,rfl⟩⟩:=hrel
     cases gk with
     | zero=>exact absurd HA.out (by simp [spec_l00Word.l0])
     | succ k2 =>
      have H:=HA.out
      clear HA
      simp only [spec_l00Word.l0] at H
      by_cases c9:x3_2<(a0.size:Int)
      ·
       rw [if_pos c9] at H
       have c9b0:decide (x3_2<(a0.size:Int))=τ:=decide_eq_true c9
       clear c9
       by_cases c10:0≤x3_2
       ·
        rw [if_pos c10] at H
        have c10b0:decide (0≤x3_2)=τ:=decide_eq_true c10
        clear c10
        replace H:=Option.bind_eq_some_iff.mp H
        obtain ⟨t102,A120,H⟩:=H
        replace H:(if t102=τ then (spec_l00Word.l0 k2 a0 (ζm (x3_2+1))) else ((spec_l00Digit.f (bt a0 x3_2)).bind fun t103=>(if t103=τ then (spec_l00Word.l0 k2 a0 (ζm (x3_2+1))) else (some φ))))=some r:=H
        have A12:=ζa A120
        clear A120
        by_cases c13:t102=τ
        ·
         subst c13
         have H1:(spec_l00Word.l0 k2 a0 (ζm (x3_2+1)))=some r:=by rw [if_pos rfl] at H;exact H
         clear H
         have H:=H1
         clear H1
         have H':=ζa H
         clear H
         have p11:0≤(x3_2:Int):=of_decide_eq_true (by (with_reducible assumption))
         have q11:x3_2<(a0.size:Int):=of_decide_eq_true (by (with_reducible assumption))
         have hx11:=bt_at a0 x3_2
         replace p11:=eq_true p11
         replace q11:=eq_true q11
         go_wp2_with (((with_reducible refine δv (f:=152) rfl ?_);refine goesL_ (some 27) rfl rfl Tryd.func152 (by kernel_rfl) rfl #[.int .u8 (bt a0 x3_2)] rfl (by (try simp only [δd,δe,δf]);rfl) ?_;(with_reducible refine (spec_l00Letter.calls (bt a0 x3_2) τ _ A12.out).mono ?_);rintro e w' ⟨rfl,⟨nd,rfl⟩⟩;refine ⟨_,rfl,?_⟩))
         go_roundg k2
         case measure=>have:=HJ1.out;have:=HK2.out;omega
         case rel=>exact ⟨(ζm (x3_2+1)),(by rfl),H',⟨by have:=HJ1.out;have:=HK2.out;omega⟩,by repeat (first|exact Drawn0.refl _|apply Drawn0.step)⟩
        ·
         replace c13:=Bool.eq_false_iff.mpr c13
         subst c13
         have H1:((spec_l00Digit.f (bt a0 x3_2)).bind fun t103=>(if t103=τ then (spec_l00Word.l0 k2 a0 (ζm (x3_2+1))) else (some φ)))=some r:=by rw [if_neg (show ¬ (φ=τ) by decide)] at H;exact H
         clear H
         have H:=H1
         clear H1
         replace H:=Option.bind_eq_some_iff.mp H
         obtain ⟨t103,A150,H⟩:=H
         replace H:(if t103=τ then (spec_l00Word.l0 k2 a0 (ζm (x3_2+1))) else (some φ))=some r:=H
         have A15:=ζa A150
         clear A150
         by_cases c16:t103=τ
         ·
          subst c16
          have H1:(spec_l00Word.l0 k2 a0 (ζm (x3_2+1)))=some r:=by rw [if_pos rfl] at H;exact H
          clear H
          have H:=H1
          clear H1
          have H':=ζa H
          clear H
          have p11:0≤(x3_2:Int):=of_decide_eq_true (by (with_reducible assumption))
          have q11:x3_2<(a0.size:Int):=of_decide_eq_true (by (with_reducible assumption))
          have hx11:=bt_at a0 x3_2
          replace p11:=eq_true p11
          replace q11:=eq_true q11
          go_wp2_with (first|((with_reducible refine δv (f:=152) rfl ?_);refine goesL_ (some 27) rfl rfl Tryd.func152 (by kernel_rfl) rfl #[.int .u8 (bt a0 x3_2)] rfl (by (try simp only [δd,δe,δf]);rfl) ?_;(with_reducible refine (spec_l00Letter.calls (bt a0 x3_2) φ _ A12.out).mono ?_);rintro e w' ⟨rfl,⟨nd,rfl⟩⟩;refine ⟨_,rfl,?_⟩;have p14:0≤(x3_2:Int):=of_decide_eq_true (by (with_reducible assumption));have q14:x3_2<(a0.size:Int):=of_decide_eq_true (by (with_reducible assumption));have hx14:=bt_at a0 x3_2;replace p14:=eq_true p14;replace q14:=eq_true q14)|(go_at_call 153;(with_reducible refine (spec_l00Digit.calls (bt a0 x3_2) τ _ A15.out).mono ?_);rintro e w' ⟨rfl,⟨nd,rfl⟩⟩))
          go_roundg k2
          case measure=>have:=HJ1.out;have:=HK2.out;omega
          case rel=>exact ⟨(ζm (x3_2+1)),(by rfl),H',⟨by have:=HJ1.out;have:=HK2.out;omega⟩,by repeat (first|exact Drawn0.refl _|apply Drawn0.step)⟩
         ·
          replace c16:=Bool.eq_false_iff.mpr c16
          subst c16
          have H1:(some φ)=some r:=by rw [if_neg (show ¬ (φ=τ) by decide)] at H;exact H
          clear H
          have H:=H1
          clear H1
          obtain rfl:=Option.some.inj H
          have p11:0≤(x3_2:Int):=of_decide_eq_true (by (with_reducible assumption))
          have q11:x3_2<(a0.size:Int):=of_decide_eq_true (by (with_reducible assumption))
          have hx11:=bt_at a0 x3_2
          replace p11:=eq_true p11
          replace q11:=eq_true q11
          go_wp2_with (first|((with_reducible refine δv (f:=152) rfl ?_);refine goesL_ (some 27) rfl rfl Tryd.func152 (by kernel_rfl) rfl #[.int .u8 (bt a0 x3_2)] rfl (by (try simp only [δd,δe,δf]);rfl) ?_;(with_reducible refine (spec_l00Letter.calls (bt a0 x3_2) φ _ A12.out).mono ?_);rintro e w' ⟨rfl,⟨nd,rfl⟩⟩;refine ⟨_,rfl,?_⟩;have p14:0≤(x3_2:Int):=of_decide_eq_true (by (with_reducible assumption));have q14:x3_2<(a0.size:Int):=of_decide_eq_true (by (with_reducible assumption));have hx14:=bt_at a0 x3_2;replace p14:=eq_true p14;replace q14:=eq_true q14)|(go_at_call 153;(with_reducible refine (spec_l00Digit.calls (bt a0 x3_2) φ _ A15.out).mono ?_);rintro e w' ⟨rfl,⟨nd,rfl⟩⟩))
          go_ret
          exact ⟨by rfl,by repeat (first|exact Drawn0.refl _|apply Drawn0.step)⟩
       ·
        rw [if_neg c10] at H
        exact absurd H (by simp)
      ·
       rw [if_neg c9] at H
       have c9b0:decide (x3_2<(a0.size:Int))=φ:=decide_eq_false c9
       clear c9
       obtain rfl:=Option.some.inj H
       go_wp2
       go_ret
       exact ⟨by rfl,by repeat (first|exact Drawn0.refl _|apply Drawn0.step)⟩



/-! ### spec_NameOK: function 100 -/
def spec_NameOK.f (k:Nat) (a0:ByteArray):Option (Bool):=(spec_l00Word.f k a0).bind fun t104=>(some t104)
set_option maxHeartbeats 8000000 in
set_option maxRecDepth 100000 in
theorem spec_NameOK.calls (k:Nat) (a0:ByteArray) (r:Bool) (w:World) (h:spec_NameOK.f k a0=some r) :
  Calls Tryd.prog 100 #[.string a0] w fun e w'=>e = .returned (.bool r)∧Drawn0 w w':=by
 have H:((spec_l00Word.f k a0).bind fun t104=>(some t104))=some r:=h
 clear h
 replace H:=Option.bind_eq_some_iff.mp H
 obtain ⟨t104,A20,H⟩:=H
 replace H:(some t104)=some r:=H
 have A2:=ζa A20
 clear A20
 obtain rfl:=Option.some.inj H
 go_enter Tryd.func100,Tryd.ntmps100
 go_wp2_with (first|((with_reducible refine δv (f:=134) rfl ?_);refine goesL_ (some 4) rfl rfl Tryd.func134 (by kernel_rfl) rfl #[.string a0] rfl (by (try simp only [δd,δe,δf]);first|done|rfl|(simp only [δg,δh];rfl)) ?_;(with_reducible refine (spec_l00Word.calls k a0 t104 _ A2.out).mono ?_);rintro e w' ⟨rfl,⟨nd,rfl⟩⟩;refine ⟨_,rfl,?_⟩))
 go_ret
 exact ⟨by first|rfl|(simp;done)|(simp [*];done),by repeat (first|exact Drawn0.refl _|apply Drawn0.step)⟩



/-! ### spec_l05Name: function 61 -/
def spec_l05Name.f (k:Nat) (a0:ByteArray):Option (Bool):=if (a0.size:Int)≤12 then ((spec_NameOK.f k a0).bind fun t105=>(some t105)) else (some φ)
set_option maxHeartbeats 8000000 in
set_option maxRecDepth 100000 in
theorem spec_l05Name.calls (k:Nat) (a0:ByteArray) (r:Bool) (w:World) (h:spec_l05Name.f k a0=some r) :
  Calls Tryd.prog 61 #[.string a0] w fun e w'=>e = .returned (.bool r)∧Drawn0 w w':=by
 have H:(if (a0.size:Int)≤12 then ((spec_NameOK.f k a0).bind fun t105=>(some t105)) else (some φ))=some r:=h
 clear h
 by_cases c2:(a0.size:Int)≤12
 ·
  rw [if_pos c2] at H
  have c2b0:decide ((a0.size:Int)≤12)=τ:=decide_eq_true c2
  have c2b1:decide (a0.size≤12)=τ:=decide_eq_true (by omega)
  clear c2
  replace H:=Option.bind_eq_some_iff.mp H
  obtain ⟨t105,A30,H⟩:=H
  replace H:(some t105)=some r:=H
  have A3:=ζa A30
  clear A30
  obtain rfl:=Option.some.inj H
  go_enter Tryd.func61,Tryd.ntmps61
  go_wp2_with (first|(go_at_call 100;(with_reducible refine (spec_NameOK.calls k a0 t105 _ A3.out).mono ?_);rintro e w' ⟨rfl,⟨nd,rfl⟩⟩))
  go_ret
  exact ⟨by first|rfl|(simp;done)|(simp [*];done),by repeat (first|exact Drawn0.refl _|apply Drawn0.step)⟩
 ·
  rw [if_neg c2] at H
  have c2b0:decide ((a0.size:Int)≤12)=φ:=decide_eq_false c2
  have c2b1:decide (a0.size≤12)=φ:=decide_eq_false (by omega)
  clear c2
  obtain rfl:=Option.some.inj H
  go_enter Tryd.func61,Tryd.ntmps61
  go_wp2
  go_ret
  exact ⟨by first|rfl|(simp;done)|(simp [*];done),by repeat (first|exact Drawn0.refl _|apply Drawn0.step)⟩



/-! ### spec_l08Name: function 34 -/
def spec_l08Name.f (k:Nat) (a0:ByteArray):Option (Bool):=(spec_l05Name.f k a0).bind fun t106=>(if t106=τ then (if a0.toList=([101,115,99,114,111,119]:List UInt8) then (some φ) else (if a0.toList=([111,114,100,101,114,115]:List UInt8) then (some φ) else (if a0.toList=([116,97,107,101,115]:List UInt8) then (some φ) else (some (a0.toList != ([112,111,111,108]:List UInt8)))))) else (some φ))
set_option maxHeartbeats 8000000 in
set_option maxRecDepth 100000 in
theorem spec_l08Name.calls (k:Nat) (a0:ByteArray) (r:Bool) (w:World) (h:spec_l08Name.f k a0=some r) :
  Calls Tryd.prog 34 #[.string a0] w fun e w'=>e = .returned (.bool r)∧Drawn0 w w':=by
 have H:((spec_l05Name.f k a0).bind fun t106=>(if t106=τ then (if a0.toList=([101,115,99,114,111,119]:List UInt8) then (some φ) else (if a0.toList=([111,114,100,101,114,115]:List UInt8) then (some φ) else (if a0.toList=([116,97,107,101,115]:List UInt8) then (some φ) else (some (a0.toList != ([112,111,111,108]:List UInt8)))))) else (some φ)))=some r:=h
 clear h
 replace H:=Option.bind_eq_some_iff.mp H
 obtain ⟨t106,A20,H⟩:=H
 replace H:(if t106=τ then (if a0.toList=([101,115,99,114,111,119]:List UInt8) then (some φ) else (if a0.toList=([111,114,100,101,114,115]:List UInt8) then (some φ) else (if a0.toList=([116,97,107,101,115]:List UInt8) then (some φ) else (some (a0.toList != ([112,111,111,108]:List UInt8)))))) else (some φ))=some r:=H
 have A2:=ζa A20
 clear A20
 by_cases c3:t106=τ
 ·
  subst c3
  have H1:(if a0.toList=([101,115,99,114,111,119]:List UInt8) then (some φ) else (if a0.toList=([111,114,100,101,114,115]:List UInt8) then (some φ) else (if a0.toList=([116,97,107,101,115]:List UInt8) then (some φ) else (some (a0.toList != ([112,111,111,108]:List UInt8))))))=some r:=by rw [if_pos rfl] at H;exact H
  clear H
  have H:=H1
  clear H1
  by_cases c4:a0.toList=([101,115,99,114,111,119]:List UInt8)
  ·
   rw [if_pos c4] at H
   have c4b0:(a0.toList == ([101,115,99,114,111,119]:List UInt8))=τ:=beq_iff_eq.mpr c4
   have c4b1:(a0.toList != ([101,115,99,114,111,119]:List UInt8))=φ:=bne_eq_false_iff_eq.mpr c4
   clear c4
   obtain rfl:=Option.some.inj H
   go_enter Tryd.func34,Tryd.ntmps34
   go_wp2_with (first|((with_reducible refine δv (f:=61) rfl ?_);refine goesL_ (some 4) rfl rfl Tryd.func61 (by kernel_rfl) rfl #[.string a0] rfl (by (try simp only [δd,δe,δf]);first|done|rfl|(simp only [δg,δh];rfl)) ?_;(with_reducible refine (spec_l05Name.calls k a0 τ _ A2.out).mono ?_);rintro e w' ⟨rfl,⟨nd,rfl⟩⟩;refine ⟨_,rfl,?_⟩))
   go_ret
   exact ⟨by first|rfl|(simp;done)|(simp [*];done),by repeat (first|exact Drawn0.refl _|apply Drawn0.step)⟩
  ·
   rw [if_neg c4] at H
   have c4b0:(a0.toList == ([101,115,99,114,111,119]:List UInt8))=φ:=beq_eq_false_iff_ne.mpr c4
   have c4b1:(a0.toList != ([101,115,99,114,111,119]:List UInt8))=τ:=bne_iff_ne.mpr c4
   by_cases c5:a0.toList=([111,114,100,101,114,115]:List UInt8)
   ·
    rw [if_pos c5] at H
    have c5b0:(a0.toList == ([111,114,100,101,114,115]:List UInt8))=τ:=beq_iff_eq.mpr c5
    have c5b1:(a0.toList != ([111,114,100,101,114,115]:List UInt8))=φ:=bne_eq_false_iff_eq.mpr c5
    clear c5
    obtain rfl:=Option.some.inj H
    go_enter Tryd.func34,Tryd.ntmps34
    go_wp2_with (first|((with_reducible refine δv (f:=61) rfl ?_);refine goesL_ (some 4) rfl rfl Tryd.func61 (by kernel_rfl) rfl #[.string a0] rfl (by (try simp only [δd,δe,δf]);first|done|rfl|(simp only [δg,δh];rfl)) ?_;(with_reducible refine (spec_l05Name.calls k a0 τ _ A2.out).mono ?_);rintro e w' ⟨rfl,⟨nd,rfl⟩⟩;refine ⟨_,rfl,?_⟩))
    go_ret
    exact ⟨by first|rfl|(simp;done)|(simp [*];done),by repeat (first|exact Drawn0.refl _|apply Drawn0.step)⟩
   ·
    rw [if_neg c5] at H
    have c5b0:(a0.toList == ([111,114,100,101,114,115]:List UInt8))=φ:=beq_eq_false_iff_ne.mpr c5
    have c5b1:(a0.toList != ([111,114,100,101,114,115]:List UInt8))=τ:=bne_iff_ne.mpr c5
    by_cases c6:a0.toList=([116,97,107,101,115]:List UInt8)
    ·
     rw [if_pos c6] at H
     have c6b0:(a0.toList == ([116,97,107,101,115]:List UInt8))=τ:=beq_iff_eq.mpr c6
     have c6b1:(a0.toList != ([116,97,107,101,115]:List UInt8))=φ:=bne_eq_false_iff_eq.mpr c6
     clear c6
     obtain rfl:=Option.some.inj H
     go_enter Tryd.func34,Tryd.ntmps34
     go_wp2_with (first|((with_reducible refine δv (f:=61) rfl ?_);refine goesL_ (some 4) rfl rfl Tryd.func61 (by kernel_rfl) rfl #[.string a0] rfl (by (try simp only [δd,δe,δf]);first|done|rfl|(simp only [δg,δh];rfl)) ?_;(with_reducible refine (spec_l05Name.calls k a0 τ _ A2.out).mono ?_);rintro e w' ⟨rfl,⟨nd,rfl⟩⟩;refine ⟨_,rfl,?_⟩))
     go_ret
     exact ⟨by first|rfl|(simp;done)|(simp [*];done),by repeat (first|exact Drawn0.refl _|apply Drawn0.step)⟩
    ·
     rw [if_neg c6] at H
     have c6b0:(a0.toList == ([116,97,107,101,115]:List UInt8))=φ:=beq_eq_false_iff_ne.mpr c6
     have c6b1:(a0.toList != ([116,97,107,101,115]:List UInt8))=τ:=bne_iff_ne.mpr c6
     obtain rfl:=Option.some.inj H
     go_enter Tryd.func34,Tryd.ntmps34
     go_wp2_with (first|((with_reducible refine δv (f:=61) rfl ?_);refine goesL_ (some 4) rfl rfl Tryd.func61 (by kernel_rfl) rfl #[.string a0] rfl (by (try simp only [δd,δe,δf]);first|done|rfl|(simp only [δg,δh];rfl)) ?_;(with_reducible refine (spec_l05Name.calls k a0 τ _ A2.out).mono ?_);rintro e w' ⟨rfl,⟨nd,rfl⟩⟩;refine ⟨_,rfl,?_⟩))
     go_ret
     exact ⟨by first|rfl|(simp;done)|(simp [*];done),by repeat (first|exact Drawn0.refl _|apply Drawn0.step)⟩
 ·
  replace c3:=Bool.eq_false_iff.mpr c3
  subst c3
  have H1:(some φ)=some r:=by rw [if_neg (show ¬ (φ=τ) by decide)] at H;exact H
  clear H
  have H:=H1
  clear H1
  obtain rfl:=Option.some.inj H
  go_enter Tryd.func34,Tryd.ntmps34
  go_wp2_with (first|((with_reducible refine δv (f:=61) rfl ?_);refine goesL_ (some 4) rfl rfl Tryd.func61 (by kernel_rfl) rfl #[.string a0] rfl (by (try simp only [δd,δe,δf]);first|done|rfl|(simp only [δg,δh];rfl)) ?_;(with_reducible refine (spec_l05Name.calls k a0 φ _ A2.out).mono ?_);rintro e w' ⟨rfl,⟨nd,rfl⟩⟩;refine ⟨_,rfl,?_⟩))
  go_ret
  exact ⟨by first|rfl|(simp;done)|(simp [*];done),by repeat (first|exact Drawn0.refl _|apply Drawn0.step)⟩


open Go.Proofs.YteghpdmlpefnfaaDoorW.PrintWords renaming gate_dst → δx, box_event → δz, below_step → δr, below_size → δs, blk_cell → δl, blk_frozen → δm, gate_callee → δv, pw_below_drewN → δi

/-! ### spec_OrderOK: function 130 -/
def spec_OrderOK.f (k:Nat) (a0_0:ByteArray) (a0_1:ByteArray) (a0_2:Int) (a0_3:Int) (a0_4:Int) (a0_5:Bool):Option (Bool):=(spec_l05Name.f k a0_0).bind fun t358=>(if t358=τ then ((spec_l08Name.f k a0_1).bind fun t359=>(if t359=τ then ((spec_l01In.f a0_2 1 1000000000000000000).bind fun t360=>(if t360=τ then ((spec_l01In.f a0_3 1 1000000000000000000).bind fun t361=>(if t361=τ then ((spec_l01In.f a0_4 0 a0_2).bind fun t362=>(if t362=τ then (if a0_5=τ then (some (decide (a0_4 > 0))) else (if a0_4=0 then (some τ) else (some φ))) else (some φ))) else (some φ))) else (some φ))) else (some φ))) else (some φ))
set_option maxHeartbeats 8000000 in
set_option maxRecDepth 100000 in
theorem spec_OrderOK.calls (k:Nat) (a0_0:ByteArray) (a0_1:ByteArray) (a0_2:Int) (a0_3:Int) (a0_4:Int) (a0_5:Bool) (r:Bool) (w:World) (h:spec_OrderOK.f k a0_0 a0_1 a0_2 a0_3 a0_4 a0_5=some r) :
  Calls Tryd.prog 130 #[.agg #[.string a0_0,.string a0_1,.int .i64 a0_2,.int .i64 a0_3,.int .i64 a0_4,.bool a0_5]] w fun e w'=>e = .returned (.bool r)∧Below w.heap.size w w':=by
 have hu42:=Tryd.underlying42
 have HB:=ζa (Below.refl w.heap.size w)
 have H:((spec_l05Name.f k a0_0).bind fun t358=>(if t358=τ then ((spec_l08Name.f k a0_1).bind fun t359=>(if t359=τ then ((spec_l01In.f a0_2 1 1000000000000000000).bind fun t360=>(if t360=τ then ((spec_l01In.f a0_3 1 1000000000000000000).bind fun t361=>(if t361=τ then ((spec_l01In.f a0_4 0 a0_2).bind fun t362=>(if t362=τ then (if a0_5=τ then (some (decide (a0_4 > 0))) else (if a0_4=0 then (some τ) else (some φ))) else (some φ))) else (some φ))) else (some φ))) else (some φ))) else (some φ)))=some r:=h
 clear h
 replace H:=Option.bind_eq_some_iff.mp H
 obtain ⟨t358,A20,H⟩:=H
 replace H:(if t358=τ then ((spec_l08Name.f k a0_1).bind fun t359=>(if t359=τ then ((spec_l01In.f a0_2 1 1000000000000000000).bind fun t360=>(if t360=τ then ((spec_l01In.f a0_3 1 1000000000000000000).bind fun t361=>(if t361=τ then ((spec_l01In.f a0_4 0 a0_2).bind fun t362=>(if t362=τ then (if a0_5=τ then (some (decide (a0_4 > 0))) else (if a0_4=0 then (some τ) else (some φ))) else (some φ))) else (some φ))) else (some φ))) else (some φ))) else (some φ))=some r:=H
 have A2:=ζa A20
 clear A20
 by_cases c3:t358=τ
 ·
  subst c3
  have H1:((spec_l08Name.f k a0_1).bind fun t359=>(if t359=τ then ((spec_l01In.f a0_2 1 1000000000000000000).bind fun t360=>(if t360=τ then ((spec_l01In.f a0_3 1 1000000000000000000).bind fun t361=>(if t361=τ then ((spec_l01In.f a0_4 0 a0_2).bind fun t362=>(if t362=τ then (if a0_5=τ then (some (decide (a0_4 > 0))) else (if a0_4=0 then (some τ) else (some φ))) else (some φ))) else (some φ))) else (some φ))) else (some φ)))=some r:=by rw [if_pos rfl] at H;exact H
  clear H
  have H:=H1
  clear H1
  replace H:=Option.bind_eq_some_iff.mp H
  obtain ⟨t359,A40,H⟩:=H
  replace H:(if t359=τ then ((spec_l01In.f a0_2 1 1000000000000000000).bind fun t360=>(if t360=τ then ((spec_l01In.f a0_3 1 1000000000000000000).bind fun t361=>(if t361=τ then ((spec_l01In.f a0_4 0 a0_2).bind fun t362=>(if t362=τ then (if a0_5=τ then (some (decide (a0_4 > 0))) else (if a0_4=0 then (some τ) else (some φ))) else (some φ))) else (some φ))) else (some φ))) else (some φ))=some r:=H
  have A4:=ζa A40
  clear A40
  by_cases c5:t359=τ
  ·
   subst c5
   have H1:((spec_l01In.f a0_2 1 1000000000000000000).bind fun t360=>(if t360=τ then ((spec_l01In.f a0_3 1 1000000000000000000).bind fun t361=>(if t361=τ then ((spec_l01In.f a0_4 0 a0_2).bind fun t362=>(if t362=τ then (if a0_5=τ then (some (decide (a0_4 > 0))) else (if a0_4=0 then (some τ) else (some φ))) else (some φ))) else (some φ))) else (some φ)))=some r:=by rw [if_pos rfl] at H;exact H
   clear H
   have H:=H1
   clear H1
   replace H:=Option.bind_eq_some_iff.mp H
   obtain ⟨t360,A60,H⟩:=H
   replace H:(if t360=τ then ((spec_l01In.f a0_3 1 1000000000000000000).bind fun t361=>(if t361=τ then ((spec_l01In.f a0_4 0 a0_2).bind fun t362=>(if t362=τ then (if a0_5=τ then (some (decide (a0_4 > 0))) else (if a0_4=0 then (some τ) else (some φ))) else (some φ))) else (some φ))) else (some φ))=some r:=H
   have A6:=ζa A60
   clear A60
   by_cases c7:t360=τ
   ·
    subst c7
    have H1:((spec_l01In.f a0_3 1 1000000000000000000).bind fun t361=>(if t361=τ then ((spec_l01In.f a0_4 0 a0_2).bind fun t362=>(if t362=τ then (if a0_5=τ then (some (decide (a0_4 > 0))) else (if a0_4=0 then (some τ) else (some φ))) else (some φ))) else (some φ)))=some r:=by rw [if_pos rfl] at H;exact H
    clear H
    have H:=H1
    clear H1
    replace H:=Option.bind_eq_some_iff.mp H
    obtain ⟨t361,A80,H⟩:=H
    replace H:(if t361=τ then ((spec_l01In.f a0_4 0 a0_2).bind fun t362=>(if t362=τ then (if a0_5=τ then (some (decide (a0_4 > 0))) else (if a0_4=0 then (some τ) else (some φ))) else (some φ))) else (some φ))=some r:=H
    have A8:=ζa A80
    clear A80
    by_cases c9:t361=τ
    ·
     subst c9
     have H1:((spec_l01In.f a0_4 0 a0_2).bind fun t362=>(if t362=τ then (if a0_5=τ then (some (decide (a0_4 > 0))) else (if a0_4=0 then (some τ) else (some φ))) else (some φ)))=some r:=by rw [if_pos rfl] at H;exact H
     clear H
     have H:=H1
     clear H1
     replace H:=Option.bind_eq_some_iff.mp H
     obtain ⟨t362,A100,H⟩:=H
     replace H:(if t362=τ then (if a0_5=τ then (some (decide (a0_4 > 0))) else (if a0_4=0 then (some τ) else (some φ))) else (some φ))=some r:=H
     have A10:=ζa A100
     clear A100
     by_cases c11:t362=τ
     ·
      subst c11
      have H1:(if a0_5=τ then (some (decide (a0_4 > 0))) else (if a0_4=0 then (some τ) else (some φ)))=some r:=by rw [if_pos rfl] at H;exact H
      clear H
      have H:=H1
      clear H1
      by_cases c12:a0_5=τ
      ·
       subst c12
       have H1:(some (decide (a0_4 > 0)))=some r:=by rw [if_pos rfl] at H;exact H
       clear H
       have H:=H1
       clear H1
       obtain rfl:=Option.some.inj H
       go_enter Tryd.func130,Tryd.ntmps130
       go_wp2_with (first|((with_reducible refine δx (N:=1) rfl ?_);refine δz ?hg (N:=1) ?hd (cs:=#[.string a0_0,.string a0_1,.int .i64 a0_2,.int .i64 a0_3,.int .i64 a0_4,.bool τ]) (t:=42) ?hr ?_;(case hd=>rfl);(case hg=>rfl);(case hr=>(go_simp;done));intro gb357 hg w13 hbox hb;have n0_:=ζa (δr (by exact HB.out) hb);have n1_:=ζa (hbox);have n2_:=ζa ((by rw [hg];exact (δs (by exact HB.out)):w.heap.size≤gb357));have n3_:=ζa ((by rw [hg];exact (δs (by exact HB.out)):w.heap.size≤gb357));clear HB;have HB:=n0_;have BK357:=n1_;have GW357:=n2_;have GE357:=n3_;clear n0_ n1_ n2_ n3_;clear hb hbox hg;have hcz14_0:w13.cell? ⟨gb357,0,none⟩=some (.string a0_0):=(δl BK357.out 0).trans rfl;have hcz14_1:w13.cell? ⟨gb357,1,none⟩=some (.string a0_1):=(δl BK357.out 1).trans rfl;have hcz14_2:w13.cell? ⟨gb357,2,none⟩=some (.int .i64 a0_2):=(δl BK357.out 2).trans rfl;have hcz14_3:w13.cell? ⟨gb357,3,none⟩=some (.int .i64 a0_3):=(δl BK357.out 3).trans rfl;have hcz14_4:w13.cell? ⟨gb357,4,none⟩=some (.int .i64 a0_4):=(δl BK357.out 4).trans rfl;have hcz14_5:w13.cell? ⟨gb357,5,none⟩=some (.bool τ):=(δl BK357.out 5).trans rfl;have hfz14_0:=δm BK357.out 0;have hfz14_1:=δm BK357.out 1;have hfz14_2:=δm BK357.out 2;have hfz14_3:=δm BK357.out 3;have hfz14_4:=δm BK357.out 4;have hfz14_5:=δm BK357.out 5)|((with_reducible refine δv (f:=61) rfl ?_);refine goesL_ (some 5) rfl rfl Tryd.func61 (by kernel_rfl) rfl #[.string a0_0] rfl (by (try simp only [δd,δe,δf]);rfl) ?_;(with_reducible refine (spec_l05Name.calls k a0_0 τ _ A2.out).mono ?_);rintro e w' ⟨rfl,⟨nd,rfl⟩⟩;refine ⟨_,rfl,?_⟩)|(go_at_call 34;(with_reducible refine (spec_l08Name.calls k a0_1 τ _ A4.out).mono ?_);rintro e w' ⟨rfl,⟨nd,rfl⟩⟩)|(go_at_call 33;(with_reducible refine (spec_l01In.calls a0_2 1 1000000000000000000 τ _ A6.out).mono ?_);rintro e w' ⟨rfl,⟨nd,rfl⟩⟩)|(go_at_call 33;(with_reducible refine (spec_l01In.calls a0_3 1 1000000000000000000 τ _ A8.out).mono ?_);rintro e w' ⟨rfl,⟨nd,rfl⟩⟩)|(go_at_call 33;(with_reducible refine (spec_l01In.calls a0_4 0 a0_2 τ _ A10.out).mono ?_);rintro e w' ⟨rfl,⟨nd,rfl⟩⟩))
       go_ret
       exact ⟨by rfl,by repeat ((with_reducible first|exact HB.out|apply δi))⟩
      ·
       replace c12:=Bool.eq_false_iff.mpr c12
       subst c12
       have H1:(if a0_4=0 then (some τ) else (some φ))=some r:=by rw [if_neg (show ¬ (φ=τ) by decide)] at H;exact H
       clear H
       have H:=H1
       clear H1
       by_cases c15:a0_4=0
       ·
        rw [if_pos c15] at H
        have c15b0:(a0_4 == 0)=τ:=beq_iff_eq.mpr c15
        have c15b1:(a0_4 != 0)=φ:=bne_eq_false_iff_eq.mpr c15
        clear c15
        obtain rfl:=Option.some.inj H
        go_enter Tryd.func130,Tryd.ntmps130
        go_wp2_with (first|((with_reducible refine δx (N:=1) rfl ?_);refine δz ?hg (N:=1) ?hd (cs:=#[.string a0_0,.string a0_1,.int .i64 a0_2,.int .i64 a0_3,.int .i64 a0_4,.bool φ]) (t:=42) ?hr ?_;(case hd=>rfl);(case hg=>rfl);(case hr=>(go_simp;done));intro gb357 hg w16 hbox hb;have n0_:=ζa (δr (by exact HB.out) hb);have n1_:=ζa (hbox);have n2_:=ζa ((by rw [hg];exact (δs (by exact HB.out)):w.heap.size≤gb357));have n3_:=ζa ((by rw [hg];exact (δs (by exact HB.out)):w.heap.size≤gb357));clear HB;have HB:=n0_;have BK357:=n1_;have GW357:=n2_;have GE357:=n3_;clear n0_ n1_ n2_ n3_;clear hb hbox hg;have hcz17_0:w16.cell? ⟨gb357,0,none⟩=some (.string a0_0):=(δl BK357.out 0).trans rfl;have hcz17_1:w16.cell? ⟨gb357,1,none⟩=some (.string a0_1):=(δl BK357.out 1).trans rfl;have hcz17_2:w16.cell? ⟨gb357,2,none⟩=some (.int .i64 a0_2):=(δl BK357.out 2).trans rfl;have hcz17_3:w16.cell? ⟨gb357,3,none⟩=some (.int .i64 a0_3):=(δl BK357.out 3).trans rfl;have hcz17_4:w16.cell? ⟨gb357,4,none⟩=some (.int .i64 a0_4):=(δl BK357.out 4).trans rfl;have hcz17_5:w16.cell? ⟨gb357,5,none⟩=some (.bool φ):=(δl BK357.out 5).trans rfl;have hfz17_0:=δm BK357.out 0;have hfz17_1:=δm BK357.out 1;have hfz17_2:=δm BK357.out 2;have hfz17_3:=δm BK357.out 3;have hfz17_4:=δm BK357.out 4;have hfz17_5:=δm BK357.out 5)|((with_reducible refine δv (f:=61) rfl ?_);refine goesL_ (some 5) rfl rfl Tryd.func61 (by kernel_rfl) rfl #[.string a0_0] rfl (by (try simp only [δd,δe,δf]);rfl) ?_;(with_reducible refine (spec_l05Name.calls k a0_0 τ _ A2.out).mono ?_);rintro e w' ⟨rfl,⟨nd,rfl⟩⟩;refine ⟨_,rfl,?_⟩)|(go_at_call 34;(with_reducible refine (spec_l08Name.calls k a0_1 τ _ A4.out).mono ?_);rintro e w' ⟨rfl,⟨nd,rfl⟩⟩)|(go_at_call 33;(with_reducible refine (spec_l01In.calls a0_2 1 1000000000000000000 τ _ A6.out).mono ?_);rintro e w' ⟨rfl,⟨nd,rfl⟩⟩)|(go_at_call 33;(with_reducible refine (spec_l01In.calls a0_3 1 1000000000000000000 τ _ A8.out).mono ?_);rintro e w' ⟨rfl,⟨nd,rfl⟩⟩)|(go_at_call 33;(with_reducible refine (spec_l01In.calls a0_4 0 a0_2 τ _ A10.out).mono ?_);rintro e w' ⟨rfl,⟨nd,rfl⟩⟩))
        go_ret
        exact ⟨by rfl,by repeat ((with_reducible first|exact HB.out|apply δi))⟩
       ·
        rw [if_neg c15] at H
        have c15b0:(a0_4 == 0)=φ:=beq_eq_false_iff_ne.mpr c15
        have c15b1:(a0_4 != 0)=τ:=bne_iff_ne.mpr c15
        obtain rfl:=Option.some.inj H
        go_enter Tryd.func130,Tryd.ntmps130
        go_wp2_with (first|((with_reducible refine δx (N:=1) rfl ?_);refine δz ?hg (N:=1) ?hd (cs:=#[.string a0_0,.string a0_1,.int .i64 a0_2,.int .i64 a0_3,.int .i64 a0_4,.bool φ]) (t:=42) ?hr ?_;(case hd=>rfl);(case hg=>rfl);(case hr=>(go_simp;done));intro gb357 hg w18 hbox hb;have n0_:=ζa (δr (by exact HB.out) hb);have n1_:=ζa (hbox);have n2_:=ζa ((by rw [hg];exact (δs (by exact HB.out)):w.heap.size≤gb357));have n3_:=ζa ((by rw [hg];exact (δs (by exact HB.out)):w.heap.size≤gb357));clear HB;have HB:=n0_;have BK357:=n1_;have GW357:=n2_;have GE357:=n3_;clear n0_ n1_ n2_ n3_;clear hb hbox hg;have hcz19_0:w18.cell? ⟨gb357,0,none⟩=some (.string a0_0):=(δl BK357.out 0).trans rfl;have hcz19_1:w18.cell? ⟨gb357,1,none⟩=some (.string a0_1):=(δl BK357.out 1).trans rfl;have hcz19_2:w18.cell? ⟨gb357,2,none⟩=some (.int .i64 a0_2):=(δl BK357.out 2).trans rfl;have hcz19_3:w18.cell? ⟨gb357,3,none⟩=some (.int .i64 a0_3):=(δl BK357.out 3).trans rfl;have hcz19_4:w18.cell? ⟨gb357,4,none⟩=some (.int .i64 a0_4):=(δl BK357.out 4).trans rfl;have hcz19_5:w18.cell? ⟨gb357,5,none⟩=some (.bool φ):=(δl BK357.out 5).trans rfl;have hfz19_0:=δm BK357.out 0;have hfz19_1:=δm BK357.out 1;have hfz19_2:=δm BK357.out 2;have hfz19_3:=δm BK357.out 3;have hfz19_4:=δm BK357.out 4;have hfz19_5:=δm BK357.out 5)|((with_reducible refine δv (f:=61) rfl ?_);refine goesL_ (some 5) rfl rfl Tryd.func61 (by kernel_rfl) rfl #[.string a0_0] rfl (by (try simp only [δd,δe,δf]);rfl) ?_;(with_reducible refine (spec_l05Name.calls k a0_0 τ _ A2.out).mono ?_);rintro e w' ⟨rfl,⟨nd,rfl⟩⟩;refine ⟨_,rfl,?_⟩)|(go_at_call 34;(with_reducible refine (spec_l08Name.calls k a0_1 τ _ A4.out).mono ?_);rintro e w' ⟨rfl,⟨nd,rfl⟩⟩)|(go_at_call 33;(with_reducible refine (spec_l01In.calls a0_2 1 1000000000000000000 τ _ A6.out).mono ?_);rintro e w' ⟨rfl,⟨nd,rfl⟩⟩)|(go_at_call 33;(with_reducible refine (spec_l01In.calls a0_3 1 1000000000000000000 τ _ A8.out).mono ?_);rintro e w' ⟨rfl,⟨nd,rfl⟩⟩)|(go_at_call 33;(with_reducible refine (spec_l01In.calls a0_4 0 a0_2 τ _ A10.out).mono ?_);rintro e w' ⟨rfl,⟨nd,rfl⟩⟩))
        go_ret
        exact ⟨by rfl,by repeat ((with_reducible first|exact HB.out|apply δi))⟩
     ·
      replace c11:=Bool.eq_false_iff.mpr c11
      subst c11
      have H1:(some φ)=some r:=by rw [if_neg (show ¬ (φ=τ) by decide)] at H;exact H
      clear H
      have H:=H1
      clear H1
      obtain rfl:=Option.some.inj H
      go_enter Tryd.func130,Tryd.ntmps130
      go_wp2_with (first|((with_reducible refine δx (N:=1) rfl ?_);refine δz ?hg (N:=1) ?hd (cs:=#[.string a0_0,.string a0_1,.int .i64 a0_2,.int .i64 a0_3,.int .i64 a0_4,.bool a0_5]) (t:=42) ?hr ?_;(case hd=>rfl);(case hg=>rfl);(case hr=>(go_simp;done));intro gb357 hg w20 hbox hb;have n0_:=ζa (δr (by exact HB.out) hb);have n1_:=ζa (hbox);have n2_:=ζa ((by rw [hg];exact (δs (by exact HB.out)):w.heap.size≤gb357));have n3_:=ζa ((by rw [hg];exact (δs (by exact HB.out)):w.heap.size≤gb357));clear HB;have HB:=n0_;have BK357:=n1_;have GW357:=n2_;have GE357:=n3_;clear n0_ n1_ n2_ n3_;clear hb hbox hg;have hcz21_0:w20.cell? ⟨gb357,0,none⟩=some (.string a0_0):=(δl BK357.out 0).trans rfl;have hcz21_1:w20.cell? ⟨gb357,1,none⟩=some (.string a0_1):=(δl BK357.out 1).trans rfl;have hcz21_2:w20.cell? ⟨gb357,2,none⟩=some (.int .i64 a0_2):=(δl BK357.out 2).trans rfl;have hcz21_3:w20.cell? ⟨gb357,3,none⟩=some (.int .i64 a0_3):=(δl BK357.out 3).trans rfl;have hcz21_4:w20.cell? ⟨gb357,4,none⟩=some (.int .i64 a0_4):=(δl BK357.out 4).trans rfl;have hcz21_5:w20.cell? ⟨gb357,5,none⟩=some (.bool a0_5):=(δl BK357.out 5).trans rfl;have hfz21_0:=δm BK357.out 0;have hfz21_1:=δm BK357.out 1;have hfz21_2:=δm BK357.out 2;have hfz21_3:=δm BK357.out 3;have hfz21_4:=δm BK357.out 4;have hfz21_5:=δm BK357.out 5)|((with_reducible refine δv (f:=61) rfl ?_);refine goesL_ (some 5) rfl rfl Tryd.func61 (by kernel_rfl) rfl #[.string a0_0] rfl (by (try simp only [δd,δe,δf]);rfl) ?_;(with_reducible refine (spec_l05Name.calls k a0_0 τ _ A2.out).mono ?_);rintro e w' ⟨rfl,⟨nd,rfl⟩⟩;refine ⟨_,rfl,?_⟩)|(go_at_call 34;(with_reducible refine (spec_l08Name.calls k a0_1 τ _ A4.out).mono ?_);rintro e w' ⟨rfl,⟨nd,rfl⟩⟩)|(go_at_call 33;(with_reducible refine (spec_l01In.calls a0_2 1 1000000000000000000 τ _ A6.out).mono ?_);rintro e w' ⟨rfl,⟨nd,rfl⟩⟩)|(go_at_call 33;(with_reducible refine (spec_l01In.calls a0_3 1 1000000000000000000 τ _ A8.out).mono ?_);rintro e w' ⟨rfl,⟨nd,rfl⟩⟩)|(go_at_call 33;(with_reducible refine (spec_l01In.calls a0_4 0 a0_2 φ _ A10.out).mono ?_);rintro e w' ⟨rfl,⟨nd,rfl⟩⟩))
      go_ret
      exact ⟨by rfl,by repeat ((with_reducible first|exact HB.out|apply δi))⟩
    ·
     replace c9:=Bool.eq_false_iff.mpr c9
     subst c9
     have H1:(some φ)=some r:=by rw [if_neg (show ¬ (φ=τ) by decide)] at H;exact H
     clear H
     have H:=H1
     clear H1
     obtain rfl:=Option.some.inj H
     go_enter Tryd.func130,Tryd.ntmps130
     go_wp2_with (first|((with_reducible refine δx (N:=1) rfl ?_);refine δz ?hg (N:=1) ?hd (cs:=#[.string a0_0,.string a0_1,.int .i64 a0_2,.int .i64 a0_3,.int .i64 a0_4,.bool a0_5]) (t:=42) ?hr ?_;(case hd=>rfl);(case hg=>rfl);(case hr=>(go_simp;done));intro gb357 hg w22 hbox hb;have n0_:=ζa (δr (by exact HB.out) hb);have n1_:=ζa (hbox);have n2_:=ζa ((by rw [hg];exact (δs (by exact HB.out)):w.heap.size≤gb357));have n3_:=ζa ((by rw [hg];exact (δs (by exact HB.out)):w.heap.size≤gb357));clear HB;have HB:=n0_;have BK357:=n1_;have GW357:=n2_;have GE357:=n3_;clear n0_ n1_ n2_ n3_;clear hb hbox hg;have hcz23_0:w22.cell? ⟨gb357,0,none⟩=some (.string a0_0):=(δl BK357.out 0).trans rfl;have hcz23_1:w22.cell? ⟨gb357,1,none⟩=some (.string a0_1):=(δl BK357.out 1).trans rfl;have hcz23_2:w22.cell? ⟨gb357,2,none⟩=some (.int .i64 a0_2):=(δl BK357.out 2).trans rfl;have hcz23_3:w22.cell? ⟨gb357,3,none⟩=some (.int .i64 a0_3):=(δl BK357.out 3).trans rfl;have hcz23_4:w22.cell? ⟨gb357,4,none⟩=some (.int .i64 a0_4):=(δl BK357.out 4).trans rfl;have hcz23_5:w22.cell? ⟨gb357,5,none⟩=some (.bool a0_5):=(δl BK357.out 5).trans rfl;have hfz23_0:=δm BK357.out 0;have hfz23_1:=δm BK357.out 1;have hfz23_2:=δm BK357.out 2;have hfz23_3:=δm BK357.out 3;have hfz23_4:=δm BK357.out 4;have hfz23_5:=δm BK357.out 5)|((with_reducible refine δv (f:=61) rfl ?_);refine goesL_ (some 5) rfl rfl Tryd.func61 (by kernel_rfl) rfl #[.string a0_0] rfl (by (try simp only [δd,δe,δf]);rfl) ?_;(with_reducible refine (spec_l05Name.calls k a0_0 τ _ A2.out).mono ?_);rintro e w' ⟨rfl,⟨nd,rfl⟩⟩;refine ⟨_,rfl,?_⟩)|(go_at_call 34;(with_reducible refine (spec_l08Name.calls k a0_1 τ _ A4.out).mono ?_);rintro e w' ⟨rfl,⟨nd,rfl⟩⟩)|(go_at_call 33;(with_reducible refine (spec_l01In.calls a0_2 1 1000000000000000000 τ _ A6.out).mono ?_);rintro e w' ⟨rfl,⟨nd,rfl⟩⟩)|(go_at_call 33;(with_reducible refine (spec_l01In.calls a0_3 1 1000000000000000000 φ _ A8.out).mono ?_);rintro e w' ⟨rfl,⟨nd,rfl⟩⟩))
     go_ret
     exact ⟨by rfl,by repeat ((with_reducible first|exact HB.out|apply δi))⟩
   ·
    replace c7:=Bool.eq_false_iff.mpr c7
    subst c7
    have H1:(some φ)=some r:=by rw [if_neg (show ¬ (φ=τ) by decide)] at H;exact H
    clear H
    have H:=H1
    clear H1
    obtain rfl:=Option.some.inj H
    go_enter Tryd.func130,Tryd.ntmps130
    go_wp2_with (first|((with_reducible refine δx (N:=1) rfl ?_);refine δz ?hg (N:=1) ?hd (cs:=#[.string a0_0,.string a0_1,.int .i64 a0_2,.int .i64 a0_3,.int .i64 a0_4,.bool a0_5]) (t:=42) ?hr ?_;(case hd=>rfl);(case hg=>rfl);(case hr=>(go_simp;done));intro gb357 hg w24 hbox hb;have n0_:=ζa (δr (by exact HB.out) hb);have n1_:=ζa (hbox);have n2_:=ζa ((by rw [hg];exact (δs (by exact HB.out)):w.heap.size≤gb357));have n3_:=ζa ((by rw [hg];exact (δs (by exact HB.out)):w.heap.size≤gb357));clear HB;have HB:=n0_;have BK357:=n1_;have GW357:=n2_;have GE357:=n3_;clear n0_ n1_ n2_ n3_;clear hb hbox hg;have hcz25_0:w24.cell? ⟨gb357,0,none⟩=some (.string a0_0):=(δl BK357.out 0).trans rfl;have hcz25_1:w24.cell? ⟨gb357,1,none⟩=some (.string a0_1):=(δl BK357.out 1).trans rfl;have hcz25_2:w24.cell? ⟨gb357,2,none⟩=some (.int .i64 a0_2):=(δl BK357.out 2).trans rfl;have hcz25_3:w24.cell? ⟨gb357,3,none⟩=some (.int .i64 a0_3):=(δl BK357.out 3).trans rfl;have hcz25_4:w24.cell? ⟨gb357,4,none⟩=some (.int .i64 a0_4):=(δl BK357.out 4).trans rfl;have hcz25_5:w24.cell? ⟨gb357,5,none⟩=some (.bool a0_5):=(δl BK357.out 5).trans rfl;have hfz25_0:=δm BK357.out 0;have hfz25_1:=δm BK357.out 1;have hfz25_2:=δm BK357.out 2;have hfz25_3:=δm BK357.out 3;have hfz25_4:=δm BK357.out 4;have hfz25_5:=δm BK357.out 5)|((with_reducible refine δv (f:=61) rfl ?_);refine goesL_ (some 5) rfl rfl Tryd.func61 (by kernel_rfl) rfl #[.string a0_0] rfl (by (try simp only [δd,δe,δf]);rfl) ?_;(with_reducible refine (spec_l05Name.calls k a0_0 τ _ A2.out).mono ?_);rintro e w' ⟨rfl,⟨nd,rfl⟩⟩;refine ⟨_,rfl,?_⟩)|(go_at_call 34;(with_reducible refine (spec_l08Name.calls k a0_1 τ _ A4.out).mono ?_);rintro e w' ⟨rfl,⟨nd,rfl⟩⟩)|(go_at_call 33;(with_reducible refine (spec_l01In.calls a0_2 1 1000000000000000000 φ _ A6.out).mono ?_);rintro e w' ⟨rfl,⟨nd,rfl⟩⟩))
    go_ret
    exact ⟨by rfl,by repeat ((with_reducible first|exact HB.out|apply δi))⟩
  ·
   replace c5:=Bool.eq_false_iff.mpr c5
   subst c5
   have H1:(some φ)=some r:=by rw [if_neg (show ¬ (φ=τ) by decide)] at H;exact H
   clear H
   have H:=H1
   clear H1
   obtain rfl:=Option.some.inj H
   go_enter Tryd.func130,Tryd.ntmps130
   go_wp2_with (first|((with_reducible refine δx (N:=1) rfl ?_);refine δz ?hg (N:=1) ?hd (cs:=#[.string a0_0,.string a0_1,.int .i64 a0_2,.int .i64 a0_3,.int .i64 a0_4,.bool a0_5]) (t:=42) ?hr ?_;(case hd=>rfl);(case hg=>rfl);(case hr=>(go_simp;done));intro gb357 hg w26 hbox hb;have n0_:=ζa (δr (by exact HB.out) hb);have n1_:=ζa (hbox);have n2_:=ζa ((by rw [hg];exact (δs (by exact HB.out)):w.heap.size≤gb357));have n3_:=ζa ((by rw [hg];exact (δs (by exact HB.out)):w.heap.size≤gb357));clear HB;have HB:=n0_;have BK357:=n1_;have GW357:=n2_;have GE357:=n3_;clear n0_ n1_ n2_ n3_;clear hb hbox hg;have hcz27_0:w26.cell? ⟨gb357,0,none⟩=some (.string a0_0):=(δl BK357.out 0).trans rfl;have hcz27_1:w26.cell? ⟨gb357,1,none⟩=some (.string a0_1):=(δl BK357.out 1).trans rfl;have hcz27_2:w26.cell? ⟨gb357,2,none⟩=some (.int .i64 a0_2):=(δl BK357.out 2).trans rfl;have hcz27_3:w26.cell? ⟨gb357,3,none⟩=some (.int .i64 a0_3):=(δl BK357.out 3).trans rfl;have hcz27_4:w26.cell? ⟨gb357,4,none⟩=some (.int .i64 a0_4):=(δl BK357.out 4).trans rfl;have hcz27_5:w26.cell? ⟨gb357,5,none⟩=some (.bool a0_5):=(δl BK357.out 5).trans rfl;have hfz27_0:=δm BK357.out 0;have hfz27_1:=δm BK357.out 1;have hfz27_2:=δm BK357.out 2;have hfz27_3:=δm BK357.out 3;have hfz27_4:=δm BK357.out 4;have hfz27_5:=δm BK357.out 5)|((with_reducible refine δv (f:=61) rfl ?_);refine goesL_ (some 5) rfl rfl Tryd.func61 (by kernel_rfl) rfl #[.string a0_0] rfl (by (try simp only [δd,δe,δf]);rfl) ?_;(with_reducible refine (spec_l05Name.calls k a0_0 τ _ A2.out).mono ?_);rintro e w' ⟨rfl,⟨nd,rfl⟩⟩;refine ⟨_,rfl,?_⟩)|(go_at_call 34;(with_reducible refine (spec_l08Name.calls k a0_1 φ _ A4.out).mono ?_);rintro e w' ⟨rfl,⟨nd,rfl⟩⟩))
   go_ret
   exact ⟨by rfl,by repeat ((with_reducible first|exact HB.out|apply δi))⟩
 ·
  replace c3:=Bool.eq_false_iff.mpr c3
  subst c3
  have H1:(some φ)=some r:=by rw [if_neg (show ¬ (φ=τ) by decide)] at H;exact H
  clear H
  have H:=H1
  clear H1
  obtain rfl:=Option.some.inj H
  go_enter Tryd.func130,Tryd.ntmps130
  go_wp2_with (first|((with_reducible refine δx (N:=1) rfl ?_);refine δz ?hg (N:=1) ?hd (cs:=#[.string a0_0,.string a0_1,.int .i64 a0_2,.int .i64 a0_3,.int .i64 a0_4,.bool a0_5]) (t:=42) ?hr ?_;(case hd=>rfl);(case hg=>rfl);(case hr=>(go_simp;done));intro gb357 hg w28 hbox hb;have n0_:=ζa (δr (by exact HB.out) hb);have n1_:=ζa (hbox);have n2_:=ζa ((by rw [hg];exact (δs (by exact HB.out)):w.heap.size≤gb357));have n3_:=ζa ((by rw [hg];exact (δs (by exact HB.out)):w.heap.size≤gb357));clear HB;have HB:=n0_;have BK357:=n1_;have GW357:=n2_;have GE357:=n3_;clear n0_ n1_ n2_ n3_;clear hb hbox hg;have hcz29_0:w28.cell? ⟨gb357,0,none⟩=some (.string a0_0):=(δl BK357.out 0).trans rfl;have hcz29_1:w28.cell? ⟨gb357,1,none⟩=some (.string a0_1):=(δl BK357.out 1).trans rfl;have hcz29_2:w28.cell? ⟨gb357,2,none⟩=some (.int .i64 a0_2):=(δl BK357.out 2).trans rfl;have hcz29_3:w28.cell? ⟨gb357,3,none⟩=some (.int .i64 a0_3):=(δl BK357.out 3).trans rfl;have hcz29_4:w28.cell? ⟨gb357,4,none⟩=some (.int .i64 a0_4):=(δl BK357.out 4).trans rfl;have hcz29_5:w28.cell? ⟨gb357,5,none⟩=some (.bool a0_5):=(δl BK357.out 5).trans rfl;have hfz29_0:=δm BK357.out 0;have hfz29_1:=δm BK357.out 1;have hfz29_2:=δm BK357.out 2;have hfz29_3:=δm BK357.out 3;have hfz29_4:=δm BK357.out 4;have hfz29_5:=δm BK357.out 5)|((with_reducible refine δv (f:=61) rfl ?_);refine goesL_ (some 5) rfl rfl Tryd.func61 (by kernel_rfl) rfl #[.string a0_0] rfl (by (try simp only [δd,δe,δf]);rfl) ?_;(with_reducible refine (spec_l05Name.calls k a0_0 φ _ A2.out).mono ?_);rintro e w' ⟨rfl,⟨nd,rfl⟩⟩;refine ⟨_,rfl,?_⟩))
  go_ret
  exact ⟨by rfl,by repeat ((with_reducible first|exact HB.out|apply δi))⟩

end Go.Proofs.YteghpdmlpefnfaaDoor.Q
