/- Parts of the proof: what single Go functions compute, each with its walk, and plain laws over these. -/
import Derived.Laws.CopyRow
import Derived.Laws.IdiomCopy
import Derived.Test.YtjhhehjjnfnigaaGreatDoorVWords
import Derived.Test.YtjhhehjjnfnigaaGreatDoorVMac
import Derived.Test.YtjhhehjjnfnigaaGreatDoorProg
import Derived.Below
import Derived.Deep.Draws
import Derived.Deep.AppendLies
import Derived.Maps.AppendAt
import Derived.OwnWalk
import Derived.Laws.BytesArg
import Derived.Laws.MakeOwn
import Derived.Laws.OwnMore
import Derived.Deep.OwnRows
import Derived.Tactics
import Derived.Lib.ConvBytes
import Derived.Laws.Slices
import Derived.WalkKit
import Derived.KernelRfl
import Derived.RowKit3
import Derived.Deep.LoopGhost
import Derived.Deep.QuietTactic
import Derived.BigQuiet
import Derived.WideLaws
import Derived.Deep.DeepCutAuto
import Derived.Deep.CutBlock
import Derived.Deep.RegionHeld3
import Derived.Laws.Rows
import Derived.Lib.AppendStr
import Derived.ArgAppend
import Derived.OrdersHeld
import Derived.Laws.BitsLemmas
import Derived.RowKit
import Derived.Shelf.Abstract
import Derived.Laws.Cover1
import Derived.Test.YtjhhehjjnfnigaaGreatDoorVShelf
import Derived.Lib.AppendIntMem
import Derived.Lib.SliceRun
import Derived.WalkSpells
import Derived.Lib.Overlaps
import Derived.Laws.Externs
import Derived.Laws.CopyOwn
import Derived.Shelf.Spec.SlicesInsertGrow
import Derived.Deep.Heap
import Derived.Test.YtjhhehjjnfnigaaGreatDoorVLast
import Derived.Test.YtjhhehjjnfnigaaGreatDoorVTab
import Derived.Test.YtjhhehjjnfnigaaGreatDoorVFour
import Derived.Test.YtjhhehjjnfnigaaGreatDoorVQPut
import Derived.Test.YtjhhehjjnfnigaaGreatDoorVApart
import Derived.Test.YtjhhehjjnfnigaaGreatDoorVArr
import Derived.Test.YtjhhehjjnfnigaaGreatDoorVZeros
import Derived.Test.YtjhhehjjnfnigaaGreatDoorVFoot
import Derived.Test.YtjhhehjjnfnigaaGreatDoorVKept
import Derived.Test.YtjhhehjjnfnigaaGreatDoorVShare
import Derived.Test.YtjhhehjjnfnigaaGreatDoorVN
import Derived.Test.YtjhhehjjnfnigaaGreatDoorVFootNe
import Derived.Test.YtjhhehjjnfnigaaGreatDoorVAt
import Derived.Test.YtjhhehjjnfnigaaGreatDoorVEqStruct
import Derived.Test.YtjhhehjjnfnigaaGreatDoorVRepsOne
import Derived.Test.YtjhhehjjnfnigaaGreatDoorVInv
import Derived.Test.YtjhhehjjnfnigaaGreatDoorVInvWords
import Derived.Test.YtjhhehjjnfnigaaGreatDoorVGuard
import Derived.Test.YtjhhehjjnfnigaaGreatDoorVNEv
import Derived.Test.YtjhhehjjnfnigaaGreatDoorVMore
/- 'copy' of a row of elements of any size: the row that is written, whole. -/
namespace Go.Proofs.YtjhhehjjnfnigaaGreatDoor.U
open Go Go.RowKit Go.Lib Go.Proofs.YtjhhehjjnfnigaaGreatDoorW.PrintWords
set_option linter.unusedVariables false
set_option linter.unusedSimpArgs false

theorem run_copy_row_n {P : Program} (w : World) (dT sT ty elem : TypeId) (g o dLen dCap : Nat) (a : Addr) (sLen sCap : Nat) (cur : Array Value) (t : TypeId) (cs : List Value) (s m : Nat)
    (hu : P.underlying dT = some (.slice elem)) (hs : (P.info? elem).map (·.size) = some s)
    (hg : w.heap[g]? = some (.cells cur t (0, 0))) (hm : m = Nat.min sLen dLen) (hn : cs.length = m * s)
    (hsrc : ∀ j v, cs[j]? = some v → w.cell? (a.add j) = some v) (hfit : o + cs.length ≤ cur.size) (h1 : ∀ v ∈ cs, v.oneCell' = true) :
    (Builtin.copy_ #[dT, sT] ty #[.slice (some ⟨g, o, none⟩) dLen dCap, .slice (some a) sLen sCap]).run P w =
      .ok (goInt m) (w.setRow g (cur.toList.take o ++ cs ++ cur.toList.drop (o + cs.length)).toArray) := by
  have hl := run_loadCells_list (P := P) w a cs hsrc
  have hst := run_storeCells_at P g o t cs 0 cur w hg (by simpa using hfit) h1
  cases hq : P.info? elem with
  | none => simp [hq] at hs
  | some i =>
    have hi : i.size = s := by simpa [hq] using hs
    simp [Builtin.copy_, run_underlying hu, Builtin.lenOf, Builtin.firstCells, sizeOf, typeInfo, hq, hi, ← hm, ← hn, hl, hst]

/-- What one row of elements is after an insertion that had room: the cells ahead, the new ones, those that stood behind; what lies behind these stays. -/
theorem ins_list {α : Type} (cur new : List α) (i n s : Nat) (hi : i ≤ n) (hs : new.length = s) (hl : (n + 1) * s ≤ cur.length) :
    let mid := cur.take ((i + 1) * s) ++ (cur.drop (i * s)).take ((n - i) * s) ++ cur.drop ((n + 1) * s)
    (mid.take (i * s) ++ new ++ mid.drop (i * s + s)) = (cur.take (i * s) ++ new ++ (cur.take (n * s)).drop (i * s)) ++ cur.drop ((n + 1) * s) := by
  intro mid
  have e1 : (i + 1) * s = i * s + s := by rw [Nat.add_mul, Nat.one_mul]
  have e2 : (n + 1) * s = n * s + s := by rw [Nat.add_mul, Nat.one_mul]
  have e3 : (n - i) * s = n * s - i * s := Nat.sub_mul n i s
  have e4 : i * s ≤ n * s := Nat.mul_le_mul_right s hi
  have h1 : mid.take (i * s) = cur.take (i * s) := by
    show (cur.take ((i + 1) * s) ++ (cur.drop (i * s)).take ((n - i) * s) ++ cur.drop ((n + 1) * s)).take (i * s) = _
    rw [List.append_assoc, List.take_append_of_le_length (by rw [List.length_take]; omega), List.take_take, Nat.min_eq_left (by omega)]
  have h2 : mid.drop (i * s + s) = (cur.drop (i * s)).take ((n - i) * s) ++ cur.drop ((n + 1) * s) := by
    show (cur.take ((i + 1) * s) ++ (cur.drop (i * s)).take ((n - i) * s) ++ cur.drop ((n + 1) * s)).drop (i * s + s) = _
    have hlen : (cur.take ((i + 1) * s)).length = i * s + s := by rw [List.length_take]; omega
    rw [List.append_assoc, List.drop_append, hlen, Nat.sub_self, List.drop_zero, List.drop_of_length_le (by omega), List.nil_append]
  rw [h1, h2, e3, List.drop_take]
  simp [List.append_assoc]
end Go.Proofs.YtjhhehjjnfnigaaGreatDoor.U

namespace Go.Proofs.YtjhhehjjnfnigaaGreatDoor.Q
open Go.RowKit Go.Proofs.YtjhhehjjnfnigaaGreatDoorW.PrintWords Go.Proofs.YtjhhehjjnfnigaaGreatDoorW.PrintLast Go.Proofs.YtjhhehjjnfnigaaGreatDoorW.PrintMore
attribute [local go_sem] max2_int min2_int max_two min_two max_three min_three max_four min_four   -- for this text's walks alone
set_option linter.unusedVariables false
set_option linter.unusedSimpArgs false



def errW : Option Int → Value
  | none => .nilIface
  | some c => .iface 117 (.int .i64 c)
theorem errW_none : errW none = .nilIface := rfl
theorem errW_some (c : Int) : errW (some c) = .iface 117 (.int .i64 c) := rfl

theorem info5 : (Tryz.prog.info? 5).map (fun i => (i.zero, i.size, i.bytes)) = some (some (.int .u8 0), 1, 1) := by kernel_rfl
theorem info9 : (Tryz.prog.info? 9).map (fun i => (i.zero, i.size, i.bytes)) = some (some (.string ⟨#[]⟩), 1, 16) := by kernel_rfl
theorem info37 : (Tryz.prog.info? 37).map (fun i => (i.zero, i.size, i.bytes)) = some (some (.agg #[(.string ⟨#[]⟩), (.string ⟨#[]⟩)]), 2, 32) := by kernel_rfl
-- the values' own types
/-! #### struct type 33 -/
structure S33 where
  f0 : ByteArray
  f1 : ByteArray
def z33 : S33 := ⟨(⟨#[]⟩ : ByteArray), (⟨#[]⟩ : ByteArray)⟩
def k33 : Kd S33 := Kd.iso (Kd.pair Kd.string Kd.string) (fun x : S33 => (x.f0, x.f1))
theorem k33_open {w : World} {x : S33} {cs : List Value} (h : k33.K w x cs) : cs = [.string x.f0, .string x.f1] := by
  obtain ⟨_, _, rfl, rfl, rfl⟩ := h
  exact rfl
def rd_T33 (xs : List S33) (i : Int) : S33 := xs.getD i.toNat z33
theorem at_T33 {w : World} {A : Option Addr} {n : Nat} {xs : List S33} (h : Kd.C k33 w A n xs) (i : Int) (h0 : 0 ≤ i) (h1 : i < n) : ∃ ad , A = some ad ∧ w.cell? (ad.add (i.toNat * 2)) = some (.string (rd_T33 xs i).f0) ∧ w.cell? ⟨(ad.add (i.toNat * 2)).block, (ad.add (i.toNat * 2)).off + 1, none⟩ = some (.string (rd_T33 xs i).f1) := by
  obtain ⟨ad, c, e, _, hK, hc0⟩ := Kd.C_get h z33 i h0 h1
  have hc : ∀ j u, c[j]? = some u → w.cell? (ad.add (i.toNat * 2 + j)) = some u := hc0
  obtain rfl := k33_open hK
  exact ⟨ad, e, hc 0 _ rfl, by rw [← add_field _ _ 1 (by omega)]; exact hc 1 _ rfl⟩

/-! #### struct type 37 -/
structure S37 where
  f0 : ByteArray
  f1 : ByteArray
def z37 : S37 := ⟨(⟨#[]⟩ : ByteArray), (⟨#[]⟩ : ByteArray)⟩
def k37 : Kd S37 := Kd.iso (Kd.pair Kd.string Kd.string) (fun x : S37 => (x.f0, x.f1))
theorem k37_open {w : World} {x : S37} {cs : List Value} (h : k37.K w x cs) : cs = [.string x.f0, .string x.f1] := by
  obtain ⟨_, _, rfl, rfl, rfl⟩ := h
  exact rfl
theorem k37_openM {w : World} {base : Nat} {ok : Nat → Prop} {x : S37} {cs : List Value} (h : k37.M w base ok x cs) : cs = [.string x.f0, .string x.f1] := by
  obtain ⟨_, _, rfl, rfl, rfl⟩ := h
  exact rfl
theorem k37_mkM (w : World) (base : Nat) (ok : Nat → Prop) (x : S37)  : k37.M w base ok x [.string x.f0, .string x.f1] := ⟨[.string x.f0], [.string x.f1], rfl, rfl, rfl⟩
def rd_T37 (xs : List S37) (i : Int) : S37 := xs.getD i.toNat z37
theorem at_T37 {w : World} {A : Option Addr} {n : Nat} {xs : List S37} (h : Kd.C k37 w A n xs) (i : Int) (h0 : 0 ≤ i) (h1 : i < n) : ∃ ad , A = some ad ∧ w.cell? (ad.add (i.toNat * 2)) = some (.string (rd_T37 xs i).f0) ∧ w.cell? ⟨(ad.add (i.toNat * 2)).block, (ad.add (i.toNat * 2)).off + 1, none⟩ = some (.string (rd_T37 xs i).f1) := by
  obtain ⟨ad, c, e, _, hK, hc0⟩ := Kd.C_get h z37 i h0 h1
  have hc : ∀ j u, c[j]? = some u → w.cell? (ad.add (i.toNat * 2 + j)) = some u := hc0
  obtain rfl := k37_open hK
  exact ⟨ad, e, hc 0 _ rfl, by rw [← add_field _ _ 1 (by omega)]; exact hc 1 _ rfl⟩





open Go.RowKit renaming wrap64 → ζm
open Go.Proofs.YtjhhehjjnfnigaaGreatDoorW.PrintWords.Aside0 renaming mk → ζa
open Go.Proofs.YtjhhehjjnfnigaaGreatDoorW.PrintWords renaming gate_dst → δx, below_step → δr, blk_cell → δl, blk_frozen → δm
set_option maxHeartbeats 8000000
set_option maxRecDepth 100000

/-! ### laws_szPair: function 11 -/
def laws_szPair.f (a0_0:ByteArray) (a0_1:ByteArray) (a1:Int):Option (Int):=if (ζm (a1 - (a0_0.size:Int)))<0 then (some (-1)) else (if (ζm ((ζm (a1 - (a0_0.size:Int))) - (a0_1.size:Int)))<0 then (some (-1)) else (some (ζm ((ζm (a1 - (a0_0.size:Int))) - (a0_1.size:Int)))))
theorem laws_szPair.calls (a0_0:ByteArray) (a0_1:ByteArray) (a1:Int) (r:Int) (w:World) (h:laws_szPair.f a0_0 a0_1 a1=some r) :
  Calls Tryz.prog 11 #[.agg #[.string a0_0,.string a0_1],.int .i64 a1] w fun e w'=>e = .returned (.int .i64 r)∧Below w.heap.size w w':=by
 have hu33:=Tryz.underlying33
 have HB:=ζa (Below.refl w.heap.size w)
 have H:(if (ζm (a1 - (a0_0.size:Int)))<0 then (some (-1)) else (if (ζm ((ζm (a1 - (a0_0.size:Int))) - (a0_1.size:Int)))<0 then (some (-1)) else (some (ζm ((ζm (a1 - (a0_0.size:Int))) - (a0_1.size:Int))))))=some r:=h
 clear h
 by_cases c3:(ζm (a1 - (a0_0.size:Int)))<0
 ·
  rw [if_pos c3] at H
  have c3b0:=decide_eq_true c3
  clear c3
  obtain rfl:=Option.some.inj H
  go_enter Tryz.func11,Tryz.ntmps11
  go_wp2_with (((with_reducible refine δx (N:=2) rfl ?_);refine bev 2 #[.string a0_0,.string a0_1] 33 ?_;intro gb101 hg w4 hbox hb;have BK101:=ζa (hbox);have GW101:=ζa (gbw hg (by exact HB.out));have GE101:=ζa (gbw hg (by exact HB.out));replace HB:=ζa (δr (by exact HB.out) hb);clear hb hbox hg;have hcz5_0:w4.cell? ⟨gb101,0,none⟩=some (.string a0_0):=(δl BK101.out 0).trans rfl;have hcz5_1:w4.cell? ⟨gb101,1,none⟩=some (.string a0_1):=(δl BK101.out 1).trans rfl;have hfz5_0:=δm BK101.out 0;have hfz5_1:=δm BK101.out 1))
  go_ret
  exact ⟨by rfl,by repeat ((with_reducible exact HB.out))⟩
 ·
  rw [if_neg c3] at H
  have c3b0:=decide_eq_false c3
  clear c3
  by_cases c6:(ζm ((ζm (a1 - (a0_0.size:Int))) - (a0_1.size:Int)))<0
  ·
   rw [if_pos c6] at H
   have c6b0:=decide_eq_true c6
   clear c6
   obtain rfl:=Option.some.inj H
   go_enter Tryz.func11,Tryz.ntmps11
   go_wp2_with (((with_reducible refine δx (N:=2) rfl ?_);refine bev 2 #[.string a0_0,.string a0_1] 33 ?_;intro gb101 hg w7 hbox hb;have BK101:=ζa (hbox);have GW101:=ζa (gbw hg (by exact HB.out));have GE101:=ζa (gbw hg (by exact HB.out));replace HB:=ζa (δr (by exact HB.out) hb);clear hb hbox hg;have hcz8_0:w7.cell? ⟨gb101,0,none⟩=some (.string a0_0):=(δl BK101.out 0).trans rfl;have hcz8_1:w7.cell? ⟨gb101,1,none⟩=some (.string a0_1):=(δl BK101.out 1).trans rfl;have hfz8_0:=δm BK101.out 0;have hfz8_1:=δm BK101.out 1))
   go_ret
   exact ⟨by rfl,by repeat ((with_reducible exact HB.out))⟩
  ·
   rw [if_neg c6] at H
   have c6b0:=decide_eq_false c6
   clear c6
   obtain rfl:=Option.some.inj H
   go_enter Tryz.func11,Tryz.ntmps11
   go_wp2_with (((with_reducible refine δx (N:=2) rfl ?_);refine bev 2 #[.string a0_0,.string a0_1] 33 ?_;intro gb101 hg w9 hbox hb;have BK101:=ζa (hbox);have GW101:=ζa (gbw hg (by exact HB.out));have GE101:=ζa (gbw hg (by exact HB.out));replace HB:=ζa (δr (by exact HB.out) hb);clear hb hbox hg;have hcz10_0:w9.cell? ⟨gb101,0,none⟩=some (.string a0_0):=(δl BK101.out 0).trans rfl;have hcz10_1:w9.cell? ⟨gb101,1,none⟩=some (.string a0_1):=(δl BK101.out 1).trans rfl;have hfz10_0:=δm BK101.out 0;have hfz10_1:=δm BK101.out 1))
   go_ret
   exact ⟨by rfl,by repeat ((with_reducible exact HB.out))⟩


open Go.Proofs.YtjhhehjjnfnigaaGreatDoorW.PrintWords renaming gate_callee → δv, below_step → δr
set_option maxHeartbeats 8000000
set_option maxRecDepth 100000

/-! ### laws_szPairS: function 4 -/
def laws_szPairS.l0:Nat→List (S33)→Int→Int→Option (Int)
 | 0,_,_,_=>none
 | k+1,x0,x1,x5=>if x5<(x0.length:Int) then (if 0≤x5 then ((laws_szPair.f ((rd_T33 x0 x5).f0) ((rd_T33 x0 x5).f1) x1).bind fun t103=>(if t103<0 then (some (-1)) else (laws_szPairS.l0 k x0 t103 (ζm (x5+1))))) else (none)) else (some x1)
def laws_szPairS.f (k:Nat) (l0:List (S33)) (a1:Int):Option (Int):=if (ζm (a1 - (l0.length:Int)))<0 then (some (-1)) else (laws_szPairS.l0 k l0 (ζm (a1 - (l0.length:Int))) 0)
theorem laws_szPairS.calls (k:Nat) (A0:Option Addr) (c0:Nat) (l0:List (S33)) (a1:Int) (r:Int) (w:World) (hr0:Kd.C k33 w A0 l0.length l0) (hc0:l0.length≤c0) (h:laws_szPairS.f k l0 a1=some r) :
  Calls Tryz.prog 4 #[.slice A0 l0.length c0,.int .i64 a1] w fun e w'=>e = .returned (.int .i64 r)∧Below w.heap.size w w':=by
 have hu33:=Tryz.underlying33
 have HR0:=ζa hr0
 have HC0:=ζa hc0
 clear hr0 hc0
 have HB:=ζa (Below.refl w.heap.size w)
 have H:(if (ζm (a1 - (l0.length:Int)))<0 then (some (-1)) else (laws_szPairS.l0 k l0 (ζm (a1 - (l0.length:Int))) 0))=some r:=h
 clear h
 by_cases c3:(ζm (a1 - (l0.length:Int)))<0
 ·
  rw [if_pos c3] at H
  have c3b0:=decide_eq_true c3
  clear c3
  obtain rfl:=Option.some.inj H
  go_enter Tryz.func4,Tryz.ntmps4
  go_wp2
  go_ret
  exact ⟨by rfl,by repeat ((with_reducible exact HB.out))⟩
 ·
  rw [if_neg c3] at H
  have c3b0:=decide_eq_false c3
  clear c3
  have H':=ζa H
  clear H
  go_enter Tryz.func4,Tryz.ntmps4
  go_wp2
  go_loopg [1,5] k (fun kq v1 v5 w' => ∃ (x1_1:Int) (x5_1:Int),v1 = .int .i64 x1_1∧v5 = .int .i64 x5_1∧Aside0 (laws_szPairS.l0 kq l0 x1_1 x5_1=some r)∧Aside0 (kq≤k)∧Aside0 (Below w.heap.size w w'))
  case atStart=>exact ⟨(ζm (a1 - (l0.length:Int))),(0),(by rfl),(by rfl),H',⟨Nat.le_refl _⟩,⟨by repeat ((with_reducible exact HB.out))⟩⟩
  case round =>
   clear H'
   try clear p2
   try clear c3
   try clear c3b0
   obtain ⟨x1_1,x5_1,rfl,rfl,HA,HK1,HB⟩:=hrel
   cases gk with
   | zero=>exact absurd HA.out (by simp [laws_szPairS.l0])
   | succ k1 =>
    have H:=HA.out
    clear HA
    simp only [laws_szPairS.l0] at H
    by_cases c4:x5_1<(l0.length:Int)
    ·
     rw [if_pos c4] at H
     have c4b0:=decide_eq_true c4
     clear c4
     by_cases c5:0≤x5_1
     ·
      rw [if_pos c5] at H
      have c5b0:=decide_eq_true c5
      clear c5
      obtain ⟨t103,A6,H⟩:=bsm H
      by_cases c7:t103<0
      ·
       rw [if_pos c7] at H
       have c7b0:=decide_eq_true c7
       clear c7
       obtain rfl:=Option.some.inj H
       have p102:0≤(x5_1:Int):=of_decide_eq_true (by (with_reducible assumption))
       have q102:x5_1<(l0.length:Int):=of_decide_eq_true (by (with_reducible assumption))
       obtain ⟨ad102,e102,hx102_0,hx102_1⟩:=at_T33 HR0.out x5_1 p102 q102
       cases e102
       replace hx102_0:=(HB.out.cell (World.block_lt_of_cell? w _ hx102_0)).trans hx102_0
       replace hx102_1:=(HB.out.cell (World.block_lt_of_cell? w _ hx102_1)).trans hx102_1
       replace p102:=eq_true p102
       replace q102:=eq_true q102
       go_wp2_with (((with_reducible refine δv (f:=11) rfl ?_);refine gl 23 Tryz.func11 #[.agg #[.string ((rd_T33 l0 x5_1).f0),.string ((rd_T33 l0 x5_1).f1)],.int .i64 x1_1] ?_;(with_reducible refine (laws_szPair.calls ((rd_T33 l0 x5_1).f0) ((rd_T33 l0 x5_1).f1) x1_1 t103 _ A6.out).mono ?_);rintro e w8 ⟨rfl,hb⟩;refine ⟨_,rfl,?_⟩;replace HB:=ζa (δr (by exact HB.out) hb);(try clear hb);(try clear hb2);(try clear hk);(try clear hi)))
       go_ret
       exact ⟨by rfl,by repeat ((with_reducible exact HB.out))⟩
      ·
       rw [if_neg c7] at H
       have c7b0:=decide_eq_false c7
       clear c7
       have H':=ζa H
       clear H
       have p102:0≤(x5_1:Int):=of_decide_eq_true (by (with_reducible assumption))
       have q102:x5_1<(l0.length:Int):=of_decide_eq_true (by (with_reducible assumption))
       obtain ⟨ad102,e102,hx102_0,hx102_1⟩:=at_T33 HR0.out x5_1 p102 q102
       cases e102
       replace hx102_0:=(HB.out.cell (World.block_lt_of_cell? w _ hx102_0)).trans hx102_0
       replace hx102_1:=(HB.out.cell (World.block_lt_of_cell? w _ hx102_1)).trans hx102_1
       replace p102:=eq_true p102
       replace q102:=eq_true q102
       go_wp2_with (((with_reducible refine δv (f:=11) rfl ?_);refine gl 23 Tryz.func11 #[.agg #[.string ((rd_T33 l0 x5_1).f0),.string ((rd_T33 l0 x5_1).f1)],.int .i64 x1_1] ?_;(with_reducible refine (laws_szPair.calls ((rd_T33 l0 x5_1).f0) ((rd_T33 l0 x5_1).f1) x1_1 t103 _ A6.out).mono ?_);rintro e w9 ⟨rfl,hb⟩;refine ⟨_,rfl,?_⟩;replace HB:=ζa (δr (by exact HB.out) hb);(try clear hb);(try clear hb2);(try clear hk);(try clear hi)))
       go_roundg k1
       case measure=>have:=HK1.out;omega
       case rel=>exact ⟨(t103),(ζm (x5_1+1)),(by rfl),(by rfl),H',⟨by have:=HK1.out;omega⟩,⟨by repeat ((with_reducible exact HB.out))⟩⟩
     ·
      rw [if_neg c5] at H
      exact absurd H (by simp)
    ·
     rw [if_neg c4] at H
     have c4b0:=decide_eq_false c4
     clear c4
     obtain rfl:=Option.some.inj H
     go_wp2
     go_ret
     exact ⟨by rfl,by repeat ((with_reducible exact HB.out))⟩


open Bool renaming true → τ, false → φ
set_option maxHeartbeats 8000000
set_option maxRecDepth 100000

/-! ### spec_l01In: function 75 -/
def spec_l01In.f (a0:Int) (a1:Int) (a2:Int):Option (Bool):=if a0 ≥ a1 then (some (decide (a0≤a2))) else (some φ)
theorem spec_l01In.calls (a0:Int) (a1:Int) (a2:Int) (r:Bool) (w:World) (h:spec_l01In.f a0 a1 a2=some r) :
  Calls Tryz.prog 75 #[.int .i64 a0,.int .i64 a1,.int .i64 a2] w fun e w'=>e = .returned (.bool r)∧Drawn0 w w':=by
 have H:(if a0 ≥ a1 then (some (decide (a0≤a2))) else (some φ))=some r:=h
 clear h
 by_cases c4:a0 ≥ a1
 ·
  rw [if_pos c4] at H
  have c4b0:decide (a1≤a0)=τ:=decide_eq_true c4
  clear c4
  obtain rfl:=Option.some.inj H
  go_enter Tryz.func75,Tryz.ntmps75
  go_wp2
  go_ret
  exact ⟨by rfl,by repeat (exact Drawn0.refl _)⟩
 ·
  rw [if_neg c4] at H
  have c4b0:decide (a1≤a0)=φ:=decide_eq_false c4
  clear c4
  obtain rfl:=Option.some.inj H
  go_enter Tryz.func75,Tryz.ntmps75
  go_wp2
  go_ret
  exact ⟨by rfl,by repeat (exact Drawn0.refl _)⟩


open Go.Proofs.YtjhhehjjnfnigaaGreatDoorW.PrintWords renaming gate_callee → δv
set_option maxHeartbeats 8000000
set_option maxRecDepth 100000

/-! ### spec_l03Key: function 73 -/
def spec_l03Key.f (a0:ByteArray):Option (Bool):=(spec_l01In.f (a0.size:Int) 1 60).bind fun t104=>(some t104)
theorem spec_l03Key.calls (a0:ByteArray) (r:Bool) (w:World) (h:spec_l03Key.f a0=some r) :
  Calls Tryz.prog 73 #[.string a0] w fun e w'=>e = .returned (.bool r)∧Drawn0 w w':=by
 have H:((spec_l01In.f (a0.size:Int) 1 60).bind fun t104=>(some t104))=some r:=h
 clear h
 obtain ⟨t104,A2,H⟩:=bsm H
 obtain rfl:=Option.some.inj H
 go_enter Tryz.func73,Tryz.ntmps73
 go_wp2_with (((with_reducible refine δv (f:=75) rfl ?_);refine gl 5 Tryz.func75 #[.int .i64 (a0.size:Int),.int .i64 1,.int .i64 60] ?_;(with_reducible refine (spec_l01In.calls (a0.size:Int) 1 60 t104 _ A2.out).mono ?_);rintro e w' ⟨rfl,⟨nd,rfl⟩⟩;refine ⟨_,rfl,?_⟩))
 go_ret
 exact ⟨by rfl,by repeat (first|exact Drawn0.refl _|apply Drawn0.step)⟩


open Go.Proofs.YtjhhehjjnfnigaaGreatDoorW.PrintWords renaming gate_dst → δx, below_step → δr, blk_cell → δl, blk_frozen → δm, gate_callee → δv, pw_below_drewN → δi
set_option maxHeartbeats 8000000
set_option maxRecDepth 100000

/-! ### spec_l03Pair: function 38 -/
def spec_l03Pair.f (a0_0:ByteArray) (a0_1:ByteArray):Option (Bool):=(spec_l03Key.f a0_0).bind fun t106=>(if t106=τ then (some (decide ((a0_1.size:Int)≤1000))) else (some φ))
theorem spec_l03Pair.calls (a0_0:ByteArray) (a0_1:ByteArray) (r:Bool) (w:World) (h:spec_l03Pair.f a0_0 a0_1=some r) :
  Calls Tryz.prog 38 #[.agg #[.string a0_0,.string a0_1]] w fun e w'=>e = .returned (.bool r)∧Below w.heap.size w w':=by
 have hu37:=Tryz.underlying37
 have HB:=ζa (Below.refl w.heap.size w)
 have H:((spec_l03Key.f a0_0).bind fun t106=>(if t106=τ then (some (decide ((a0_1.size:Int)≤1000))) else (some φ)))=some r:=h
 clear h
 obtain ⟨t106,A2,H⟩:=bsm H
 by_cases c3:t106=τ
 ·
  subst c3
  rw [ifT] at H
  obtain rfl:=Option.some.inj H
  go_enter Tryz.func38,Tryz.ntmps38
  go_wp2_with (first|((with_reducible refine δx (N:=1) rfl ?_);(try (refine gate_guard (by rfl) ?_;dsimp only));refine bev 1 #[.string a0_0,.string a0_1] 37 ?_;intro gb105 hg w4 hbox hb;have BK105:=ζa (hbox);have GW105:=ζa (gbw hg (by exact HB.out));have GE105:=ζa (gbw hg (by exact HB.out));replace HB:=ζa (δr (by exact HB.out) hb);clear hb hbox hg;have hcz5_0:w4.cell? ⟨gb105,0,none⟩=some (.string a0_0):=(δl BK105.out 0).trans rfl;have hcz5_1:w4.cell? ⟨gb105,1,none⟩=some (.string a0_1):=(δl BK105.out 1).trans rfl;have hfz5_0:=δm BK105.out 0;have hfz5_1:=δm BK105.out 1)|((with_reducible refine δv (f:=73) rfl ?_);refine gl 5 Tryz.func73 #[.string a0_0] ?_;(with_reducible refine (spec_l03Key.calls a0_0 τ _ A2.out).mono ?_);rintro e w' ⟨rfl,⟨nd,rfl⟩⟩;refine ⟨_,rfl,?_⟩))
  go_ret
  exact ⟨by rfl,by repeat ((with_reducible first|exact HB.out|apply δi))⟩
 ·
  replace c3:=Bool.eq_false_iff.mpr c3
  subst c3
  rw [ifF] at H
  obtain rfl:=Option.some.inj H
  go_enter Tryz.func38,Tryz.ntmps38
  go_wp2_with (first|((with_reducible refine δx (N:=1) rfl ?_);(try (refine gate_guard (by rfl) ?_;dsimp only));refine bev 1 #[.string a0_0,.string a0_1] 37 ?_;intro gb105 hg w6 hbox hb;have BK105:=ζa (hbox);have GW105:=ζa (gbw hg (by exact HB.out));have GE105:=ζa (gbw hg (by exact HB.out));replace HB:=ζa (δr (by exact HB.out) hb);clear hb hbox hg;have hcz7_0:w6.cell? ⟨gb105,0,none⟩=some (.string a0_0):=(δl BK105.out 0).trans rfl;have hcz7_1:w6.cell? ⟨gb105,1,none⟩=some (.string a0_1):=(δl BK105.out 1).trans rfl;have hfz7_0:=δm BK105.out 0;have hfz7_1:=δm BK105.out 1)|((with_reducible refine δv (f:=73) rfl ?_);refine gl 5 Tryz.func73 #[.string a0_0] ?_;(with_reducible refine (spec_l03Key.calls a0_0 φ _ A2.out).mono ?_);rintro e w' ⟨rfl,⟨nd,rfl⟩⟩;refine ⟨_,rfl,?_⟩))
  go_ret
  exact ⟨by rfl,by repeat ((with_reducible first|exact HB.out|apply δi))⟩


open Go.Proofs.YtjhhehjjnfnigaaGreatDoorW.PrintWords renaming below_drew1 → δj, below_step → δr
open Go.Proofs.YtjhhehjjnfnigaaGreatDoorW.PrintLast renaming pure_ → ζk, any_of → ζj
open Go.Act renaming put → ζl
open List renaming setIfInBounds_toArray → δa, set_cons_zero → δb, set_cons_succ → δc
set_option maxHeartbeats 8000000
set_option maxRecDepth 100000

/-! ### spec_StoreOK: function 19 -/
def spec_StoreOK.l0:Nat→List (S37)→Int→Option (Bool)
 | 0,_,_=>none
 | k+1,x0,x3=>if x3<(x0.length:Int) then (if 0≤x3 then ((spec_l03Pair.f ((rd_T37 x0 x3).f0) ((rd_T37 x0 x3).f1)).bind fun t108=>(if t108=τ then (if x3 > 0 then (if 0≤(ζm (x3 - 1)) then (if (ζm (x3 - 1))<(x0.length:Int) then (if ((Op.bytesLess (((rd_T37 x0 (ζm (x3 - 1))).f0).toList) (((rd_T37 x0 x3).f0).toList))=τ) then (spec_StoreOK.l0 k x0 (ζm (x3+1))) else (some φ)) else (none)) else (none)) else (spec_StoreOK.l0 k x0 (ζm (x3+1)))) else (some φ))) else (none)) else (some τ)
def spec_StoreOK.f (k:Nat) (l0:List (S37)):Option (Bool):=if (l0.length:Int) > 4096 then (some φ) else (if (l0.length:Int) > 400 then (some φ) else (spec_StoreOK.l0 k l0 0))
def spec_StoreOK.T8:Bool × List (List Nat × List Nat):=(τ,[([],[]),([],[]),([0,1],[0,1]),([2],[2]),([3],[3]),([4],[4]),([5,4],[5]),([6],[6]),([7,6],[6,7]),([8,6,6],[6,8]),([9],[9]),([9],[9]),([11,9],[9,11]),([10,12,9],[9,10,12]),([13,9],[9,13]),([14,9],[9,14]),([9],[9]),([9],[9]),([16,17,9],[9,16,17]),([18,9],[9,18]),([19,9],[9,19]),([15,20,9],[9,15,20]),([9,21,6],[6,9,21]),([6,22],[6,22])])
def spec_StoreOK.B8:List Nat:=[0,0,3,7,15,31,63,127,255,511,1023,1023,3071,8191,16383,32767,1023,1023,197631,459775,984063,2097151,4194303,8388607]
theorem spec_StoreOK.tab8:rtab .any (opsOf Tryz.f19 8)=spec_StoreOK.T8:=by kernel_rfl
theorem spec_StoreOK.bits8:waitsOk spec_StoreOK.T8.2 spec_StoreOK.B8=τ:=by kernel_rfl
theorem spec_StoreOK.calls (k:Nat) (A0:Option Addr) (c0:Nat) (l0:List (S37)) (r:Bool) (w:World) (hr0:Kd.C k37 w A0 l0.length l0) (hc0:l0.length≤c0) (h:spec_StoreOK.f k l0=some r) :
  Calls Tryz.prog 19 #[.slice A0 l0.length c0] w fun e w'=>e = .returned (.bool r)∧Below w.heap.size w w':=by
 have hu37:=Tryz.underlying37
 have HR0:=ζa hr0
 have HC0:=ζa hc0
 clear hr0 hc0
 have HB:=ζa (Below.refl w.heap.size w)
 have H:(if (l0.length:Int) > 4096 then (some φ) else (if (l0.length:Int) > 400 then (some φ) else (spec_StoreOK.l0 k l0 0)))=some r:=h
 clear h
 by_cases c2:(l0.length:Int) > 4096
 ·
  rw [if_pos c2] at H
  have c2b0:decide (4096<(l0.length:Int))=τ:=decide_eq_true c2
  have c2b1:decide (4096<l0.length)=τ:=decide_eq_true (by omega)
  clear c2
  obtain rfl:=Option.some.inj H
  go_enter Tryz.func19,Tryz.ntmps19
  go_wp2
  go_ret
  exact ⟨by rfl,by repeat ((with_reducible exact HB.out))⟩
 ·
  rw [if_neg c2] at H
  have c2b0:decide (4096<(l0.length:Int))=φ:=decide_eq_false c2
  have c2b1:decide (4096<l0.length)=φ:=decide_eq_false (by omega)
  clear c2
  by_cases c3:(l0.length:Int) > 400
  ·
   rw [if_pos c3] at H
   have c3b0:decide (400<(l0.length:Int))=τ:=decide_eq_true c3
   have c3b1:decide (400<l0.length)=τ:=decide_eq_true (by omega)
   clear c3
   obtain rfl:=Option.some.inj H
   go_enter Tryz.func19,Tryz.ntmps19
   go_wp2
   go_ret
   exact ⟨by rfl,by repeat ((with_reducible exact HB.out))⟩
  ·
   rw [if_neg c3] at H
   have c3b0:decide (400<(l0.length:Int))=φ:=decide_eq_false c3
   have c3b1:decide (400<l0.length)=φ:=decide_eq_false (by omega)
   clear c3
   have H':=ζa H
   clear H
   go_enter Tryz.func19,Tryz.ntmps19
   go_wp2
   go_loopg [3] k (fun kq v3 w' => ∃ (x3_1:Int),v3 = .int .i64 x3_1∧Aside0 (spec_StoreOK.l0 kq l0 x3_1=some r)∧Aside0 (kq≤k)∧Aside0 (Below w.heap.size w w'))
   case atStart=>exact ⟨(0),(by rfl),H',⟨Nat.le_refl _⟩,⟨by repeat ((with_reducible exact HB.out))⟩⟩
   case round =>
    clear H'
    try clear c1
    try clear c2
    try clear c2b0
    try clear c2b1
    try clear p2
    try clear c3
    try clear c3b0
    try clear c3b1
    obtain ⟨x3_1,rfl,HA,HK1,HB⟩:=hrel
    cases gk with
    | zero=>exact absurd HA.out (by simp [spec_StoreOK.l0])
    | succ k1 =>
     have H:=HA.out
     clear HA
     simp only [spec_StoreOK.l0] at H
     by_cases c4:x3_1<(l0.length:Int)
     ·
      rw [if_pos c4] at H
      have c4b0:=decide_eq_true c4
      clear c4
      by_cases c5:0≤x3_1
      ·
       rw [if_pos c5] at H
       have c5b0:=decide_eq_true c5
       clear c5
       obtain ⟨t108,A6,H⟩:=bsm H
       by_cases c7:t108=τ
       ·
        subst c7
        rw [ifT] at H
        by_cases c8:x3_1 > 0
        ·
         rw [if_pos c8] at H
         have c8b0:decide (0<x3_1)=τ:=decide_eq_true c8
         clear c8
         obtain ⟨ji9,hji9⟩ : ∃ j_:Int,(ζm (x3_1 - 1))=j_:=⟨_,rfl⟩
         replace H:(if 0≤(ji9) then (if (ji9)<(l0.length:Int) then (if ((Op.bytesLess (((rd_T37 l0 (ji9)).f0).toList) (((rd_T37 l0 x3_1).f0).toList))=τ) then (spec_StoreOK.l0 k1 l0 (ζm (x3_1+1))) else (some φ)) else (none)) else (none))=some r:=by (rw [hji9] at H;exact H)
         (try rw [hji9] at A6)
         have hji9w:(IntKind.i64.wrap (x3_1 - 1))=ji9:=(i64_w _).trans hji9
         by_cases c10:0≤(ji9)
         ·
          rw [if_pos c10] at H
          have c10b0:=decide_eq_true c10
          clear c10
          by_cases c11:(ji9)<(l0.length:Int)
          ·
           rw [if_pos c11] at H
           have c11b0:=decide_eq_true c11
           clear c11
           by_cases c12:((Op.bytesLess (((rd_T37 l0 (ji9)).f0).toList) (((rd_T37 l0 x3_1).f0).toList))=τ)
           ·
            rw [if_pos c12] at H
            have c12b0:(Op.bytesLess (((rd_T37 l0 (ji9)).f0).toList) (((rd_T37 l0 x3_1).f0).toList))=τ:=c12
            clear c12
            have H':=ζa H
            clear H
            try go_wp2
            replace HB:=ζa (δj HB.out)
            have p107:0≤(x3_1:Int):=of_decide_eq_true (by (with_reducible assumption))
            have q107:x3_1<(l0.length:Int):=of_decide_eq_true (by (with_reducible assumption))
            obtain ⟨ad107,e107,hx107_0,hx107_1⟩:=at_T37 HR0.out x3_1 p107 q107
            have hw107_1:=hx107_1
            have hw107_0:=hx107_0
            cases e107
            replace hx107_0:=(HB.out.cell (World.block_lt_of_cell? w _ hx107_0)).trans hx107_0
            replace hx107_1:=(HB.out.cell (World.block_lt_of_cell? w _ hx107_1)).trans hx107_1
            replace p107:=eq_true p107
            replace q107:=eq_true q107
            have p109:0≤((ji9):Int):=of_decide_eq_true (by (with_reducible assumption))
            have q109:(ji9)<(l0.length:Int):=of_decide_eq_true (by (with_reducible assumption))
            obtain ⟨ad109,e109,hx109_0,hx109_1⟩:=at_T37 HR0.out (ji9) p109 q109
            have hw109_1:=hx109_1
            have hw109_0:=hx109_0
            obtain rfl:ad107=ad109:=(by injection e109)
            replace hx109_0:=(HB.out.cell (World.block_lt_of_cell? w _ hx109_0)).trans hx109_0
            replace hx109_1:=(HB.out.cell (World.block_lt_of_cell? w _ hx109_1)).trans hx109_1
            replace p109:=eq_true p109
            replace q109:=eq_true q109
            have p110:0≤(x3_1:Int):=of_decide_eq_true (by (with_reducible assumption))
            have q110:x3_1<(l0.length:Int):=of_decide_eq_true (by (with_reducible assumption))
            obtain ⟨ad110,e110,hx110_0,hx110_1⟩:=at_T37 HR0.out x3_1 p110 q110
            have hw110_1:=hx110_1
            have hw110_0:=hx110_0
            obtain rfl:ad107=ad110:=(by injection e110)
            replace hx110_0:=(HB.out.cell (World.block_lt_of_cell? w _ hx110_0)).trans hx110_0
            replace hx110_1:=(HB.out.cell (World.block_lt_of_cell? w _ hx110_1)).trans hx110_1
            replace p110:=eq_true p110
            replace q110:=eq_true q110
            refine sta 24 (fun w'=>w'.cell? (ad107.add ((x3_1).toNat * 2))=some (.string ((rd_T37 l0 x3_1).f0))∧w'.cell? ⟨(ad107.add ((x3_1).toNat * 2)).block,(ad107.add ((x3_1).toNat * 2)).off+1,none⟩=some (.string ((rd_T37 l0 x3_1).f1))∧w'.cell? (ad107.add (((ji9)).toNat * 2))=some (.string ((rd_T37 l0 (ji9)).f0))∧w'.cell? ⟨(ad107.add (((ji9)).toNat * 2)).block,(ad107.add (((ji9)).toNat * 2)).off+1,none⟩=some (.string ((rd_T37 l0 (ji9)).f1))∧w'.cell? (ad107.add ((x3_1).toNat * 2))=some (.string ((rd_T37 l0 x3_1).f0))∧w'.cell? ⟨(ad107.add ((x3_1).toNat * 2)).block,(ad107.add ((x3_1).toNat * 2)).off+1,none⟩=some (.string ((rd_T37 l0 x3_1).f1))) [] spec_StoreOK.tab8 spec_StoreOK.bits8 ⟨((HB.out.cell (World.block_lt_of_cell? w _ hw107_0)).trans hw107_0),((HB.out.cell (World.block_lt_of_cell? w _ hw107_1)).trans hw107_1),((HB.out.cell (World.block_lt_of_cell? w _ hw109_0)).trans hw109_0),((HB.out.cell (World.block_lt_of_cell? w _ hw109_1)).trans hw109_1),((HB.out.cell (World.block_lt_of_cell? w _ hw110_0)).trans hw110_0),((HB.out.cell (World.block_lt_of_cell? w _ hw110_1)).trans hw110_1)⟩ (fun hHeld HT_ HW_ => ?_)
            generalize wr.drew=w13 at HB hx107_0 hx107_1 hx109_0 hx109_1 hx110_0 hx110_1 hHeld ⊢
            refine pu 0 16 ?_
            refine pu 1 17 ?_
            refine pu 2 18 ?_
            refine ta 3 19 ?_
            refine on 4 20 (fun K hK => ?_)
            refine gs Tryz.func38 #[.agg #[.string ((rd_T37 l0 x3_1).f0),.string ((rd_T37 l0 x3_1).f1)]] ?_
            with_reducible refine (spec_l03Pair.calls ((rd_T37 l0 x3_1).f0) ((rd_T37 l0 x3_1).f1) τ _ A6.out).mono ?_
            rintro e w14 ⟨rfl,hb⟩
            refine ⟨_,rfl,?_⟩
            replace HB:=ζa (δr (by exact HB.out) hb)
            (try clear hb)
            (try clear hb2)
            (try clear hk)
            (try clear hi)
            refine hK.out _ _ ⟨((HB.out.cell (World.block_lt_of_cell? w _ hw107_0)).trans hw107_0),((HB.out.cell (World.block_lt_of_cell? w _ hw107_1)).trans hw107_1),((HB.out.cell (World.block_lt_of_cell? w _ hw109_0)).trans hw109_0),((HB.out.cell (World.block_lt_of_cell? w _ hw109_1)).trans hw109_1),((HB.out.cell (World.block_lt_of_cell? w _ hw110_0)).trans hw110_0),((HB.out.cell (World.block_lt_of_cell? w _ hw110_1)).trans hw110_1)⟩ (fun hHeld => ?_)
            clear hK K
            refine nm 20 ?_
            refine pu 5 21 ?_
            refine pu 6 22 ?_
            refine pu 7 23 ?_
            refine pu 8 24 ?_
            refine pu 9 25 ?_
            refine pu 10 26 ?_
            refine pu 11 27 ?_
            refine pu 12 28 ?_
            refine pu 13 29 ?_
            refine pu 14 30 ?_
            refine pu 16 32 ?_
            refine pu 17 33 ?_
            refine pu 18 34 ?_
            refine pu 19 35 ?_
            refine ta 15 31 ?_
            refine ta 20 36 ?_
            refine pu 21 37 ?_
            refine pu 22 38 ?_
            refine pu 23 39 ?_
            refine done_ (done_of HT_.out (by kernel_rfl)) ?_
            try go_wp2
            go_roundg k1
            case measure=>have:=HK1.out;omega
            case rel=>exact ⟨(ζm (x3_1+1)),(by rfl),H',⟨by have:=HK1.out;omega⟩,⟨by repeat ((with_reducible exact HB.out))⟩⟩
           ·
            rw [if_neg c12] at H
            have c12b0:(Op.bytesLess (((rd_T37 l0 (ji9)).f0).toList) (((rd_T37 l0 x3_1).f0).toList))=φ:=by simpa using c12
            clear c12
            obtain rfl:=Option.some.inj H
            try go_wp2
            replace HB:=ζa (δj HB.out)
            have p107:0≤(x3_1:Int):=of_decide_eq_true (by (with_reducible assumption))
            have q107:x3_1<(l0.length:Int):=of_decide_eq_true (by (with_reducible assumption))
            obtain ⟨ad107,e107,hx107_0,hx107_1⟩:=at_T37 HR0.out x3_1 p107 q107
            have hw107_1:=hx107_1
            have hw107_0:=hx107_0
            cases e107
            replace hx107_0:=(HB.out.cell (World.block_lt_of_cell? w _ hx107_0)).trans hx107_0
            replace hx107_1:=(HB.out.cell (World.block_lt_of_cell? w _ hx107_1)).trans hx107_1
            replace p107:=eq_true p107
            replace q107:=eq_true q107
            have p109:0≤((ji9):Int):=of_decide_eq_true (by (with_reducible assumption))
            have q109:(ji9)<(l0.length:Int):=of_decide_eq_true (by (with_reducible assumption))
            obtain ⟨ad109,e109,hx109_0,hx109_1⟩:=at_T37 HR0.out (ji9) p109 q109
            have hw109_1:=hx109_1
            have hw109_0:=hx109_0
            obtain rfl:ad107=ad109:=(by injection e109)
            replace hx109_0:=(HB.out.cell (World.block_lt_of_cell? w _ hx109_0)).trans hx109_0
            replace hx109_1:=(HB.out.cell (World.block_lt_of_cell? w _ hx109_1)).trans hx109_1
            replace p109:=eq_true p109
            replace q109:=eq_true q109
            have p110:0≤(x3_1:Int):=of_decide_eq_true (by (with_reducible assumption))
            have q110:x3_1<(l0.length:Int):=of_decide_eq_true (by (with_reducible assumption))
            obtain ⟨ad110,e110,hx110_0,hx110_1⟩:=at_T37 HR0.out x3_1 p110 q110
            have hw110_1:=hx110_1
            have hw110_0:=hx110_0
            obtain rfl:ad107=ad110:=(by injection e110)
            replace hx110_0:=(HB.out.cell (World.block_lt_of_cell? w _ hx110_0)).trans hx110_0
            replace hx110_1:=(HB.out.cell (World.block_lt_of_cell? w _ hx110_1)).trans hx110_1
            replace p110:=eq_true p110
            replace q110:=eq_true q110
            refine sta 24 (fun w'=>w'.cell? (ad107.add ((x3_1).toNat * 2))=some (.string ((rd_T37 l0 x3_1).f0))∧w'.cell? ⟨(ad107.add ((x3_1).toNat * 2)).block,(ad107.add ((x3_1).toNat * 2)).off+1,none⟩=some (.string ((rd_T37 l0 x3_1).f1))∧w'.cell? (ad107.add (((ji9)).toNat * 2))=some (.string ((rd_T37 l0 (ji9)).f0))∧w'.cell? ⟨(ad107.add (((ji9)).toNat * 2)).block,(ad107.add (((ji9)).toNat * 2)).off+1,none⟩=some (.string ((rd_T37 l0 (ji9)).f1))∧w'.cell? (ad107.add ((x3_1).toNat * 2))=some (.string ((rd_T37 l0 x3_1).f0))∧w'.cell? ⟨(ad107.add ((x3_1).toNat * 2)).block,(ad107.add ((x3_1).toNat * 2)).off+1,none⟩=some (.string ((rd_T37 l0 x3_1).f1))) [] spec_StoreOK.tab8 spec_StoreOK.bits8 ⟨((HB.out.cell (World.block_lt_of_cell? w _ hw107_0)).trans hw107_0),((HB.out.cell (World.block_lt_of_cell? w _ hw107_1)).trans hw107_1),((HB.out.cell (World.block_lt_of_cell? w _ hw109_0)).trans hw109_0),((HB.out.cell (World.block_lt_of_cell? w _ hw109_1)).trans hw109_1),((HB.out.cell (World.block_lt_of_cell? w _ hw110_0)).trans hw110_0),((HB.out.cell (World.block_lt_of_cell? w _ hw110_1)).trans hw110_1)⟩ (fun hHeld HT_ HW_ => ?_)
            generalize wr.drew=w15 at HB hx107_0 hx107_1 hx109_0 hx109_1 hx110_0 hx110_1 hHeld ⊢
            refine pu 0 16 ?_
            refine pu 1 17 ?_
            refine pu 2 18 ?_
            refine ta 3 19 ?_
            refine on 4 20 (fun K hK => ?_)
            refine gs Tryz.func38 #[.agg #[.string ((rd_T37 l0 x3_1).f0),.string ((rd_T37 l0 x3_1).f1)]] ?_
            with_reducible refine (spec_l03Pair.calls ((rd_T37 l0 x3_1).f0) ((rd_T37 l0 x3_1).f1) τ _ A6.out).mono ?_
            rintro e w16 ⟨rfl,hb⟩
            refine ⟨_,rfl,?_⟩
            replace HB:=ζa (δr (by exact HB.out) hb)
            (try clear hb)
            (try clear hb2)
            (try clear hk)
            (try clear hi)
            refine hK.out _ _ ⟨((HB.out.cell (World.block_lt_of_cell? w _ hw107_0)).trans hw107_0),((HB.out.cell (World.block_lt_of_cell? w _ hw107_1)).trans hw107_1),((HB.out.cell (World.block_lt_of_cell? w _ hw109_0)).trans hw109_0),((HB.out.cell (World.block_lt_of_cell? w _ hw109_1)).trans hw109_1),((HB.out.cell (World.block_lt_of_cell? w _ hw110_0)).trans hw110_0),((HB.out.cell (World.block_lt_of_cell? w _ hw110_1)).trans hw110_1)⟩ (fun hHeld => ?_)
            clear hK K
            refine nm 20 ?_
            refine pu 5 21 ?_
            refine pu 6 22 ?_
            refine pu 7 23 ?_
            refine pu 8 24 ?_
            refine pu 9 25 ?_
            refine pu 10 26 ?_
            refine pu 11 27 ?_
            refine pu 12 28 ?_
            refine pu 13 29 ?_
            refine pu 14 30 ?_
            refine pu 16 32 ?_
            refine pu 17 33 ?_
            refine pu 18 34 ?_
            refine pu 19 35 ?_
            refine ta 15 31 ?_
            refine ta 20 36 ?_
            refine pu 21 37 ?_
            refine pu 22 38 ?_
            refine pu 23 39 ?_
            refine done_ (done_of HT_.out (by kernel_rfl)) ?_
            try go_wp2
            go_ret
            exact ⟨by rfl,by repeat ((with_reducible exact HB.out))⟩
          ·
           rw [if_neg c11] at H
           exact absurd H (by simp)
         ·
          rw [if_neg c10] at H
          exact absurd H (by simp)
        ·
         rw [if_neg c8] at H
         have c8b0:decide (0<x3_1)=φ:=decide_eq_false c8
         clear c8
         have H':=ζa H
         clear H
         try go_wp2
         replace HB:=ζa (δj HB.out)
         have p107:0≤(x3_1:Int):=of_decide_eq_true (by (with_reducible assumption))
         have q107:x3_1<(l0.length:Int):=of_decide_eq_true (by (with_reducible assumption))
         obtain ⟨ad107,e107,hx107_0,hx107_1⟩:=at_T37 HR0.out x3_1 p107 q107
         have hw107_1:=hx107_1
         have hw107_0:=hx107_0
         cases e107
         replace hx107_0:=(HB.out.cell (World.block_lt_of_cell? w _ hx107_0)).trans hx107_0
         replace hx107_1:=(HB.out.cell (World.block_lt_of_cell? w _ hx107_1)).trans hx107_1
         replace p107:=eq_true p107
         replace q107:=eq_true q107
         refine sta 24 (fun w'=>w'.cell? (ad107.add ((x3_1).toNat * 2))=some (.string ((rd_T37 l0 x3_1).f0))∧w'.cell? ⟨(ad107.add ((x3_1).toNat * 2)).block,(ad107.add ((x3_1).toNat * 2)).off+1,none⟩=some (.string ((rd_T37 l0 x3_1).f1))) [] spec_StoreOK.tab8 spec_StoreOK.bits8 ⟨((HB.out.cell (World.block_lt_of_cell? w _ hw107_0)).trans hw107_0),((HB.out.cell (World.block_lt_of_cell? w _ hw107_1)).trans hw107_1)⟩ (fun hHeld HT_ HW_ => ?_)
         generalize wr.drew=w17 at HB hx107_0 hx107_1 hHeld ⊢
         refine pu 0 16 ?_
         refine pu 1 17 ?_
         refine pu 2 18 ?_
         refine ta 3 19 ?_
         refine on 4 20 (fun K hK => ?_)
         refine gs Tryz.func38 #[.agg #[.string ((rd_T37 l0 x3_1).f0),.string ((rd_T37 l0 x3_1).f1)]] ?_
         with_reducible refine (spec_l03Pair.calls ((rd_T37 l0 x3_1).f0) ((rd_T37 l0 x3_1).f1) τ _ A6.out).mono ?_
         rintro e w18 ⟨rfl,hb⟩
         refine ⟨_,rfl,?_⟩
         replace HB:=ζa (δr (by exact HB.out) hb)
         (try clear hb)
         (try clear hb2)
         (try clear hk)
         (try clear hi)
         refine hK.out _ _ ⟨((HB.out.cell (World.block_lt_of_cell? w _ hw107_0)).trans hw107_0),((HB.out.cell (World.block_lt_of_cell? w _ hw107_1)).trans hw107_1)⟩ (fun hHeld => ?_)
         clear hK K
         refine nm 20 ?_
         refine pu 5 21 ?_
         refine pu 6 22 ?_
         refine pu 7 23 ?_
         refine pu 8 24 ?_
         refine pu 9 25 ?_
         refine ζk (i:=10) (N:=some 26) (v:=undef) (a':=?_) #[τ,τ,τ,τ,τ,τ,τ,τ,τ,τ,τ,φ,φ,φ,φ,φ,φ,φ,φ,φ,φ,φ,φ,φ] rfl rfl (ζj HT_.out (by kernel_rfl)) (fun _ _ _ h=>h) (Or.inr ⟨by rfl,rfl⟩) ?_ ?_
         rotate_left
         · simp only [ζl,δa,δb,δc,i64_w,i32_w];rfl
         refine ζk (i:=11) (N:=some 27) (v:=undef) (a':=?_) #[τ,τ,τ,τ,τ,τ,τ,τ,τ,τ,τ,τ,φ,φ,φ,φ,φ,φ,φ,φ,φ,φ,φ,φ] rfl rfl (ζj HT_.out (by kernel_rfl)) (fun _ _ _ h=>h) (Or.inr ⟨by rfl,rfl⟩) ?_ ?_
         rotate_left
         · simp only [ζl,δa,δb,δc,i64_w,i32_w];rfl
         refine ζk (i:=12) (N:=some 28) (v:=undef) (a':=?_) #[τ,τ,τ,τ,τ,τ,τ,τ,τ,τ,τ,τ,τ,φ,φ,φ,φ,φ,φ,φ,φ,φ,φ,φ] rfl rfl (ζj HT_.out (by kernel_rfl)) (fun _ _ _ h=>h) (Or.inr ⟨by rfl,rfl⟩) ?_ ?_
         rotate_left
         · simp only [ζl,δa,δb,δc,i64_w,i32_w];rfl
         refine ζk (i:=13) (N:=some 29) (v:=undef) (a':=?_) #[τ,τ,τ,τ,τ,τ,τ,τ,τ,τ,τ,τ,τ,τ,φ,φ,φ,φ,φ,φ,φ,φ,φ,φ] rfl rfl (ζj HT_.out (by kernel_rfl)) (fun _ _ _ h=>h) (Or.inr ⟨by rfl,rfl⟩) ?_ ?_
         rotate_left
         · simp only [ζl,δa,δb,δc,i64_w,i32_w];rfl
         refine ζk (i:=14) (N:=some 30) (v:=undef) (a':=?_) #[τ,τ,τ,τ,τ,τ,τ,τ,τ,τ,τ,τ,τ,τ,τ,φ,φ,φ,φ,φ,φ,φ,φ,φ] rfl rfl (ζj HT_.out (by kernel_rfl)) (fun _ _ _ h=>h) (Or.inr ⟨by rfl,rfl⟩) ?_ ?_
         rotate_left
         · simp only [ζl,δa,δb,δc,i64_w,i32_w];rfl
         refine ζk (i:=15) (N:=some 31) (v:=undef) (a':=?_) #[τ,τ,τ,τ,τ,τ,τ,τ,τ,τ,τ,τ,τ,τ,τ,τ,φ,φ,φ,φ,φ,φ,φ,φ] rfl rfl (ζj HT_.out (by kernel_rfl)) (fun _ _ _ h=>h) (Or.inr ⟨by rfl,rfl⟩) ?_ ?_
         rotate_left
         · simp only [ζl,δa,δb,δc,i64_w,i32_w];rfl
         refine ζk (i:=16) (N:=some 32) (v:=undef) (a':=?_) #[τ,τ,τ,τ,τ,τ,τ,τ,τ,τ,τ,τ,τ,τ,τ,τ,τ,φ,φ,φ,φ,φ,φ,φ] rfl rfl (ζj HT_.out (by kernel_rfl)) (fun _ _ _ h=>h) (Or.inr ⟨by rfl,rfl⟩) ?_ ?_
         rotate_left
         · simp only [ζl,δa,δb,δc,i64_w,i32_w];rfl
         refine ζk (i:=17) (N:=some 33) (v:=undef) (a':=?_) #[τ,τ,τ,τ,τ,τ,τ,τ,τ,τ,τ,τ,τ,τ,τ,τ,τ,τ,φ,φ,φ,φ,φ,φ] rfl rfl (ζj HT_.out (by kernel_rfl)) (fun _ _ _ h=>h) (Or.inr ⟨by rfl,rfl⟩) ?_ ?_
         rotate_left
         · simp only [ζl,δa,δb,δc,i64_w,i32_w];rfl
         refine ζk (i:=18) (N:=some 34) (v:=undef) (a':=?_) #[τ,τ,τ,τ,τ,τ,τ,τ,τ,τ,τ,τ,τ,τ,τ,τ,τ,τ,τ,φ,φ,φ,φ,φ] rfl rfl (ζj HT_.out (by kernel_rfl)) (fun _ _ _ h=>h) (Or.inr ⟨by rfl,rfl⟩) ?_ ?_
         rotate_left
         · simp only [ζl,δa,δb,δc,i64_w,i32_w];rfl
         refine ζk (i:=19) (N:=some 35) (v:=undef) (a':=?_) #[τ,τ,τ,τ,τ,τ,τ,τ,τ,τ,τ,τ,τ,τ,τ,τ,τ,τ,τ,τ,φ,φ,φ,φ] rfl rfl (ζj HT_.out (by kernel_rfl)) (fun _ _ _ h=>h) (Or.inr ⟨by rfl,rfl⟩) ?_ ?_
         rotate_left
         · simp only [ζl,δa,δb,δc,i64_w,i32_w];rfl
         refine ζk (i:=20) (N:=some 36) (v:=undef) (a':=?_) #[τ,τ,τ,τ,τ,τ,τ,τ,τ,τ,τ,τ,τ,τ,τ,τ,τ,τ,τ,τ,τ,φ,φ,φ] rfl rfl (ζj HT_.out (by kernel_rfl)) (fun _ _ _ h=>h) (Or.inr ⟨by rfl,rfl⟩) ?_ ?_
         rotate_left
         · simp only [ζl,δa,δb,δc,i64_w,i32_w];rfl
         refine ζk (i:=21) (N:=some 37) (v:=undef) (a':=?_) #[τ,τ,τ,τ,τ,τ,τ,τ,τ,τ,τ,τ,τ,τ,τ,τ,τ,τ,τ,τ,τ,τ,φ,φ] rfl rfl (ζj HT_.out (by kernel_rfl)) (fun _ _ _ h=>h) (Or.inr ⟨by rfl,rfl⟩) ?_ ?_
         rotate_left
         · simp only [ζl,δa,δb,δc,i64_w,i32_w];rfl
         refine pu 22 38 ?_
         refine pu 23 39 ?_
         refine done_ (done_of HT_.out (by kernel_rfl)) ?_
         try go_wp2
         go_roundg k1
         case measure=>have:=HK1.out;omega
         case rel=>exact ⟨(ζm (x3_1+1)),(by rfl),H',⟨by have:=HK1.out;omega⟩,⟨by repeat ((with_reducible exact HB.out))⟩⟩
       ·
        replace c7:=Bool.eq_false_iff.mpr c7
        subst c7
        rw [ifF] at H
        obtain rfl:=Option.some.inj H
        try go_wp2
        replace HB:=ζa (δj HB.out)
        have p107:0≤(x3_1:Int):=of_decide_eq_true (by (with_reducible assumption))
        have q107:x3_1<(l0.length:Int):=of_decide_eq_true (by (with_reducible assumption))
        obtain ⟨ad107,e107,hx107_0,hx107_1⟩:=at_T37 HR0.out x3_1 p107 q107
        have hw107_1:=hx107_1
        have hw107_0:=hx107_0
        cases e107
        replace hx107_0:=(HB.out.cell (World.block_lt_of_cell? w _ hx107_0)).trans hx107_0
        replace hx107_1:=(HB.out.cell (World.block_lt_of_cell? w _ hx107_1)).trans hx107_1
        replace p107:=eq_true p107
        replace q107:=eq_true q107
        refine sta 24 (fun w'=>w'.cell? (ad107.add ((x3_1).toNat * 2))=some (.string ((rd_T37 l0 x3_1).f0))∧w'.cell? ⟨(ad107.add ((x3_1).toNat * 2)).block,(ad107.add ((x3_1).toNat * 2)).off+1,none⟩=some (.string ((rd_T37 l0 x3_1).f1))) [] spec_StoreOK.tab8 spec_StoreOK.bits8 ⟨((HB.out.cell (World.block_lt_of_cell? w _ hw107_0)).trans hw107_0),((HB.out.cell (World.block_lt_of_cell? w _ hw107_1)).trans hw107_1)⟩ (fun hHeld HT_ HW_ => ?_)
        generalize wr.drew=w19 at HB hx107_0 hx107_1 hHeld ⊢
        refine pu 0 16 ?_
        refine pu 1 17 ?_
        refine pu 2 18 ?_
        refine ta 3 19 ?_
        refine on 4 20 (fun K hK => ?_)
        refine gs Tryz.func38 #[.agg #[.string ((rd_T37 l0 x3_1).f0),.string ((rd_T37 l0 x3_1).f1)]] ?_
        with_reducible refine (spec_l03Pair.calls ((rd_T37 l0 x3_1).f0) ((rd_T37 l0 x3_1).f1) φ _ A6.out).mono ?_
        rintro e w20 ⟨rfl,hb⟩
        refine ⟨_,rfl,?_⟩
        replace HB:=ζa (δr (by exact HB.out) hb)
        (try clear hb)
        (try clear hb2)
        (try clear hk)
        (try clear hi)
        refine hK.out _ _ ⟨((HB.out.cell (World.block_lt_of_cell? w _ hw107_0)).trans hw107_0),((HB.out.cell (World.block_lt_of_cell? w _ hw107_1)).trans hw107_1)⟩ (fun hHeld => ?_)
        clear hK K
        refine nm 20 ?_
        refine pu 5 21 ?_
        refine pu 6 22 ?_
        refine ζk (i:=7) (N:=some 23) (v:=undef) (a':=?_) #[τ,τ,τ,τ,τ,τ,τ,τ,φ,φ,φ,φ,φ,φ,φ,φ,φ,φ,φ,φ,φ,φ,φ,φ] rfl rfl (ζj HT_.out (by kernel_rfl)) (fun _ _ _ h=>h) (Or.inr ⟨by rfl,rfl⟩) ?_ ?_
        rotate_left
        · simp only [ζl,δa,δb,δc,i64_w,i32_w];rfl
        refine ζk (i:=8) (N:=some 24) (v:=undef) (a':=?_) #[τ,τ,τ,τ,τ,τ,τ,τ,τ,φ,φ,φ,φ,φ,φ,φ,φ,φ,φ,φ,φ,φ,φ,φ] rfl rfl (ζj HT_.out (by kernel_rfl)) (fun _ _ _ h=>h) (Or.inr ⟨by rfl,rfl⟩) ?_ ?_
        rotate_left
        · simp only [ζl,δa,δb,δc,i64_w,i32_w];rfl
        refine ζk (i:=9) (N:=some 25) (v:=undef) (a':=?_) #[τ,τ,τ,τ,τ,τ,τ,τ,τ,τ,φ,φ,φ,φ,φ,φ,φ,φ,φ,φ,φ,φ,φ,φ] rfl rfl (ζj HT_.out (by kernel_rfl)) (fun _ _ _ h=>h) (Or.inr ⟨by rfl,rfl⟩) ?_ ?_
        rotate_left
        · simp only [ζl,δa,δb,δc,i64_w,i32_w];rfl
        refine ζk (i:=10) (N:=some 26) (v:=undef) (a':=?_) #[τ,τ,τ,τ,τ,τ,τ,τ,τ,τ,τ,φ,φ,φ,φ,φ,φ,φ,φ,φ,φ,φ,φ,φ] rfl rfl (ζj HT_.out (by kernel_rfl)) (fun _ _ _ h=>h) (Or.inr ⟨by rfl,rfl⟩) ?_ ?_
        rotate_left
        · simp only [ζl,δa,δb,δc,i64_w,i32_w];rfl
        refine ζk (i:=11) (N:=some 27) (v:=undef) (a':=?_) #[τ,τ,τ,τ,τ,τ,τ,τ,τ,τ,τ,τ,φ,φ,φ,φ,φ,φ,φ,φ,φ,φ,φ,φ] rfl rfl (ζj HT_.out (by kernel_rfl)) (fun _ _ _ h=>h) (Or.inr ⟨by rfl,rfl⟩) ?_ ?_
        rotate_left
        · simp only [ζl,δa,δb,δc,i64_w,i32_w];rfl
        refine ζk (i:=12) (N:=some 28) (v:=undef) (a':=?_) #[τ,τ,τ,τ,τ,τ,τ,τ,τ,τ,τ,τ,τ,φ,φ,φ,φ,φ,φ,φ,φ,φ,φ,φ] rfl rfl (ζj HT_.out (by kernel_rfl)) (fun _ _ _ h=>h) (Or.inr ⟨by rfl,rfl⟩) ?_ ?_
        rotate_left
        · simp only [ζl,δa,δb,δc,i64_w,i32_w];rfl
        refine ζk (i:=13) (N:=some 29) (v:=undef) (a':=?_) #[τ,τ,τ,τ,τ,τ,τ,τ,τ,τ,τ,τ,τ,τ,φ,φ,φ,φ,φ,φ,φ,φ,φ,φ] rfl rfl (ζj HT_.out (by kernel_rfl)) (fun _ _ _ h=>h) (Or.inr ⟨by rfl,rfl⟩) ?_ ?_
        rotate_left
        · simp only [ζl,δa,δb,δc,i64_w,i32_w];rfl
        refine ζk (i:=14) (N:=some 30) (v:=undef) (a':=?_) #[τ,τ,τ,τ,τ,τ,τ,τ,τ,τ,τ,τ,τ,τ,τ,φ,φ,φ,φ,φ,φ,φ,φ,φ] rfl rfl (ζj HT_.out (by kernel_rfl)) (fun _ _ _ h=>h) (Or.inr ⟨by rfl,rfl⟩) ?_ ?_
        rotate_left
        · simp only [ζl,δa,δb,δc,i64_w,i32_w];rfl
        refine ζk (i:=15) (N:=some 31) (v:=undef) (a':=?_) #[τ,τ,τ,τ,τ,τ,τ,τ,τ,τ,τ,τ,τ,τ,τ,τ,φ,φ,φ,φ,φ,φ,φ,φ] rfl rfl (ζj HT_.out (by kernel_rfl)) (fun _ _ _ h=>h) (Or.inr ⟨by rfl,rfl⟩) ?_ ?_
        rotate_left
        · simp only [ζl,δa,δb,δc,i64_w,i32_w];rfl
        refine ζk (i:=16) (N:=some 32) (v:=undef) (a':=?_) #[τ,τ,τ,τ,τ,τ,τ,τ,τ,τ,τ,τ,τ,τ,τ,τ,τ,φ,φ,φ,φ,φ,φ,φ] rfl rfl (ζj HT_.out (by kernel_rfl)) (fun _ _ _ h=>h) (Or.inr ⟨by rfl,rfl⟩) ?_ ?_
        rotate_left
        · simp only [ζl,δa,δb,δc,i64_w,i32_w];rfl
        refine ζk (i:=17) (N:=some 33) (v:=undef) (a':=?_) #[τ,τ,τ,τ,τ,τ,τ,τ,τ,τ,τ,τ,τ,τ,τ,τ,τ,τ,φ,φ,φ,φ,φ,φ] rfl rfl (ζj HT_.out (by kernel_rfl)) (fun _ _ _ h=>h) (Or.inr ⟨by rfl,rfl⟩) ?_ ?_
        rotate_left
        · simp only [ζl,δa,δb,δc,i64_w,i32_w];rfl
        refine ζk (i:=18) (N:=some 34) (v:=undef) (a':=?_) #[τ,τ,τ,τ,τ,τ,τ,τ,τ,τ,τ,τ,τ,τ,τ,τ,τ,τ,τ,φ,φ,φ,φ,φ] rfl rfl (ζj HT_.out (by kernel_rfl)) (fun _ _ _ h=>h) (Or.inr ⟨by rfl,rfl⟩) ?_ ?_
        rotate_left
        · simp only [ζl,δa,δb,δc,i64_w,i32_w];rfl
        refine ζk (i:=19) (N:=some 35) (v:=undef) (a':=?_) #[τ,τ,τ,τ,τ,τ,τ,τ,τ,τ,τ,τ,τ,τ,τ,τ,τ,τ,τ,τ,φ,φ,φ,φ] rfl rfl (ζj HT_.out (by kernel_rfl)) (fun _ _ _ h=>h) (Or.inr ⟨by rfl,rfl⟩) ?_ ?_
        rotate_left
        · simp only [ζl,δa,δb,δc,i64_w,i32_w];rfl
        refine ζk (i:=20) (N:=some 36) (v:=undef) (a':=?_) #[τ,τ,τ,τ,τ,τ,τ,τ,τ,τ,τ,τ,τ,τ,τ,τ,τ,τ,τ,τ,τ,φ,φ,φ] rfl rfl (ζj HT_.out (by kernel_rfl)) (fun _ _ _ h=>h) (Or.inr ⟨by rfl,rfl⟩) ?_ ?_
        rotate_left
        · simp only [ζl,δa,δb,δc,i64_w,i32_w];rfl
        refine ζk (i:=21) (N:=some 37) (v:=undef) (a':=?_) #[τ,τ,τ,τ,τ,τ,τ,τ,τ,τ,τ,τ,τ,τ,τ,τ,τ,τ,τ,τ,τ,τ,φ,φ] rfl rfl (ζj HT_.out (by kernel_rfl)) (fun _ _ _ h=>h) (Or.inr ⟨by rfl,rfl⟩) ?_ ?_
        rotate_left
        · simp only [ζl,δa,δb,δc,i64_w,i32_w];rfl
        refine ζk (i:=22) (N:=some 38) (v:=undef) (a':=?_) #[τ,τ,τ,τ,τ,τ,τ,τ,τ,τ,τ,τ,τ,τ,τ,τ,τ,τ,τ,τ,τ,τ,τ,φ] rfl rfl (ζj HT_.out (by kernel_rfl)) (fun _ _ _ h=>h) (Or.inr ⟨by rfl,rfl⟩) ?_ ?_
        rotate_left
        · simp only [ζl,δa,δb,δc,i64_w,i32_w];rfl
        refine pu 23 39 ?_
        refine done_ (done_of HT_.out (by kernel_rfl)) ?_
        try go_wp2
        go_ret
        exact ⟨by rfl,by repeat ((with_reducible exact HB.out))⟩
      ·
       rw [if_neg c5] at H
       exact absurd H (by simp)
     ·
      rw [if_neg c4] at H
      have c4b0:=decide_eq_false c4
      clear c4
      obtain rfl:=Option.some.inj H
      go_wp2
      go_ret
      exact ⟨by rfl,by repeat ((with_reducible exact HB.out))⟩


open Go.Proofs.YtjhhehjjnfnigaaGreatDoorW.PrintWords renaming below_step → δr
set_option maxHeartbeats 8000000
set_option maxRecDepth 100000

/-! ### spec_l08Code: function 12 -/
def spec_l08Code.f (k:Nat) (a0:ByteArray) (l1:List (S37)):Option (Int):=if (l1.length:Int) > 4096 then (some 2) else (if a0.toList=([120]:List UInt8) then ((spec_StoreOK.f k l1).bind fun t111=>(if t111=τ then (some 0) else (some 1))) else (if a0.toList=([121]:List UInt8) then ((spec_StoreOK.f k l1).bind fun t112=>(if t112=τ then (some 0) else (some 1))) else (some 1)))
theorem spec_l08Code.calls (k:Nat) (a0:ByteArray) (A1:Option Addr) (c1:Nat) (l1:List (S37)) (r:Int) (w:World) (hr1:Kd.C k37 w A1 l1.length l1) (hc1:l1.length≤c1) (h:spec_l08Code.f k a0 l1=some r) :
  Calls Tryz.prog 12 #[.string a0,.slice A1 l1.length c1] w fun e w'=>e = .returned (.int .i64 r)∧Below w.heap.size w w':=by
 have HR1:=ζa hr1
 have HC1:=ζa hc1
 clear hr1 hc1
 have HB:=ζa (Below.refl w.heap.size w)
 have H:(if (l1.length:Int) > 4096 then (some 2) else (if a0.toList=([120]:List UInt8) then ((spec_StoreOK.f k l1).bind fun t111=>(if t111=τ then (some 0) else (some 1))) else (if a0.toList=([121]:List UInt8) then ((spec_StoreOK.f k l1).bind fun t112=>(if t112=τ then (some 0) else (some 1))) else (some 1))))=some r:=h
 clear h
 by_cases c3:(l1.length:Int) > 4096
 ·
  rw [if_pos c3] at H
  have c3b0:decide (4096<(l1.length:Int))=τ:=decide_eq_true c3
  have c3b1:decide (4096<l1.length)=τ:=decide_eq_true (by omega)
  clear c3
  obtain rfl:=Option.some.inj H
  go_enter Tryz.func12,Tryz.ntmps12
  go_wp2
  go_ret
  exact ⟨by rfl,by repeat ((with_reducible exact HB.out))⟩
 ·
  rw [if_neg c3] at H
  have c3b0:decide (4096<(l1.length:Int))=φ:=decide_eq_false c3
  have c3b1:decide (4096<l1.length)=φ:=decide_eq_false (by omega)
  clear c3
  by_cases c4:a0.toList=([120]:List UInt8)
  ·
   rw [if_pos c4] at H
   have c4b0:=beq_iff_eq.mpr c4
   have c4b1:=bne_eq_false_iff_eq.mpr c4
   clear c4
   obtain ⟨t111,A5,H⟩:=bsm H
   by_cases c6:t111=τ
   ·
    subst c6
    rw [ifT] at H
    obtain rfl:=Option.some.inj H
    go_enter Tryz.func12,Tryz.ntmps12
    go_wp2_with ((go_at_call 19;(with_reducible refine (spec_StoreOK.calls k _ _ l1 τ _ ?side1 ?side2 A5.out).mono ?_);(case side1=>repeat (exact HR1.out));(case side2=>exact HC1.out);rintro e w7 ⟨rfl,hb⟩;replace HB:=ζa (δr (by exact HB.out) hb);(try clear hb);(try clear hb2);(try clear hk);(try clear hi)))
    go_ret
    exact ⟨by rfl,by repeat ((with_reducible exact HB.out))⟩
   ·
    replace c6:=Bool.eq_false_iff.mpr c6
    subst c6
    rw [ifF] at H
    obtain rfl:=Option.some.inj H
    go_enter Tryz.func12,Tryz.ntmps12
    go_wp2_with ((go_at_call 19;(with_reducible refine (spec_StoreOK.calls k _ _ l1 φ _ ?side1 ?side2 A5.out).mono ?_);(case side1=>repeat (exact HR1.out));(case side2=>exact HC1.out);rintro e w8 ⟨rfl,hb⟩;replace HB:=ζa (δr (by exact HB.out) hb);(try clear hb);(try clear hb2);(try clear hk);(try clear hi)))
    go_ret
    exact ⟨by rfl,by repeat ((with_reducible exact HB.out))⟩
  ·
   rw [if_neg c4] at H
   have c4b0:=beq_eq_false_iff_ne.mpr c4
   have c4b1:=bne_iff_ne.mpr c4
   by_cases c9:a0.toList=([121]:List UInt8)
   ·
    rw [if_pos c9] at H
    have c9b0:=beq_iff_eq.mpr c9
    have c9b1:=bne_eq_false_iff_eq.mpr c9
    clear c9
    obtain ⟨t112,A10,H⟩:=bsm H
    by_cases c11:t112=τ
    ·
     subst c11
     rw [ifT] at H
     obtain rfl:=Option.some.inj H
     go_enter Tryz.func12,Tryz.ntmps12
     go_wp2_with ((go_at_call 19;(with_reducible refine (spec_StoreOK.calls k _ _ l1 τ _ ?side1 ?side2 A10.out).mono ?_);(case side1=>repeat (exact HR1.out));(case side2=>exact HC1.out);rintro e w12 ⟨rfl,hb⟩;replace HB:=ζa (δr (by exact HB.out) hb);(try clear hb);(try clear hb2);(try clear hk);(try clear hi)))
     go_ret
     exact ⟨by rfl,by repeat ((with_reducible exact HB.out))⟩
    ·
     replace c11:=Bool.eq_false_iff.mpr c11
     subst c11
     rw [ifF] at H
     obtain rfl:=Option.some.inj H
     go_enter Tryz.func12,Tryz.ntmps12
     go_wp2_with ((go_at_call 19;(with_reducible refine (spec_StoreOK.calls k _ _ l1 φ _ ?side1 ?side2 A10.out).mono ?_);(case side1=>repeat (exact HR1.out));(case side2=>exact HC1.out);rintro e w13 ⟨rfl,hb⟩;replace HB:=ζa (δr (by exact HB.out) hb);(try clear hb);(try clear hb2);(try clear hk);(try clear hi)))
     go_ret
     exact ⟨by rfl,by repeat ((with_reducible exact HB.out))⟩
   ·
    rw [if_neg c9] at H
    have c9b0:=beq_eq_false_iff_ne.mpr c9
    have c9b1:=bne_iff_ne.mpr c9
    obtain rfl:=Option.some.inj H
    go_enter Tryz.func12,Tryz.ntmps12
    go_wp2
    go_ret
    exact ⟨by rfl,by repeat ((with_reducible exact HB.out))⟩


set_option maxHeartbeats 8000000
set_option maxRecDepth 100000

/-! ### spec_l03At: function 48 -/
def spec_l03At.l0:Nat→List (S37)→ByteArray→Int→Int→Option (Int)
 | 0,_,_,_,_=>none
 | k+1,x0,x1,x5,x6=>if x5<x6 then (if 0≤(ζm (Int.tdiv (ζm (x5+x6)) 2)) then (if (ζm (Int.tdiv (ζm (x5+x6)) 2))<(x0.length:Int) then (if (Op.bytesLess (((rd_T37 x0 (ζm (Int.tdiv (ζm (x5+x6)) 2))).f0).toList) x1.toList)=τ then (spec_l03At.l0 k x0 x1 (ζm ((ζm (Int.tdiv (ζm (x5+x6)) 2))+1)) x6) else (spec_l03At.l0 k x0 x1 x5 (ζm (Int.tdiv (ζm (x5+x6)) 2)))) else (none)) else (none)) else (some x5)
def spec_l03At.f (k:Nat) (l0:List (S37)) (a1:ByteArray):Option (Int):=spec_l03At.l0 k l0 a1 0 (l0.length:Int)
theorem spec_l03At.calls (k:Nat) (A0:Option Addr) (c0:Nat) (l0:List (S37)) (a1:ByteArray) (r:Int) (w:World) (hr0:Kd.C k37 w A0 l0.length l0) (hc0:l0.length≤c0) (h:spec_l03At.f k l0 a1=some r) :
  Calls Tryz.prog 48 #[.slice A0 l0.length c0,.string a1] w fun e w'=>e = .returned (.int .i64 r)∧Drawn0 w w':=by
 have HR0:=ζa hr0
 have HC0:=ζa hc0
 clear hr0 hc0
 have H:(spec_l03At.l0 k l0 a1 0 (l0.length:Int))=some r:=h
 clear h
 have H':=ζa H
 clear H
 go_enter Tryz.func48,Tryz.ntmps48
 go_wp2
 go_loopg [5,6] k (fun kq v5 v6 w' => ∃ (x5_1:Int) (x6_1:Int),v5 = .int .i64 x5_1∧v6 = .int .i64 x6_1∧Aside0 (spec_l03At.l0 kq l0 a1 x5_1 x6_1=some r)∧Aside0 (kq≤k)∧Drawn0 w w')
 case atStart=>exact ⟨(0),((l0.length:Int)),(by rfl),(by rfl),H',⟨Nat.le_refl _⟩,by repeat (exact Drawn0.refl _)⟩
 case round =>
  clear H'
  try clear p2
  obtain ⟨x5_1,x6_1,rfl,rfl,HA,HK1,⟨m1,rfl⟩⟩:=hrel
  cases gk with
  | zero=>exact absurd HA.out (by simp [spec_l03At.l0])
  | succ k1 =>
   have H:=HA.out
   clear HA
   simp only [spec_l03At.l0] at H
   by_cases c3:x5_1<x6_1
   ·
    rw [if_pos c3] at H
    have c3b0:=decide_eq_true c3
    clear c3
    obtain ⟨ji4,hji4⟩ : ∃ j_:Int,(ζm (Int.tdiv (ζm (x5_1+x6_1)) 2))=j_:=⟨_,rfl⟩
    replace H:(if 0≤(ji4) then (if (ji4)<(l0.length:Int) then (if (Op.bytesLess (((rd_T37 l0 (ji4)).f0).toList) a1.toList)=τ then (spec_l03At.l0 k1 l0 a1 (ζm ((ji4)+1)) x6_1) else (spec_l03At.l0 k1 l0 a1 x5_1 ji4)) else (none)) else (none))=some r:=by (rw [hji4] at H;exact H)
    have hji4w:(IntKind.i64.wrap (Int.tdiv (ζm (x5_1+x6_1)) 2))=ji4:=(i64_w _).trans hji4
    by_cases c5:0≤(ji4)
    ·
     rw [if_pos c5] at H
     have c5b0:=decide_eq_true c5
     clear c5
     by_cases c6:(ji4)<(l0.length:Int)
     ·
      rw [if_pos c6] at H
      have c6b0:=decide_eq_true c6
      clear c6
      by_cases c7:(Op.bytesLess (((rd_T37 l0 (ji4)).f0).toList) a1.toList)=τ
      ·
       rw [if_pos c7] at H
       have c7b0:(Op.bytesLess (((rd_T37 l0 (ji4)).f0).toList) a1.toList)=τ:=c7
       clear c7
       have H':=ζa H
       clear H
       have p154:0≤((ji4):Int):=of_decide_eq_true (by (with_reducible assumption))
       have q154:(ji4)<(l0.length:Int):=of_decide_eq_true (by (with_reducible assumption))
       obtain ⟨ad154,e154,hx154_0,hx154_1⟩:=at_T37 HR0.out (ji4) p154 q154
       cases e154
       replace p154:=eq_true p154
       replace q154:=eq_true q154
       go_wp2
       go_roundg k1
       case measure=>have:=HK1.out;omega
       case rel=>exact ⟨(ζm ((ji4)+1)),(x6_1),(by rfl),(by rfl),H',⟨by have:=HK1.out;omega⟩,by repeat (first|exact Drawn0.refl _|apply Drawn0.step)⟩
      ·
       rw [if_neg c7] at H
       have c7b0:(Op.bytesLess (((rd_T37 l0 (ji4)).f0).toList) a1.toList)=φ:=by simpa using c7
       clear c7
       have H':=ζa H
       clear H
       have p154:0≤((ji4):Int):=of_decide_eq_true (by (with_reducible assumption))
       have q154:(ji4)<(l0.length:Int):=of_decide_eq_true (by (with_reducible assumption))
       obtain ⟨ad154,e154,hx154_0,hx154_1⟩:=at_T37 HR0.out (ji4) p154 q154
       cases e154
       replace p154:=eq_true p154
       replace q154:=eq_true q154
       go_wp2
       go_roundg k1
       case measure=>have:=HK1.out;omega
       case rel=>exact ⟨(x5_1),(ji4),(by rfl),(by rfl),H',⟨by have:=HK1.out;omega⟩,by repeat (first|exact Drawn0.refl _|apply Drawn0.step)⟩
     ·
      rw [if_neg c6] at H
      exact absurd H (by simp)
    ·
     rw [if_neg c5] at H
     exact absurd H (by simp)
   ·
    rw [if_neg c3] at H
    have c3b0:=decide_eq_false c3
    clear c3
    obtain rfl:=Option.some.inj H
    go_wp2
    go_ret
    exact ⟨by rfl,by repeat (first|exact Drawn0.refl _|apply Drawn0.step)⟩


open Go.Proofs.YtjhhehjjnfnigaaGreatDoorW.PrintWords.Kd renaming R_below → ζh, R_reads' → ζg
open Go.Proofs.YtjhhehjjnfnigaaGreatDoorW.PrintWords renaming below_alloc → δk, below_drew1 → δj, pw_below_drewN → δi
open List renaming length_take → δh, length_drop → δg
set_option maxHeartbeats 8000000
set_option maxRecDepth 100000


/-! ### spec_l03Drop: function 100 -/
/-- A row that is the one handed over,or a new one. -/
structure Sf (w w':World) (a:Value) (l:List S37) (v:Value) (r:List S37):Prop where
 out:(v=a∧r=l) ∨ Kd.R k37 37 w' w.heap.size (fun _=>True) v r
theorem Sf.below {w w1 w2:World} {a v:Value} {l r:List S37} (h:Sf w w1 a l v r) (hb:Below w1.heap.size w1 w2):Sf w w2 a l v r:=⟨h.out.imp id (fun h=>ζh h hb)⟩
theorem Sf.alloc {w w1:World} {a v:Value} {l r:List S37} (h:Sf w w1 a l v r) (o:Obj):Sf w (w1.alloc o) a l v r:=h.below (δk (Below.refl _ _) o)
theorem Sf.drew {w w1:World} {a v:Value} {l r:List S37} (h:Sf w w1 a l v r):Sf w w1.drew a l v r:=h.below (δj (Below.refl _ _))
theorem Sf.drewN {w w1:World} {a v:Value} {l r:List S37} (h:Sf w w1 a l v r) (n:Nat):Sf w (w1.drewN n) a l v r:=h.below (δi (Below.refl _ _) n)
theorem Sf.set {w w1:World} {a v:Value} {l r:List S37} (h:Sf w w1 a l v r) {g t:Nat} {cells:Array Value} (hb:w1.heap[g]? = some (.cells cells t (0,0))) (ht:37≠t) (j:Nat) (u:Value):Sf w (w1.setCell ⟨g,j,none⟩ u) a l v r :=
 ⟨h.out.imp id (fun h=>Kd.R_set h hb (fun q hq=>by
  have:q=37:=by simpa [k37,Kd.iso,Kd.pair,Kd.string,Kd.scalar] using hq
  rw [this];exact ht) j u)⟩
theorem Sf.trans {w W w':World} {a v u:Value} {l r y:List S37} (h1:Sf w W a l u y) (h2:Sf W w' u y v r) (hb:Below W.heap.size W w') (hs:w.heap.size≤W.heap.size):Sf w w' a l v r:=by
 obtain ⟨⟨rfl,rfl⟩|h⟩:=h2
 · exact h1.below hb
 ·
  exact ⟨Or.inr (Kd.R_lower h hs)⟩
theorem Sf.reads {w w':World} {A:Option Addr} {c:Nat} {v:Value} {l r:List S37} (h:Sf w w' (.slice A l.length c) l v r) (hr:Kd.C k37 w' A l.length l) (hc:l.length≤c) : ∃ A c,v = .slice A r.length c∧r.length≤c∧Kd.C k37 w' A r.length r:=by
 obtain ⟨⟨rfl,rfl⟩|h⟩:=h
 · exact ⟨_,_,rfl,hc,hr⟩
 ·
  exact Kd.R_reads h
theorem Sf.row {w w':World} {A A':Option Addr} {c c' n':Nat} {l r:List S37} (h:Sf w w' (.slice A l.length c) l (.slice A' n' c') r) (hr:Kd.C k37 w' A l.length l):Kd.C k37 w' A' r.length r:=by
 obtain ⟨⟨e,rfl⟩|h⟩:=h
 ·
  simp only [Value.slice.injEq] at e
  obtain ⟨rfl,_,_⟩:=e
  exact hr
 · exact (ζg h).2.2
theorem R_empty {w:World} {base g:Nat} (hb:base≤g) (h:w.heap[g]? = some (.cells #[] 37 (0,0))):Kd.R k37 37 w base (fun _=>True) (.slice (some ⟨g,0,none⟩) 0 0) [] :=
 ⟨fun _ _=>trivial,[],⟨rfl,Or.inr ⟨g,0,#[],rfl,hb,h,Nat.le_refl _,by decide,rfl,rfl⟩⟩,Reps.none _ _⟩
theorem C_takeN {w:World} {A:Option Addr} {l:List S37} (h:Kd.C k37 w A l.length l) {i:Nat} (hi:i≤l.length):Kd.C k37 w A i (l.take i):=by
 have:=Kd.C_take h hi
 rwa [δh,Nat.min_eq_left hi] at this
theorem C_dropN {w:World} {ad:Addr} {c:Nat} {l:List S37} (h:Kd.C k37 w (some ad) l.length l) (hc:l.length≤c) {i:Nat} (hi:i≤l.length):Kd.C k37 w (if c=i then some ad else some (ad.add (i * 2))) (l.length - i) (l.drop i):=by
 have:=Kd.C_drop h hi hc
 rw [δg] at this
 exact this
def spec_l03Drop.f (k:Nat) (l0:List S37) (a1:ByteArray):Option (List S37 × Int) :=
 (spec_l03At.f k l0 a1).bind fun t=>if l0.length≤1000000 then (if 0≤t then (if t<(l0.length:Int) then (if ((rd_T37 l0 t).f0).toList=a1.toList then some (l0.eraseIdx t.toNat,0) else some (l0,5)) else (if t=(l0.length:Int) then some (l0,5) else none)) else none) else none
theorem spec_l03Drop.calls (k:Nat) (A0:Option Addr) (c0:Nat) (l0:List S37) (a1:ByteArray) (r1:List S37) (r2:Int) (w:World) (hr0:Kd.C k37 w A0 l0.length l0) (hc0:l0.length≤c0) (h:spec_l03Drop.f k l0 a1=some (r1,r2)) :
  Calls Tryz.prog 100 #[.slice A0 l0.length c0,.string a1] w fun e w' => ∃ v0_:Value,e = .returned (.tuple #[v0_,.int .i64 r2])∧Sf w w' (.slice A0 l0.length c0) l0 v0_ r1∧Below w.heap.size w w':=by
 obtain ⟨t,h1,h⟩:=Option.bind_eq_some_iff.mp h
 have H1:=ζa h1
 have HR0:=ζa hr0
 have HC0:=ζa hc0
 have HB0:=ζa (Below.refl w.heap.size w)
 have HH:=ζa h
 clear h1 h hr0 hc0
 go_enter Tryz.func100,Tryz.ntmps100
 go_wp2_with fail
 refine (spec_l03At.calls k A0 c0 l0 a1 t _ HR0.out HC0.out H1.out).mono ?_
 rintro e w1 ⟨rfl,⟨q',rfl⟩⟩
 have HB1:Aside0 (Below w.heap.size w (w.drewN q')):=⟨δi (Below.refl _ _) q'⟩
 have h:=HH.out
 clear HH
 by_cases hl:l0.length≤1000000
 ·
  rw [if_pos hl] at h
  by_cases g1:0≤t
  ·
   rw [if_pos g1] at h
   by_cases g2:t<(l0.length:Int)
   ·
    rw [if_pos g2] at h
    obtain ⟨i,rfl⟩ : ∃ i:Nat,t=(i:Int):=⟨t.toNat,by omega⟩
    obtain ⟨ad,e1,hx0,hx1⟩:=at_T37 HR0.out (i:Int) g1 g2
    simp only [Int.toNat_natCast] at hx0 hx1
    have g3:((i:Int) == (l0.length:Int))=φ:=beq_eq_false_iff_ne.mpr (by omega)
    by_cases g4:((rd_T37 l0 (i:Int)).f0).toList=a1.toList
    ·
     rw [if_pos g4] at h
     simp only [Option.some.injEq,Prod.mk.injEq] at h
     obtain ⟨rfl,rfl⟩:=h
     have g5:(((rd_T37 l0 (i:Int)).f0).toList != a1.toList)=φ:=bne_eq_false_iff_eq.mpr g4
     have g6:(((rd_T37 l0 (i:Int)).f0).toList == a1.toList)=τ:=beq_iff_eq.mpr g4
     cases e1
     clear g4
     have hw1:IntKind.i64.wrap ((i:Int)+1)=(i:Int)+1:=IntWalk.i64_in _ (by omega)
     have p1:(0:Int)≤(i:Int)+1:=by omega
     have p2:(i:Int)≤(c0:Int):=by have:=HC0.out;omega
     have p3:(i:Int)+1≤(l0.length:Int):=by omega
     go_wp2_with fail
     have HTK:=ζa (C_takeN HR0.out (i:=i) (by omega))
     have HDR:=ζa (C_dropN HR0.out HC0.out (i:=i+1) (by omega))
     go_region_held3 (fun _=>True) (trivial) (first|((refine Kd.R_append_rows_step k37 (w0:=w) (Rr:=k37.K _) w.heap.size (by rfl) (.tmp 24) (.tmp 27) 24 37 (.agg #[(.string ⟨#[]⟩),(.string ⟨#[]⟩)]) 32 (by rfl) Tryz.underlying24 info37 rfl (by decide) (by decide) _ [] (l0.take i) _ _ _ (fun _=>True) (fun _=>False) (by rfl) (by rfl) (R_empty (Nat.le_refl _) (heap_alloc_new _ _)) (Kd.C_alloc (Kd.C_drewN HTK.out _) _) (fun x cs h=>by rw [k37_open h];exact k37_mkM _ _ _ x) (fun _ h=>h.elim) (fun _ _=>trivial) (δk (δi (Below.refl _ _) _) _) (δk (δi (Below.refl _ _) _) _).size (by simp only [List.length_nil];omega) ?_;intro v28 w28 ho28 hb28 hg hn;clear hg hn))|((refine Kd.R_append_rows_step k37 (w0:=w) (Rr:=k37.K _) w.heap.size (by rfl) (.tmp 28) (.tmp 32) 24 37 (.agg #[(.string ⟨#[]⟩),(.string ⟨#[]⟩)]) 32 (by rfl) Tryz.underlying24 info37 rfl (by decide) (by decide) _ _ (l0.drop (i+1)) _ _ _ (fun _=>True) (fun _=>False) (by rfl) (by rfl) ho28 (Kd.C_below HDR.out hb28) (fun x cs h=>by rw [k37_open h];exact k37_mkM _ _ _ x) (fun _ h=>h.elim) (fun _ _=>trivial) hb28 hb28.size (by simp only [List.nil_append,δh];omega) ?_;intro v33 w33 ho33 hb33 hg hn;clear hg hn)))
     have e:l0.eraseIdx i = [] ++ l0.take i ++ l0.drop (i+1):=by rw [List.eraseIdx_eq_take_drop_succ];rfl
     rw [← e] at ho33
     have HO33:=ζa ho33
     have HB33:=ζa hb33
     clear ho33 hb33 e ho28 hb28
     all_goals go_wp2
     all_goals (go_ret2;exact ⟨_,rfl,⟨Or.inr HO33.out⟩,HB33.out⟩)
    ·
     rw [if_neg g4] at h
     simp only [Option.some.injEq,Prod.mk.injEq] at h
     obtain ⟨rfl,rfl⟩:=h
     have g5:(((rd_T37 l0 (i:Int)).f0).toList != a1.toList)=τ:=bne_iff_ne.mpr g4
     have g6:(((rd_T37 l0 (i:Int)).f0).toList == a1.toList)=φ:=beq_eq_false_iff_ne.mpr g4
     cases e1
     clear g4
     go_wp2
     go_ret2
     exact ⟨_,rfl,⟨Or.inl ⟨rfl,rfl⟩⟩,by repeat (exact HB1.out)⟩
   ·
    rw [if_neg g2] at h
    by_cases g3:t=(l0.length:Int)
    ·
     rw [if_pos g3] at h
     simp only [Option.some.injEq,Prod.mk.injEq] at h
     obtain ⟨rfl,rfl⟩:=h
     subst g3
     go_wp2
     go_ret2
     exact ⟨_,rfl,⟨Or.inl ⟨rfl,rfl⟩⟩,by repeat (exact HB1.out)⟩
    · rw [if_neg g3] at h;cases h
  ·
   rw [if_neg g1] at h;cases h
 · rw [if_neg hl] at h;cases h


open Go.Proofs.YtjhhehjjnfnigaaGreatDoorW.PrintWords renaming gate_dst → δx, below_size → δs, below_step → δr, pw_below_drewN → δi, gate_builtin → δy
open Go.Proofs.YtjhhehjjnfnigaaGreatDoorW.PrintWords.Kd renaming R_drewN → ζc
set_option maxHeartbeats 8000000
set_option maxRecDepth 100000

/-! ### spec_l02Read: function 39 -/
mutual
def spec_l02Read.j0:Nat→ByteArray→List ByteArray→Bool→Option (List ByteArray × Bool)
 | 0,_,_,_=>none
 | k+1,x0,x4,x15=>if x15=τ then (some (x4,φ)) else (if 0<(x0.size:Int) then (spec_l02Read.l0 k x0 x4 1 (ζm (bt x0 0))) else (none))
def spec_l02Read.l0:Nat→ByteArray→List ByteArray→Int→Int→Option (List ByteArray × Bool)
 | 0,_,_,_,_=>none
 | k+1,x0,x4,x5,x6=>if x6 > 0 then (if (ζm (x5+2)) > (x0.size:Int) then (some ((([]:List ByteArray)),φ)) else (if 0≤x5 then (if x5<(x0.size:Int) then (if 0≤(ζm (x5+1)) then (if (ζm (x5+1))<(x0.size:Int) then (if (ζm ((ζm ((ζm (bt x0 x5)) * 256))+(ζm (bt x0 (ζm (x5+1)))))) > 1000 then (some ((([]:List ByteArray)),φ)) else (if (ζm ((ζm (x5+2))+(ζm ((ζm ((ζm (bt x0 x5)) * 256))+(ζm (bt x0 (ζm (x5+1)))))))) > (x0.size:Int) then (some ((([]:List ByteArray)),φ)) else (if 0≤(ζm (x5+2)) then (if (ζm (x5+2))≤(ζm ((ζm (x5+2))+(ζm ((ζm ((ζm (bt x0 x5)) * 256))+(ζm (bt x0 (ζm (x5+1)))))))) then (if (ζm ((ζm (x5+2))+(ζm ((ζm ((ζm (bt x0 x5)) * 256))+(ζm (bt x0 (ζm (x5+1))))))))≤(x0.size:Int) then (if x4.length<8796093022208 then (spec_l02Read.l0 k x0 (x4 ++ [x0.extract ((ζm (x5+2)):Int).toNat ((ζm ((ζm (x5+2))+(ζm ((ζm ((ζm (bt x0 x5)) * 256))+(ζm (bt x0 (ζm (x5+1)))))))):Int).toNat]) (ζm (x5+(ζm (2+(ζm ((ζm ((ζm (bt x0 x5)) * 256))+(ζm (bt x0 (ζm (x5+1)))))))))) (ζm (x6 - 1))) else (none)) else (none)) else (none)) else (none)))) else (none)) else (none)) else (none)) else (none))) else (if x5=(x0.size:Int) then (some (x4,τ)) else (some ((([]:List ByteArray)),φ)))
end
def spec_l02Read.f (k:Nat) (a0:ByteArray):Option (List ByteArray × Bool):=(some (([]:List ByteArray):List ByteArray)).bind fun y113=>(if a0.toList=([]:List UInt8) then (spec_l02Read.j0 k a0 y113 τ) else (if 0<(a0.size:Int) then (spec_l02Read.j0 k a0 y113 (decide ((bt a0 0) > 40))) else (none)))
theorem spec_l02Read.calls (k:Nat) (a0:ByteArray) (r1:List ByteArray) (r2:Bool) (w:World) (h:spec_l02Read.f k a0=some (r1,r2)) :
  Calls Tryz.prog 39 #[.string a0] w fun e w' => ∃ v0_:Value,e = .returned (.tuple #[v0_,.bool r2])∧Kd.R Kd.string 9 w' w.heap.size (fun _=>True) v0_ r1∧Below w.heap.size w w':=by
 have HB:=ζa (Below.refl w.heap.size w)
 have H:((some (([]:List ByteArray):List ByteArray)).bind fun y113=>(if a0.toList=([]:List UInt8) then (spec_l02Read.j0 k a0 y113 τ) else (if 0<(a0.size:Int) then (spec_l02Read.j0 k a0 y113 (decide ((bt a0 0) > 40))) else (none))))=some (r1,r2):=h
 clear h
 obtain ⟨y113,hy113⟩ : ∃ y_:List ByteArray,y_=(([]:List ByteArray)):=⟨_,rfl⟩
 replace H:(if a0.toList=([]:List UInt8) then (spec_l02Read.j0 k a0 y113 τ) else (if 0<(a0.size:Int) then (spec_l02Read.j0 k a0 y113 (decide ((bt a0 0) > 40))) else (none)))=some (r1,r2):=by (have H2_:=(Option.bind_some _ _).symm.trans H;rw [hy113];with_reducible exact H2_)
 have Ny113:=ζa hy113
 clear hy113
 have HC2:=ζa H
 clear H
 go_enter Tryz.func39,Tryz.ntmps39
 go_upto_region 2 with (((with_reducible refine δx (N:=8) rfl ?_);(try (refine gate_guard (by rfl) ?_;dsimp only));refine Kd.R_lit Kd.string _ 9 ?hg (N:=8) ?hd (xs:=([]:List ByteArray)) (inner:=[]) (ok:=fun _=>True) (okp:=fun _=>True) ?hr ?hp (fun _ hk=>hk) trivial (Below.refl _ _) (Nat.le_refl _) (by simp) ?_;(case hd=>rfl);(case hg=>rfl);(case hr=>(go_simp;done));(case hp=>exact (Reps.none _ _));intro v114 w3 ho4 hb hg_ hnew_;clear hg_ hnew_;(rw [← Ny113.out] at ho4);have HO115:=ζa (Kd.R_lower ho4 (δs (by exact HB.out)));replace HB:=ζa (δr (by exact HB.out) hb);clear hb ho4))
 repeat (go_quiet (fail);go_upto_region 2 with (fail))
 (try simp only [ζl,δa,δb,δc])
 go_cut [15] (fun v15 wc => ∃ (kq:Nat) (x15_1:Bool),v15 = .bool x15_1∧Aside0 (spec_l02Read.j0 kq a0 y113 x15_1=some (r1,r2))∧Aside0 (kq≤k)∧Aside0 (Kd.R Kd.string 9 wc w.heap.size (fun _=>True) v114 y113)∧Aside0 (Below w.heap.size w wc))
 case first =>
  have H:=HC2.out
  clear HC2
  by_cases c5:a0.toList=([]:List UInt8)
  ·
   rw [if_pos c5] at H
   have c5b0:=beq_iff_eq.mpr c5
   have c5b1:=bne_eq_false_iff_eq.mpr c5
   clear c5
   have H':=ζa H
   clear H
   go_wp2
   repeat (go_quiet (fail);try go_wp2)
   go_meet
   case rel=>exact ⟨_,(τ),(by rfl),H',⟨by omega⟩,⟨by exact HO115.out⟩,⟨by repeat ((with_reducible exact HB.out))⟩⟩
  ·
   rw [if_neg c5] at H
   have c5b0:=beq_eq_false_iff_ne.mpr c5
   have c5b1:=bne_iff_ne.mpr c5
   by_cases c6:0<(a0.size:Int)
   ·
    rw [if_pos c6] at H
    have c6b0:=decide_eq_true c6
    have c6b1:decide (0<a0.size)=τ:=decide_eq_true (by omega)
    clear c6
    have H':=ζa H
    clear H
    have p7:0≤(0:Int):=(by omega)
    have q7:0<a0.size:=(by have:(0:Int)<(a0.size:Int):=of_decide_eq_true (by (with_reducible assumption));omega)
    have hx7 : ∀ h:0<a0.size,((a0[0]'h).toNat:Int)=bt a0 0:=bt_at a0 0
    clear p7
    have qi7:(0<(a0.size:Int))=True:=eq_true (of_decide_eq_true (by (with_reducible assumption)))
    replace q7:=eq_true q7
    go_wp2
    repeat (go_quiet (fail);try go_wp2)
    go_meet
    case rel=>exact ⟨_,(decide ((bt a0 0) > 40)),(by rfl),H',⟨by omega⟩,⟨by exact HO115.out⟩,⟨by repeat ((with_reducible exact HB.out))⟩⟩
   ·
    rw [if_neg c6] at H
    exact absurd H (by simp)
 case rest =>
  clear HC2
  try clear p2
  try clear c3
  try clear c5
  try clear c5b0
  try clear c5b1
  try clear c6
  try clear c6b0
  try clear c6b1
  try clear p7
  try clear q7
  try clear hx7
  try clear qi7
  try clear p7
  try clear q7
  obtain ⟨kq,x15_1,rfl,HA,HJ1,HO_4,HB⟩:=hcut
  cases kq with
  | zero=>exact absurd HA.out (by simp [spec_l02Read.j0])
  | succ kj1 =>
   have H:=HA.out
   clear HA
   simp only [spec_l02Read.j0] at H
   by_cases c8:x15_1=τ
   ·
    subst c8
    rw [ifT] at H
    simp only [Option.some.injEq,Prod.mk.injEq] at H
    obtain ⟨rfl,rfl⟩:=H
    go_wp2
    repeat (go_quiet (fail);try go_wp2)
    go_ret2
    exact ⟨_,by rfl,by exact HO_4.out,by repeat ((with_reducible exact HB.out))⟩
   ·
    replace c8:=Bool.eq_false_iff.mpr c8
    subst c8
    rw [ifF] at H
    by_cases c9:0<(a0.size:Int)
    ·
     rw [if_pos c9] at H
     have c9b0:=decide_eq_true c9
     have c9b1:decide (0<a0.size)=τ:=decide_eq_true (by omega)
     clear c9
     have H':=ζa H
     clear H
     have p10:0≤(0:Int):=(by omega)
     have q10:0<a0.size:=(by have:(0:Int)<(a0.size:Int):=of_decide_eq_true (by (with_reducible assumption));omega)
     have hx10 : ∀ h:0<a0.size,((a0[0]'h).toNat:Int)=bt a0 0:=bt_at a0 0
     clear p10
     have qi10:(0<(a0.size:Int))=True:=eq_true (of_decide_eq_true (by (with_reducible assumption)))
     replace q10:=eq_true q10
     go_wp2
     repeat (go_quiet (fail);try go_wp2)
     go_loopg [4,5,6] kj1 (fun kq v4 v5 v6 w' => ∃ (x4_2:List ByteArray) (x5_2:Int) (x6_2:Int),v5 = .int .i64 x5_2∧v6 = .int .i64 x6_2∧Aside0 (spec_l02Read.l0 kq a0 x4_2 x5_2 x6_2=some (r1,r2))∧Aside0 (kq≤kj1)∧Aside0 (Kd.R Kd.string 9 w' w.heap.size (fun _=>True) v4 x4_2)∧Aside0 (Below w.heap.size w w'))
     case atStart=>exact ⟨(y113),(1),(ζm (bt a0 0)),(by rfl),(by rfl),H',⟨Nat.le_refl _⟩,⟨by exact HO_4.out⟩,⟨by repeat ((with_reducible exact HB.out))⟩⟩
     case round =>
      clear H'
      try clear p1
      try clear q1
      try clear hx1
      try clear qi1
      try clear p2
      try clear c3
      try clear c5
      try clear c5b0
      try clear c5b1
      try clear c6
      try clear c6b0
      try clear c6b1
      try clear p6
      try clear p7
      try clear q7
      try clear hx7
      try clear qi7
      try clear c8
      try clear c9
      try clear c9b0
      try clear c9b1
      try clear p10
      try clear q10
      try clear hx10
      try clear qi10
      try clear p10
      try clear p2
      try clear p7
      try clear q10
      try clear q7
      obtain ⟨x4_2,x5_2,x6_2,rfl,rfl,HA,HK2,HO_4,HB⟩:=hrel
      cases gk with
      | zero=>exact absurd HA.out (by simp [spec_l02Read.l0])
      | succ k2 =>
       have H:=HA.out
       clear HA
       simp only [spec_l02Read.l0] at H
       by_cases c11:x6_2 > 0
       ·
        rw [if_pos c11] at H
        have c11b0:decide (0<x6_2)=τ:=decide_eq_true c11
        clear c11
        by_cases c12:(ζm (x5_2+2)) > (a0.size:Int)
        ·
         rw [if_pos c12] at H
         have c12b0:decide ((a0.size:Int)<(ζm (x5_2+2)))=τ:=decide_eq_true c12
         clear c12
         obtain ⟨y119,hy119⟩ : ∃ y_:List ByteArray,y_=(([]:List ByteArray)):=⟨_,rfl⟩
         replace H:(some (y119,φ))=some (r1,r2):=by (rw [hy119];with_reducible exact H)
         have Ny119:=ζa hy119
         clear hy119
         simp only [Option.some.injEq,Prod.mk.injEq] at H
         obtain ⟨rfl,rfl⟩:=H
         go_wp2_with (((with_reducible refine δx (N:=29) rfl ?_);(try (refine gate_guard (by rfl) ?_;dsimp only));refine Kd.R_lit Kd.string _ 9 ?hg (N:=29) ?hd (xs:=([]:List ByteArray)) (inner:=[]) (ok:=fun _=>True) (okp:=fun _=>True) ?hr ?hp (fun _ hk=>hk) trivial (Below.refl _ _) (Nat.le_refl _) (by simp) ?_;(case hd=>rfl);(case hg=>rfl);(case hr=>(go_simp;done));(case hp=>exact (Reps.none _ _));intro v120 w13 ho14 hb hg_ hnew_;clear hg_ hnew_;(rw [← Ny119.out] at ho14);have HO121:=ζa (Kd.R_lower (Kd.R_new' ho14 (Kd.R_lt (by exact HO_4.out))) (δs (by exact HB.out)));replace HO_4:=ζa (Kd.R_elder' (by exact HO_4.out) (Kd.R_base ho14) hb);replace HB:=ζa (δr (by exact HB.out) hb);clear hb ho14))
         repeat (go_quiet (fail);try go_wp2_with (fail))
         go_ret2
         exact ⟨_,by rfl,by exact Kd.R_mono HO121.out (fun _ hk=>trivial),by repeat ((with_reducible exact HB.out))⟩
        ·
         rw [if_neg c12] at H
         have c12b0:decide ((a0.size:Int)<(ζm (x5_2+2)))=φ:=decide_eq_false c12
         clear c12
         by_cases c15:0≤x5_2
         ·
          rw [if_pos c15] at H
          have c15b0:=decide_eq_true c15
          clear c15
          by_cases c16:x5_2<(a0.size:Int)
          ·
           rw [if_pos c16] at H
           have c16b0:=decide_eq_true c16
           clear c16
           obtain ⟨ji18,hji18⟩ : ∃ j_:Int,(ζm (x5_2+1))=j_:=⟨_,rfl⟩
           replace H:(if 0≤(ji18) then (if (ji18)<(a0.size:Int) then (if (ζm ((ζm ((ζm (bt a0 x5_2)) * 256))+(ζm (bt a0 (ji18))))) > 1000 then (some ((([]:List ByteArray)),φ)) else (if (ζm ((ζm (x5_2+2))+(ζm ((ζm ((ζm (bt a0 x5_2)) * 256))+(ζm (bt a0 (ji18))))))) > (a0.size:Int) then (some ((([]:List ByteArray)),φ)) else (if 0≤(ζm (x5_2+2)) then (if (ζm (x5_2+2))≤(ζm ((ζm (x5_2+2))+(ζm ((ζm ((ζm (bt a0 x5_2)) * 256))+(ζm (bt a0 (ji18))))))) then (if (ζm ((ζm (x5_2+2))+(ζm ((ζm ((ζm (bt a0 x5_2)) * 256))+(ζm (bt a0 (ji18)))))))≤(a0.size:Int) then (if x4_2.length<8796093022208 then (spec_l02Read.l0 k2 a0 (x4_2 ++ [a0.extract ((ζm (x5_2+2)):Int).toNat ((ζm ((ζm (x5_2+2))+(ζm ((ζm ((ζm (bt a0 x5_2)) * 256))+(ζm (bt a0 (ji18))))))):Int).toNat]) (ζm (x5_2+(ζm (2+(ζm ((ζm ((ζm (bt a0 x5_2)) * 256))+(ζm (bt a0 (ji18))))))))) (ζm (x6_2 - 1))) else (none)) else (none)) else (none)) else (none)))) else (none)) else (none))=some (r1,r2):=by (rw [hji18] at H;exact H)
           have hji18w:(IntKind.i64.wrap (x5_2+1))=ji18:=(i64_w _).trans hji18
           by_cases c19:0≤(ji18)
           ·
            rw [if_pos c19] at H
            have c19b0:=decide_eq_true c19
            clear c19
            by_cases c20:(ji18)<(a0.size:Int)
            ·
             rw [if_pos c20] at H
             have c20b0:=decide_eq_true c20
             clear c20
             by_cases c22:(ζm ((ζm ((ζm (bt a0 x5_2)) * 256))+(ζm (bt a0 (ji18))))) > 1000
             ·
              rw [if_pos c22] at H
              have c22b0:decide (1000<(ζm ((ζm ((ζm (bt a0 x5_2)) * 256))+(ζm (bt a0 (ji18))))))=τ:=decide_eq_true c22
              clear c22
              obtain ⟨y122,hy122⟩ : ∃ y_:List ByteArray,y_=(([]:List ByteArray)):=⟨_,rfl⟩
              replace H:(some (y122,φ))=some (r1,r2):=by (rw [hy122];with_reducible exact H)
              have Ny122:=ζa hy122
              clear hy122
              simp only [Option.some.injEq,Prod.mk.injEq] at H
              obtain ⟨rfl,rfl⟩:=H
              have p17:0≤(x5_2:Int):=of_decide_eq_true (by (with_reducible assumption))
              have q17:x5_2<(a0.size:Int):=of_decide_eq_true (by (with_reducible assumption))
              have hx17:=bt_at a0 x5_2
              replace p17:=eq_true p17
              replace q17:=eq_true q17
              have p21:0≤((ji18):Int):=of_decide_eq_true (by (with_reducible assumption))
              have q21:(ji18)<(a0.size:Int):=of_decide_eq_true (by (with_reducible assumption))
              have hx21:=bt_at a0 (ji18)
              replace p21:=eq_true p21
              replace q21:=eq_true q21
              go_wp2_with (fail)
              repeat (go_quiet (fail);try go_wp2_with (((with_reducible refine δx (N:=52) rfl ?_);(try (refine gate_guard (by rfl) ?_;dsimp only));refine Kd.R_lit Kd.string _ 9 ?hg (N:=52) ?hd (xs:=([]:List ByteArray)) (inner:=[]) (ok:=fun _=>True) (okp:=fun _=>True) ?hr ?hp (fun _ hk=>hk) trivial (Below.refl _ _) (Nat.le_refl _) (by simp) ?_;(case hd=>rfl);(case hg=>rfl);(case hr=>(go_simp;done));(case hp=>exact (Reps.none _ _));intro v123 w23 ho24 hb hg_ hnew_;clear hg_ hnew_;(rw [← Ny122.out] at ho24);have HO124:=ζa (Kd.R_lower (Kd.R_new' ho24 (Kd.R_lt (by (with_reducible repeat (apply ζc));exact HO_4.out))) (δs (by repeat ((with_reducible first|exact HB.out|apply δi)))));replace HO_4:=ζa (Kd.R_elder' (by (with_reducible repeat (apply ζc));exact HO_4.out) (Kd.R_base ho24) hb);replace HB:=ζa (δr (by repeat ((with_reducible first|exact HB.out|apply δi))) hb);clear hb ho24)))
              go_ret2
              exact ⟨_,by rfl,by exact Kd.R_mono HO124.out (fun _ hk=>trivial),by repeat ((with_reducible exact HB.out))⟩
             ·
              rw [if_neg c22] at H
              have c22b0:decide (1000<(ζm ((ζm ((ζm (bt a0 x5_2)) * 256))+(ζm (bt a0 (ji18))))))=φ:=decide_eq_false c22
              clear c22
              by_cases c25:(ζm ((ζm (x5_2+2))+(ζm ((ζm ((ζm (bt a0 x5_2)) * 256))+(ζm (bt a0 (ji18))))))) > (a0.size:Int)
              ·
               rw [if_pos c25] at H
               have c25b0:decide ((a0.size:Int)<(ζm ((ζm (x5_2+2))+(ζm ((ζm ((ζm (bt a0 x5_2)) * 256))+(ζm (bt a0 (ji18))))))))=τ:=decide_eq_true c25
               clear c25
               obtain ⟨y125,hy125⟩ : ∃ y_:List ByteArray,y_=(([]:List ByteArray)):=⟨_,rfl⟩
               replace H:(some (y125,φ))=some (r1,r2):=by (rw [hy125];with_reducible exact H)
               have Ny125:=ζa hy125
               clear hy125
               simp only [Option.some.injEq,Prod.mk.injEq] at H
               obtain ⟨rfl,rfl⟩:=H
               have p17:0≤(x5_2:Int):=of_decide_eq_true (by (with_reducible assumption))
               have q17:x5_2<(a0.size:Int):=of_decide_eq_true (by (with_reducible assumption))
               have hx17:=bt_at a0 x5_2
               replace p17:=eq_true p17
               replace q17:=eq_true q17
               have p21:0≤((ji18):Int):=of_decide_eq_true (by (with_reducible assumption))
               have q21:(ji18)<(a0.size:Int):=of_decide_eq_true (by (with_reducible assumption))
               have hx21:=bt_at a0 (ji18)
               replace p21:=eq_true p21
               replace q21:=eq_true q21
               go_wp2_with (fail)
               repeat (go_quiet (fail);try go_wp2_with (((with_reducible refine δx (N:=52) rfl ?_);(try (refine gate_guard (by rfl) ?_;dsimp only));refine Kd.R_lit Kd.string _ 9 ?hg (N:=52) ?hd (xs:=([]:List ByteArray)) (inner:=[]) (ok:=fun _=>True) (okp:=fun _=>True) ?hr ?hp (fun _ hk=>hk) trivial (Below.refl _ _) (Nat.le_refl _) (by simp) ?_;(case hd=>rfl);(case hg=>rfl);(case hr=>(go_simp;done));(case hp=>exact (Reps.none _ _));intro v126 w26 ho27 hb hg_ hnew_;clear hg_ hnew_;(rw [← Ny125.out] at ho27);have HO127:=ζa (Kd.R_lower (Kd.R_new' ho27 (Kd.R_lt (by (with_reducible repeat (apply ζc));exact HO_4.out))) (δs (by repeat ((with_reducible first|exact HB.out|apply δi)))));replace HO_4:=ζa (Kd.R_elder' (by (with_reducible repeat (apply ζc));exact HO_4.out) (Kd.R_base ho27) hb);replace HB:=ζa (δr (by repeat ((with_reducible first|exact HB.out|apply δi))) hb);clear hb ho27)))
               go_ret2
               exact ⟨_,by rfl,by exact Kd.R_mono HO127.out (fun _ hk=>trivial),by repeat ((with_reducible exact HB.out))⟩
              ·
               rw [if_neg c25] at H
               have c25b0:decide ((a0.size:Int)<(ζm ((ζm (x5_2+2))+(ζm ((ζm ((ζm (bt a0 x5_2)) * 256))+(ζm (bt a0 (ji18))))))))=φ:=decide_eq_false c25
               clear c25
               obtain ⟨ji28,hji28⟩ : ∃ j_:Int,(ζm (x5_2+2))=j_:=⟨_,rfl⟩
               replace H:(if 0≤(ji28) then (if (ji28)≤(ζm ((ji28)+(ζm ((ζm ((ζm (bt a0 x5_2)) * 256))+(ζm (bt a0 (ji18))))))) then (if (ζm ((ji28)+(ζm ((ζm ((ζm (bt a0 x5_2)) * 256))+(ζm (bt a0 (ji18)))))))≤(a0.size:Int) then (if x4_2.length<8796093022208 then (spec_l02Read.l0 k2 a0 (x4_2 ++ [a0.extract ((ji28):Int).toNat ((ζm ((ji28)+(ζm ((ζm ((ζm (bt a0 x5_2)) * 256))+(ζm (bt a0 (ji18))))))):Int).toNat]) (ζm (x5_2+(ζm (2+(ζm ((ζm ((ζm (bt a0 x5_2)) * 256))+(ζm (bt a0 (ji18))))))))) (ζm (x6_2 - 1))) else (none)) else (none)) else (none)) else (none))=some (r1,r2):=by (rw [hji28] at H;exact H)
               (try rw [hji28] at c12b0)
               (try rw [hji28] at c25b0)
               have hji28w:(IntKind.i64.wrap (x5_2+2))=ji28:=(i64_w _).trans hji28
               by_cases c29:0≤(ji28)
               ·
                rw [if_pos c29] at H
                have c29b0:=eq_true c29
                have c29b1:=decide_eq_true c29
                clear c29
                by_cases c30:(ji28)≤(ζm ((ji28)+(ζm ((ζm ((ζm (bt a0 x5_2)) * 256))+(ζm (bt a0 (ji18)))))))
                ·
                 rw [if_pos c30] at H
                 have c30b0:=eq_true c30
                 have c30b1:=decide_eq_true c30
                 by_cases c31:(ζm ((ji28)+(ζm ((ζm ((ζm (bt a0 x5_2)) * 256))+(ζm (bt a0 (ji18)))))))≤(a0.size:Int)
                 ·
                  rw [if_pos c31] at H
                  have c31b0:=eq_true c31
                  have c31b1:=decide_eq_true c31
                  by_cases c32:x4_2.length<8796093022208
                  ·
                   rw [if_pos c32] at H
                   have LMc32:=ζa c32
                   clear c32
                   obtain ⟨y128,hy128⟩ : ∃ y_:List ByteArray,y_=(x4_2 ++ [a0.extract ((ji28):Int).toNat ((ζm ((ji28)+(ζm ((ζm ((ζm (bt a0 x5_2)) * 256))+(ζm (bt a0 (ji18))))))):Int).toNat]):=⟨_,rfl⟩
                   replace H:(spec_l02Read.l0 k2 a0 y128 (ζm (x5_2+(ζm (2+(ζm ((ζm ((ζm (bt a0 x5_2)) * 256))+(ζm (bt a0 (ji18))))))))) (ζm (x6_2 - 1)))=some (r1,r2):=by (rw [hy128];with_reducible exact H)
                   have Ny128:=ζa hy128
                   clear hy128
                   have H':=ζa H
                   clear H
                   have p17:0≤(x5_2:Int):=of_decide_eq_true (by (with_reducible assumption))
                   have q17:x5_2<(a0.size:Int):=of_decide_eq_true (by (with_reducible assumption))
                   have hx17:=bt_at a0 x5_2
                   replace p17:=eq_true p17
                   replace q17:=eq_true q17
                   have p21:0≤((ji18):Int):=of_decide_eq_true (by (with_reducible assumption))
                   have q21:(ji18)<(a0.size:Int):=of_decide_eq_true (by (with_reducible assumption))
                   have hx21:=bt_at a0 (ji18)
                   replace p21:=eq_true p21
                   replace q21:=eq_true q21
                   go_wp2_with (fail)
                   repeat (go_quiet (fail);try go_wp2_with (((with_reducible refine δy (b:=.append) (xs:=#[.tmp 53,.tmp 62]) rfl ?_);(try (refine gate_guard (by rfl) ?_;dsimp only));at_builtin;refine Kd.R_append Kd.string (w0:=w) w.heap.size rfl (.tmp 53) (.tmp 62) 56 9 (.string ⟨#[]⟩) 16 rfl Tryz.underlying56 info9 rfl (by decide) (by omega) u4 x4_2 (a0.extract ((ji28):Int).toNat ((ζm ((ji28)+(ζm ((ζm ((ζm (bt a0 x5_2)) * 256))+(ζm (bt a0 (ji18))))))):Int).toNat) [.string (a0.extract ((ji28):Int).toNat ((ζm ((ji28)+(ζm ((ζm ((ζm (bt a0 x5_2)) * 256))+(ζm (bt a0 (ji18))))))):Int).toNat)] (fun _=>True) (fun _=>False) rfl rfl ?aP (fun _ hk=>hk.elim) ?aF ?aO ?aB ?aS ?aL ?_;(case aP=>exact rfl);(case aB=>exact (by repeat ((with_reducible first|exact HB.out|apply δi))));(case aF=>exact (fun _ _=>trivial));(case aO=>exact (by (with_reducible repeat (apply ζc));exact HO_4.out));(case aS=>exact (δs (by repeat ((with_reducible first|exact HB.out|apply δi)))));(case aL=>have:=LMc32.out;omega);intro v129 w33 ho hb hg hat;rw [← Ny128.out] at ho;have n0_:=ζa (hb);have n1_:=ζa (ho);clear HB;clear HO_4;have HB:=n0_;have HO130:=n1_;clear n0_ n1_;clear ho hb hg hat)))
                   go_roundg k2
                   case measure=>have:=HJ1.out;have:=HK2.out;omega
                   case rel=>exact ⟨(y128),(ζm (x5_2+(ζm (2+(ζm ((ζm ((ζm (bt a0 x5_2)) * 256))+(ζm (bt a0 (ji18))))))))),(ζm (x6_2 - 1)),(by rfl),(by rfl),H',⟨by have:=HJ1.out;have:=HK2.out;omega⟩,⟨by exact HO130.out⟩,⟨by repeat ((with_reducible exact HB.out))⟩⟩
                  ·
                   rw [if_neg c32] at H
                   exact absurd H (by simp)
                 ·
                  rw [if_neg c31] at H
                  exact absurd H (by simp)
                ·
                 rw [if_neg c30] at H
                 exact absurd H (by simp)
               ·
                rw [if_neg c29] at H
                exact absurd H (by simp)
            ·
             rw [if_neg c20] at H
             exact absurd H (by simp)
           ·
            rw [if_neg c19] at H
            exact absurd H (by simp)
          ·
           rw [if_neg c16] at H
           exact absurd H (by simp)
         ·
          rw [if_neg c15] at H
          exact absurd H (by simp)
       ·
        rw [if_neg c11] at H
        have c11b0:decide (0<x6_2)=φ:=decide_eq_false c11
        clear c11
        by_cases c34:x5_2=(a0.size:Int)
        ·
         rw [if_pos c34] at H
         have c34b0:=beq_iff_eq.mpr c34
         have c34b1:=bne_eq_false_iff_eq.mpr c34
         clear c34
         simp only [Option.some.injEq,Prod.mk.injEq] at H
         obtain ⟨rfl,rfl⟩:=H
         go_wp2
         repeat (go_quiet (fail);try go_wp2)
         go_ret2
         exact ⟨_,by rfl,by exact HO_4.out,by repeat ((with_reducible exact HB.out))⟩
        ·
         rw [if_neg c34] at H
         have c34b0:=beq_eq_false_iff_ne.mpr c34
         have c34b1:=bne_iff_ne.mpr c34
         obtain ⟨y116,hy116⟩ : ∃ y_:List ByteArray,y_=(([]:List ByteArray)):=⟨_,rfl⟩
         replace H:(some (y116,φ))=some (r1,r2):=by (rw [hy116];with_reducible exact H)
         have Ny116:=ζa hy116
         clear hy116
         simp only [Option.some.injEq,Prod.mk.injEq] at H
         obtain ⟨rfl,rfl⟩:=H
         go_wp2_with (((with_reducible refine δx (N:=72) rfl ?_);(try (refine gate_guard (by rfl) ?_;dsimp only));refine Kd.R_lit Kd.string _ 9 ?hg (N:=72) ?hd (xs:=([]:List ByteArray)) (inner:=[]) (ok:=fun _=>True) (okp:=fun _=>True) ?hr ?hp (fun _ hk=>hk) trivial (Below.refl _ _) (Nat.le_refl _) (by simp) ?_;(case hd=>rfl);(case hg=>rfl);(case hr=>(go_simp;done));(case hp=>exact (Reps.none _ _));intro v117 w35 ho36 hb hg_ hnew_;clear hg_ hnew_;(rw [← Ny116.out] at ho36);have HO118:=ζa (Kd.R_lower (Kd.R_new' ho36 (Kd.R_lt (by exact HO_4.out))) (δs (by exact HB.out)));replace HO_4:=ζa (Kd.R_elder' (by exact HO_4.out) (Kd.R_base ho36) hb);replace HB:=ζa (δr (by exact HB.out) hb);clear hb ho36))
         repeat (go_quiet (fail);try go_wp2_with (fail))
         go_ret2
         exact ⟨_,by rfl,by exact Kd.R_mono HO118.out (fun _ hk=>trivial),by repeat ((with_reducible exact HB.out))⟩
    ·
     rw [if_neg c9] at H
     exact absurd H (by simp)


set_option maxHeartbeats 8000000
set_option maxRecDepth 100000

/-! ### spec_l00Letter: function 113 -/
def spec_l00Letter.f (a0:Int):Option (Bool):=if a0 ≥ 97 then (if a0≤122 then (some τ) else (if a0 ≥ 65 then (if a0≤90 then (some τ) else (some (a0 == 95))) else (some (a0 == 95)))) else (if a0 ≥ 65 then (if a0≤90 then (some τ) else (some (a0 == 95))) else (some (a0 == 95)))
theorem spec_l00Letter.calls (a0:Int) (r:Bool) (w:World) (h:spec_l00Letter.f a0=some r) :
  Calls Tryz.prog 113 #[.int .u8 a0] w fun e w'=>e = .returned (.bool r)∧Drawn0 w w':=by
 have H:(if a0 ≥ 97 then (if a0≤122 then (some τ) else (if a0 ≥ 65 then (if a0≤90 then (some τ) else (some (a0 == 95))) else (some (a0 == 95)))) else (if a0 ≥ 65 then (if a0≤90 then (some τ) else (some (a0 == 95))) else (some (a0 == 95))))=some r:=h
 clear h
 by_cases c2:a0 ≥ 97
 ·
  rw [if_pos c2] at H
  have c2b0:decide (97≤a0)=τ:=decide_eq_true c2
  clear c2
  by_cases c3:a0≤122
  ·
   rw [if_pos c3] at H
   have c3b0:=decide_eq_true c3
   clear c3
   obtain rfl:=Option.some.inj H
   go_enter Tryz.func113,Tryz.ntmps113
   go_wp2
   go_ret
   exact ⟨by rfl,by repeat (exact Drawn0.refl _)⟩
  ·
   rw [if_neg c3] at H
   have c3b0:=decide_eq_false c3
   clear c3
   by_cases c4:a0 ≥ 65
   ·
    rw [if_pos c4] at H
    have c4b0:decide (65≤a0)=τ:=decide_eq_true c4
    clear c4
    by_cases c5:a0≤90
    ·
     rw [if_pos c5] at H
     have c5b0:=decide_eq_true c5
     clear c5
     obtain rfl:=Option.some.inj H
     go_enter Tryz.func113,Tryz.ntmps113
     go_wp2
     go_ret
     exact ⟨by rfl,by repeat (exact Drawn0.refl _)⟩
    ·
     rw [if_neg c5] at H
     have c5b0:=decide_eq_false c5
     clear c5
     obtain rfl:=Option.some.inj H
     go_enter Tryz.func113,Tryz.ntmps113
     go_wp2
     go_ret
     exact ⟨by rfl,by repeat (exact Drawn0.refl _)⟩
   ·
    rw [if_neg c4] at H
    have c4b0:decide (65≤a0)=φ:=decide_eq_false c4
    clear c4
    obtain rfl:=Option.some.inj H
    go_enter Tryz.func113,Tryz.ntmps113
    go_wp2
    go_ret
    exact ⟨by rfl,by repeat (exact Drawn0.refl _)⟩
 ·
  rw [if_neg c2] at H
  have c2b0:decide (97≤a0)=φ:=decide_eq_false c2
  clear c2
  by_cases c6:a0 ≥ 65
  ·
   rw [if_pos c6] at H
   have c6b0:decide (65≤a0)=τ:=decide_eq_true c6
   clear c6
   by_cases c7:a0≤90
   ·
    rw [if_pos c7] at H
    have c7b0:=decide_eq_true c7
    clear c7
    obtain rfl:=Option.some.inj H
    go_enter Tryz.func113,Tryz.ntmps113
    go_wp2
    go_ret
    exact ⟨by rfl,by repeat (exact Drawn0.refl _)⟩
   ·
    rw [if_neg c7] at H
    have c7b0:=decide_eq_false c7
    clear c7
    obtain rfl:=Option.some.inj H
    go_enter Tryz.func113,Tryz.ntmps113
    go_wp2
    go_ret
    exact ⟨by rfl,by repeat (exact Drawn0.refl _)⟩
  ·
   rw [if_neg c6] at H
   have c6b0:decide (65≤a0)=φ:=decide_eq_false c6
   clear c6
   obtain rfl:=Option.some.inj H
   go_enter Tryz.func113,Tryz.ntmps113
   go_wp2
   go_ret
   exact ⟨by rfl,by repeat (exact Drawn0.refl _)⟩


set_option maxHeartbeats 8000000
set_option maxRecDepth 100000

/-! ### spec_l00Digit: function 114 -/
def spec_l00Digit.f (a0:Int):Option (Bool):=if a0 ≥ 48 then (some (decide (a0≤57))) else (some φ)
theorem spec_l00Digit.calls (a0:Int) (r:Bool) (w:World) (h:spec_l00Digit.f a0=some r) :
  Calls Tryz.prog 114 #[.int .u8 a0] w fun e w'=>e = .returned (.bool r)∧Drawn0 w w':=by
 have H:(if a0 ≥ 48 then (some (decide (a0≤57))) else (some φ))=some r:=h
 clear h
 by_cases c2:a0 ≥ 48
 ·
  rw [if_pos c2] at H
  have c2b0:decide (48≤a0)=τ:=decide_eq_true c2
  clear c2
  obtain rfl:=Option.some.inj H
  go_enter Tryz.func114,Tryz.ntmps114
  go_wp2
  go_ret
  exact ⟨by rfl,by repeat (exact Drawn0.refl _)⟩
 ·
  rw [if_neg c2] at H
  have c2b0:decide (48≤a0)=φ:=decide_eq_false c2
  clear c2
  obtain rfl:=Option.some.inj H
  go_enter Tryz.func114,Tryz.ntmps114
  go_wp2
  go_ret
  exact ⟨by rfl,by repeat (exact Drawn0.refl _)⟩


set_option maxHeartbeats 8000000
set_option maxRecDepth 100000

/-! ### spec_l00Word: function 99 -/
mutual
def spec_l00Word.j0:Nat→ByteArray→Bool→Option (Bool)
 | 0,_,_=>none
 | k+1,x0,x17=>if x17=τ then (some φ) else (spec_l00Word.l0 k x0 1)
def spec_l00Word.l0:Nat→ByteArray→Int→Option (Bool)
 | 0,_,_=>none
 | k+1,x0,x3=>if x3<(x0.size:Int) then (if 0≤x3 then ((spec_l00Letter.f (bt x0 x3)).bind fun t132=>(if t132=τ then (spec_l00Word.l0 k x0 (ζm (x3+1))) else ((spec_l00Digit.f (bt x0 x3)).bind fun t133=>(if t133=τ then (spec_l00Word.l0 k x0 (ζm (x3+1))) else (some φ))))) else (none)) else (some τ)
end
def spec_l00Word.f (k:Nat) (a0:ByteArray):Option (Bool):=if (a0.size:Int)<1 then (spec_l00Word.j0 k a0 τ) else (if (a0.size:Int) > 40 then (spec_l00Word.j0 k a0 τ) else (if 0<(a0.size:Int) then ((spec_l00Letter.f (bt a0 0)).bind fun t131=>(spec_l00Word.j0 k a0 (!t131))) else (none)))
theorem spec_l00Word.calls (k:Nat) (a0:ByteArray) (r:Bool) (w:World) (h:spec_l00Word.f k a0=some r) :
  Calls Tryz.prog 99 #[.string a0] w fun e w'=>e = .returned (.bool r)∧Drawn0 w w':=by
 have H:(if (a0.size:Int)<1 then (spec_l00Word.j0 k a0 τ) else (if (a0.size:Int) > 40 then (spec_l00Word.j0 k a0 τ) else (if 0<(a0.size:Int) then ((spec_l00Letter.f (bt a0 0)).bind fun t131=>(spec_l00Word.j0 k a0 (!t131))) else (none))))=some r:=h
 clear h
 have HC2:=ζa H
 clear H
 go_enter Tryz.func99,Tryz.ntmps99
 go_upto_region 1 with (fail)
 go_cut [17] (fun v17 wc => ∃ (kq:Nat) (x17_1:Bool),v17 = .bool x17_1∧Aside0 (spec_l00Word.j0 kq a0 x17_1=some r)∧Aside0 (kq≤k)∧Drawn0 w wc)
 case first =>
  have H:=HC2.out
  clear HC2
  by_cases c3:(a0.size:Int)<1
  ·
   rw [if_pos c3] at H
   have c3b0:=decide_eq_true c3
   have c3b1:decide (a0.size<1)=τ:=decide_eq_true (by omega)
   clear c3
   have H':=ζa H
   clear H
   go_wp2
   go_meet
   case rel=>exact ⟨_,(τ),(by rfl),H',⟨by omega⟩,by repeat (exact Drawn0.refl _)⟩
  ·
   rw [if_neg c3] at H
   have c3b0:=decide_eq_false c3
   have c3b1:decide (a0.size<1)=φ:=decide_eq_false (by omega)
   clear c3
   by_cases c4:(a0.size:Int) > 40
   ·
    rw [if_pos c4] at H
    have c4b0:decide (40<(a0.size:Int))=τ:=decide_eq_true c4
    have c4b1:decide (40<a0.size)=τ:=decide_eq_true (by omega)
    clear c4
    have H':=ζa H
    clear H
    go_wp2
    go_meet
    case rel=>exact ⟨_,(τ),(by rfl),H',⟨by omega⟩,by repeat (exact Drawn0.refl _)⟩
   ·
    rw [if_neg c4] at H
    have c4b0:decide (40<(a0.size:Int))=φ:=decide_eq_false c4
    have c4b1:decide (40<a0.size)=φ:=decide_eq_false (by omega)
    clear c4
    by_cases c5:0<(a0.size:Int)
    ·
     rw [if_pos c5] at H
     have c5b0:=decide_eq_true c5
     have c5b1:decide (0<a0.size)=τ:=decide_eq_true (by omega)
     clear c5
     obtain ⟨t131,A7,H⟩:=bsm H
     have H':=ζa H
     clear H
     have p6:0≤(0:Int):=(by omega)
     have q6:0<a0.size:=(by have:(0:Int)<(a0.size:Int):=of_decide_eq_true (by (with_reducible assumption));omega)
     have hx6 : ∀ h:0<a0.size,((a0[0]'h).toNat:Int)=bt a0 0:=bt_at a0 0
     clear p6
     have qi6:(0<(a0.size:Int))=True:=eq_true (of_decide_eq_true (by (with_reducible assumption)))
     replace q6:=eq_true q6
     go_wp2_with ((go_at_call 113;(with_reducible refine (spec_l00Letter.calls (bt a0 0) t131 _ A7.out).mono ?_);rintro e w' ⟨rfl,⟨nd,rfl⟩⟩))
     go_meet
     case rel=>exact ⟨_,(!t131),(by rfl),H',⟨by omega⟩,by repeat (first|exact Drawn0.refl _|apply Drawn0.step)⟩
    ·
     rw [if_neg c5] at H
     exact absurd H (by simp)
 case rest =>
  clear HC2
  try clear p2
  try clear c3
  try clear c3b0
  try clear c3b1
  try clear c4
  try clear c4b0
  try clear c4b1
  try clear c5
  try clear c5b0
  try clear c5b1
  try clear p6
  try clear q6
  try clear hx6
  try clear qi6
  try clear p6
  try clear q6
  obtain ⟨kq,x17_1,rfl,HA,HJ1,⟨mc1,rfl⟩⟩:=hcut
  cases kq with
  | zero=>exact absurd HA.out (by simp [spec_l00Word.j0])
  | succ kj1 =>
   have H:=HA.out
   clear HA
   simp only [spec_l00Word.j0] at H
   by_cases c8:x17_1=τ
   ·
    subst c8
    rw [ifT] at H
    obtain rfl:=Option.some.inj H
    go_wp2
    go_ret
    exact ⟨by rfl,by repeat (first|exact Drawn0.refl _|apply Drawn0.step)⟩
   ·
    replace c8:=Bool.eq_false_iff.mpr c8
    subst c8
    rw [ifF] at H
    have H':=ζa H
    clear H
    go_wp2
    go_loopg [3] kj1 (fun kq v3 w' => ∃ (x3_2:Int),v3 = .int .i64 x3_2∧Aside0 (spec_l00Word.l0 kq a0 x3_2=some r)∧Aside0 (kq≤kj1)∧Drawn0 w w')
    case atStart=>exact ⟨(1),(by rfl),H',⟨Nat.le_refl _⟩,by repeat (first|exact Drawn0.refl _|apply Drawn0.step)⟩
    case round =>
     clear H'
     try clear c1
     try clear p2
     try clear c3
     try clear c3b0
     try clear c3b1
     try clear c4
     try clear c4b0
     try clear c4b1
     try clear c5
     try clear c5b0
     try clear c5b1
     try clear p6
     try clear q6
     try clear hx6
     try clear qi6
     try clear c8
     try clear p2
     try clear p6
     try clear q6
     obtain ⟨x3_2,rfl,HA,HK2,⟨m2,rfl⟩⟩:=hrel
     cases gk with
     | zero=>exact absurd HA.out (by simp [spec_l00Word.l0])
     | succ k2 =>
      have H:=HA.out
      clear HA
      simp only [spec_l00Word.l0] at H
      by_cases c9:x3_2<(a0.size:Int)
      ·
       rw [if_pos c9] at H
       have c9b0:=decide_eq_true c9
       clear c9
       by_cases c10:0≤x3_2
       ·
        rw [if_pos c10] at H
        have c10b0:=decide_eq_true c10
        clear c10
        obtain ⟨t132,A12,H⟩:=bsm H
        by_cases c13:t132=τ
        ·
         subst c13
         rw [ifT] at H
         have H':=ζa H
         clear H
         have p11:0≤(x3_2:Int):=of_decide_eq_true (by (with_reducible assumption))
         have q11:x3_2<(a0.size:Int):=of_decide_eq_true (by (with_reducible assumption))
         have hx11:=bt_at a0 x3_2
         replace p11:=eq_true p11
         replace q11:=eq_true q11
         go_wp2_with (((with_reducible refine δv (f:=113) rfl ?_);refine gl 27 Tryz.func113 #[.int .u8 (bt a0 x3_2)] ?_;(with_reducible refine (spec_l00Letter.calls (bt a0 x3_2) τ _ A12.out).mono ?_);rintro e w' ⟨rfl,⟨nd,rfl⟩⟩;refine ⟨_,rfl,?_⟩))
         go_roundg k2
         case measure=>have:=HJ1.out;have:=HK2.out;omega
         case rel=>exact ⟨(ζm (x3_2+1)),(by rfl),H',⟨by have:=HJ1.out;have:=HK2.out;omega⟩,by repeat (first|exact Drawn0.refl _|apply Drawn0.step)⟩
        ·
         replace c13:=Bool.eq_false_iff.mpr c13
         subst c13
         rw [ifF] at H
         obtain ⟨t133,A15,H⟩:=bsm H
         by_cases c16:t133=τ
         ·
          subst c16
          rw [ifT] at H
          have H':=ζa H
          clear H
          have p11:0≤(x3_2:Int):=of_decide_eq_true (by (with_reducible assumption))
          have q11:x3_2<(a0.size:Int):=of_decide_eq_true (by (with_reducible assumption))
          have hx11:=bt_at a0 x3_2
          replace p11:=eq_true p11
          replace q11:=eq_true q11
          go_wp2_with (first|((with_reducible refine δv (f:=113) rfl ?_);refine gl 27 Tryz.func113 #[.int .u8 (bt a0 x3_2)] ?_;(with_reducible refine (spec_l00Letter.calls (bt a0 x3_2) φ _ A12.out).mono ?_);rintro e w' ⟨rfl,⟨nd,rfl⟩⟩;refine ⟨_,rfl,?_⟩;have p14:0≤(x3_2:Int):=of_decide_eq_true (by (with_reducible assumption));have q14:x3_2<(a0.size:Int):=of_decide_eq_true (by (with_reducible assumption));have hx14:=bt_at a0 x3_2;replace p14:=eq_true p14;replace q14:=eq_true q14)|(go_at_call 114;(with_reducible refine (spec_l00Digit.calls (bt a0 x3_2) τ _ A15.out).mono ?_);rintro e w' ⟨rfl,⟨nd,rfl⟩⟩))
          go_roundg k2
          case measure=>have:=HJ1.out;have:=HK2.out;omega
          case rel=>exact ⟨(ζm (x3_2+1)),(by rfl),H',⟨by have:=HJ1.out;have:=HK2.out;omega⟩,by repeat (first|exact Drawn0.refl _|apply Drawn0.step)⟩
         ·
          replace c16:=Bool.eq_false_iff.mpr c16
          subst c16
          rw [ifF] at H
          obtain rfl:=Option.some.inj H
          have p11:0≤(x3_2:Int):=of_decide_eq_true (by (with_reducible assumption))
          have q11:x3_2<(a0.size:Int):=of_decide_eq_true (by (with_reducible assumption))
          have hx11:=bt_at a0 x3_2
          replace p11:=eq_true p11
          replace q11:=eq_true q11
          go_wp2_with (first|((with_reducible refine δv (f:=113) rfl ?_);refine gl 27 Tryz.func113 #[.int .u8 (bt a0 x3_2)] ?_;(with_reducible refine (spec_l00Letter.calls (bt a0 x3_2) φ _ A12.out).mono ?_);rintro e w' ⟨rfl,⟨nd,rfl⟩⟩;refine ⟨_,rfl,?_⟩;have p14:0≤(x3_2:Int):=of_decide_eq_true (by (with_reducible assumption));have q14:x3_2<(a0.size:Int):=of_decide_eq_true (by (with_reducible assumption));have hx14:=bt_at a0 x3_2;replace p14:=eq_true p14;replace q14:=eq_true q14)|(go_at_call 114;(with_reducible refine (spec_l00Digit.calls (bt a0 x3_2) φ _ A15.out).mono ?_);rintro e w' ⟨rfl,⟨nd,rfl⟩⟩))
          go_ret
          exact ⟨by rfl,by repeat (first|exact Drawn0.refl _|apply Drawn0.step)⟩
       ·
        rw [if_neg c10] at H
        exact absurd H (by simp)
      ·
       rw [if_neg c9] at H
       have c9b0:=decide_eq_false c9
       clear c9
       obtain rfl:=Option.some.inj H
       go_wp2
       go_ret
       exact ⟨by rfl,by repeat (first|exact Drawn0.refl _|apply Drawn0.step)⟩


set_option maxHeartbeats 8000000
set_option maxRecDepth 100000

/-! ### spec_NameOK: function 74 -/
def spec_NameOK.f (k:Nat) (a0:ByteArray):Option (Bool):=(spec_l00Word.f k a0).bind fun t134=>(some t134)
theorem spec_NameOK.calls (k:Nat) (a0:ByteArray) (r:Bool) (w:World) (h:spec_NameOK.f k a0=some r) :
  Calls Tryz.prog 74 #[.string a0] w fun e w'=>e = .returned (.bool r)∧Drawn0 w w':=by
 have H:((spec_l00Word.f k a0).bind fun t134=>(some t134))=some r:=h
 clear h
 obtain ⟨t134,A2,H⟩:=bsm H
 obtain rfl:=Option.some.inj H
 go_enter Tryz.func74,Tryz.ntmps74
 go_wp2_with (((with_reducible refine δv (f:=99) rfl ?_);refine gl 4 Tryz.func99 #[.string a0] ?_;(with_reducible refine (spec_l00Word.calls k a0 t134 _ A2.out).mono ?_);rintro e w' ⟨rfl,⟨nd,rfl⟩⟩;refine ⟨_,rfl,?_⟩))
 go_ret
 exact ⟨by rfl,by repeat (first|exact Drawn0.refl _|apply Drawn0.step)⟩


set_option maxHeartbeats 8000000
set_option maxRecDepth 100000

/-! ### spec_l05Name: function 40 -/
def spec_l05Name.f (k:Nat) (a0:ByteArray):Option (Bool):=if (a0.size:Int)≤12 then ((spec_NameOK.f k a0).bind fun t135=>(some t135)) else (some φ)
theorem spec_l05Name.calls (k:Nat) (a0:ByteArray) (r:Bool) (w:World) (h:spec_l05Name.f k a0=some r) :
  Calls Tryz.prog 40 #[.string a0] w fun e w'=>e = .returned (.bool r)∧Drawn0 w w':=by
 have H:(if (a0.size:Int)≤12 then ((spec_NameOK.f k a0).bind fun t135=>(some t135)) else (some φ))=some r:=h
 clear h
 by_cases c2:(a0.size:Int)≤12
 ·
  rw [if_pos c2] at H
  have c2b0:=decide_eq_true c2
  have c2b1:decide (a0.size≤12)=τ:=decide_eq_true (by omega)
  clear c2
  obtain ⟨t135,A3,H⟩:=bsm H
  obtain rfl:=Option.some.inj H
  go_enter Tryz.func40,Tryz.ntmps40
  go_wp2_with ((go_at_call 74;(with_reducible refine (spec_NameOK.calls k a0 t135 _ A3.out).mono ?_);rintro e w' ⟨rfl,⟨nd,rfl⟩⟩))
  go_ret
  exact ⟨by rfl,by repeat (first|exact Drawn0.refl _|apply Drawn0.step)⟩
 ·
  rw [if_neg c2] at H
  have c2b0:=decide_eq_false c2
  have c2b1:decide (a0.size≤12)=φ:=decide_eq_false (by omega)
  clear c2
  obtain rfl:=Option.some.inj H
  go_enter Tryz.func40,Tryz.ntmps40
  go_wp2
  go_ret
  exact ⟨by rfl,by repeat (exact Drawn0.refl _)⟩


set_option maxHeartbeats 8000000
set_option maxRecDepth 100000

/-! ### spec_l08Name: function 41 -/
def spec_l08Name.f (k:Nat) (a0:ByteArray):Option (Bool):=(spec_l05Name.f k a0).bind fun t136=>(if t136=τ then (if a0.toList=([101,115,99,114,111,119]:List UInt8) then (some φ) else (if a0.toList=([111,114,100,101,114,115]:List UInt8) then (some φ) else (if a0.toList=([116,97,107,101,115]:List UInt8) then (some φ) else (some (a0.toList != ([112,111,111,108]:List UInt8)))))) else (some φ))
theorem spec_l08Name.calls (k:Nat) (a0:ByteArray) (r:Bool) (w:World) (h:spec_l08Name.f k a0=some r) :
  Calls Tryz.prog 41 #[.string a0] w fun e w'=>e = .returned (.bool r)∧Drawn0 w w':=by
 have H:((spec_l05Name.f k a0).bind fun t136=>(if t136=τ then (if a0.toList=([101,115,99,114,111,119]:List UInt8) then (some φ) else (if a0.toList=([111,114,100,101,114,115]:List UInt8) then (some φ) else (if a0.toList=([116,97,107,101,115]:List UInt8) then (some φ) else (some (a0.toList != ([112,111,111,108]:List UInt8)))))) else (some φ)))=some r:=h
 clear h
 obtain ⟨t136,A2,H⟩:=bsm H
 by_cases c3:t136=τ
 ·
  subst c3
  rw [ifT] at H
  by_cases c4:a0.toList=([101,115,99,114,111,119]:List UInt8)
  ·
   rw [if_pos c4] at H
   have c4b0:=beq_iff_eq.mpr c4
   have c4b1:=bne_eq_false_iff_eq.mpr c4
   clear c4
   obtain rfl:=Option.some.inj H
   go_enter Tryz.func41,Tryz.ntmps41
   go_wp2_with (((with_reducible refine δv (f:=40) rfl ?_);refine gl 4 Tryz.func40 #[.string a0] ?_;(with_reducible refine (spec_l05Name.calls k a0 τ _ A2.out).mono ?_);rintro e w' ⟨rfl,⟨nd,rfl⟩⟩;refine ⟨_,rfl,?_⟩))
   go_ret
   exact ⟨by rfl,by repeat (first|exact Drawn0.refl _|apply Drawn0.step)⟩
  ·
   rw [if_neg c4] at H
   have c4b0:=beq_eq_false_iff_ne.mpr c4
   have c4b1:=bne_iff_ne.mpr c4
   by_cases c5:a0.toList=([111,114,100,101,114,115]:List UInt8)
   ·
    rw [if_pos c5] at H
    have c5b0:=beq_iff_eq.mpr c5
    have c5b1:=bne_eq_false_iff_eq.mpr c5
    clear c5
    obtain rfl:=Option.some.inj H
    go_enter Tryz.func41,Tryz.ntmps41
    go_wp2_with (((with_reducible refine δv (f:=40) rfl ?_);refine gl 4 Tryz.func40 #[.string a0] ?_;(with_reducible refine (spec_l05Name.calls k a0 τ _ A2.out).mono ?_);rintro e w' ⟨rfl,⟨nd,rfl⟩⟩;refine ⟨_,rfl,?_⟩))
    go_ret
    exact ⟨by rfl,by repeat (first|exact Drawn0.refl _|apply Drawn0.step)⟩
   ·
    rw [if_neg c5] at H
    have c5b0:=beq_eq_false_iff_ne.mpr c5
    have c5b1:=bne_iff_ne.mpr c5
    by_cases c6:a0.toList=([116,97,107,101,115]:List UInt8)
    ·
     rw [if_pos c6] at H
     have c6b0:=beq_iff_eq.mpr c6
     have c6b1:=bne_eq_false_iff_eq.mpr c6
     clear c6
     obtain rfl:=Option.some.inj H
     go_enter Tryz.func41,Tryz.ntmps41
     go_wp2_with (((with_reducible refine δv (f:=40) rfl ?_);refine gl 4 Tryz.func40 #[.string a0] ?_;(with_reducible refine (spec_l05Name.calls k a0 τ _ A2.out).mono ?_);rintro e w' ⟨rfl,⟨nd,rfl⟩⟩;refine ⟨_,rfl,?_⟩))
     go_ret
     exact ⟨by rfl,by repeat (first|exact Drawn0.refl _|apply Drawn0.step)⟩
    ·
     rw [if_neg c6] at H
     have c6b0:=beq_eq_false_iff_ne.mpr c6
     have c6b1:=bne_iff_ne.mpr c6
     obtain rfl:=Option.some.inj H
     go_enter Tryz.func41,Tryz.ntmps41
     go_wp2_with (((with_reducible refine δv (f:=40) rfl ?_);refine gl 4 Tryz.func40 #[.string a0] ?_;(with_reducible refine (spec_l05Name.calls k a0 τ _ A2.out).mono ?_);rintro e w' ⟨rfl,⟨nd,rfl⟩⟩;refine ⟨_,rfl,?_⟩))
     go_ret
     exact ⟨by rfl,by repeat (first|exact Drawn0.refl _|apply Drawn0.step)⟩
 ·
  replace c3:=Bool.eq_false_iff.mpr c3
  subst c3
  rw [ifF] at H
  obtain rfl:=Option.some.inj H
  go_enter Tryz.func41,Tryz.ntmps41
  go_wp2_with (((with_reducible refine δv (f:=40) rfl ?_);refine gl 4 Tryz.func40 #[.string a0] ?_;(with_reducible refine (spec_l05Name.calls k a0 φ _ A2.out).mono ?_);rintro e w' ⟨rfl,⟨nd,rfl⟩⟩;refine ⟨_,rfl,?_⟩))
  go_ret
  exact ⟨by rfl,by repeat (first|exact Drawn0.refl _|apply Drawn0.step)⟩


set_option maxHeartbeats 8000000
set_option maxRecDepth 100000

/-! ### spec_l02Of: function 42 -/
mutual
def spec_l02Of.j0:Nat→ByteArray→Bool→Option (Int)
 | 0,_,_=>none
 | k+1,x0,x19=>if x19=τ then (some (-1)) else (spec_l02Of.l0 k x0 0 0)
def spec_l02Of.l0:Nat→ByteArray→Int→Int→Option (Int)
 | 0,_,_,_=>none
 | k+1,x0,x3,x4=>if x4<(x0.size:Int) then (if 0≤x4 then (if (bt x0 x4)<48 then (spec_l02Of.j2 k x0 x3 x4 τ) else (spec_l02Of.j2 k x0 x3 x4 (decide ((bt x0 x4) > 57)))) else (none)) else (some x3)
def spec_l02Of.j2:Nat→ByteArray→Int→Int→Bool→Option (Int)
 | 0,_,_,_,_=>none
 | k+1,x0,x3,x4,x35=>if x35=τ then (some (-1)) else (if 0≤x4 then (if x4<(x0.size:Int) then (if x3 > ((1000000000000000000 - (((bt x0 x4) - 48) % 256)) / 10) then (some (-1)) else (spec_l02Of.l0 k x0 (ζm ((ζm (x3 * 10))+(((bt x0 x4) - 48) % 256))) (ζm (x4+1)))) else (none)) else (none))
end
def spec_l02Of.f (k:Nat) (a0:ByteArray):Option (Int):=(spec_l01In.f (a0.size:Int) 1 19).bind fun t137=>(if t137=τ then (if (a0.size:Int) > 1 then (if 0<(a0.size:Int) then (spec_l02Of.j0 k a0 ((bt a0 0) == 48)) else (none)) else (spec_l02Of.j0 k a0 φ)) else (spec_l02Of.j0 k a0 τ))
theorem spec_l02Of.calls (k:Nat) (a0:ByteArray) (r:Int) (w:World) (h:spec_l02Of.f k a0=some r) :
  Calls Tryz.prog 42 #[.string a0] w fun e w'=>e = .returned (.int .i64 r)∧Drawn0 w w':=by
 have H:((spec_l01In.f (a0.size:Int) 1 19).bind fun t137=>(if t137=τ then (if (a0.size:Int) > 1 then (if 0<(a0.size:Int) then (spec_l02Of.j0 k a0 ((bt a0 0) == 48)) else (none)) else (spec_l02Of.j0 k a0 φ)) else (spec_l02Of.j0 k a0 τ)))=some r:=h
 clear h
 have HC2:=ζa H
 clear H
 go_enter Tryz.func42,Tryz.ntmps42
 go_upto_region 1 with (fail)
 go_cut [19] (fun v19 wc => ∃ (kq:Nat) (x19_1:Bool),v19 = .bool x19_1∧Aside0 (spec_l02Of.j0 kq a0 x19_1=some r)∧Aside0 (kq≤k)∧Drawn0 w wc)
 case first =>
  have H:=HC2.out
  clear HC2
  obtain ⟨t137,A3,H⟩:=bsm H
  by_cases c4:t137=τ
  ·
   subst c4
   rw [ifT] at H
   by_cases c5:(a0.size:Int) > 1
   ·
    rw [if_pos c5] at H
    have c5b0:decide (1<(a0.size:Int))=τ:=decide_eq_true c5
    have c5b1:decide (1<a0.size)=τ:=decide_eq_true (by omega)
    clear c5
    by_cases c6:0<(a0.size:Int)
    ·
     rw [if_pos c6] at H
     have c6b0:=decide_eq_true c6
     have c6b1:decide (0<a0.size)=τ:=decide_eq_true (by omega)
     clear c6
     have H':=ζa H
     clear H
     go_wp2_with (((with_reducible refine δv (f:=75) rfl ?_);refine gl 8 Tryz.func75 #[.int .i64 (a0.size:Int),.int .i64 1,.int .i64 19] ?_;(with_reducible refine (spec_l01In.calls (a0.size:Int) 1 19 τ _ A3.out).mono ?_);rintro e w' ⟨rfl,⟨nd,rfl⟩⟩;refine ⟨_,rfl,?_⟩;have p7:0≤(0:Int):=(by omega);have q7:0<a0.size:=(by have:(0:Int)<(a0.size:Int):=of_decide_eq_true (by (with_reducible assumption));omega);have hx7 : ∀ h:0<a0.size,((a0[0]'h).toNat:Int)=bt a0 0:=bt_at a0 0;clear p7;have qi7:(0<(a0.size:Int))=True:=eq_true (of_decide_eq_true (by (with_reducible assumption)));replace q7:=eq_true q7))
     go_meet
     case rel=>exact ⟨_,(((bt a0 0) == 48)),(by rfl),H',⟨by omega⟩,by repeat (first|exact Drawn0.refl _|apply Drawn0.step)⟩
    ·
     rw [if_neg c6] at H
     exact absurd H (by simp)
   ·
    rw [if_neg c5] at H
    have c5b0:decide (1<(a0.size:Int))=φ:=decide_eq_false c5
    have c5b1:decide (1<a0.size)=φ:=decide_eq_false (by omega)
    clear c5
    have H':=ζa H
    clear H
    go_wp2_with (((with_reducible refine δv (f:=75) rfl ?_);refine gl 8 Tryz.func75 #[.int .i64 (a0.size:Int),.int .i64 1,.int .i64 19] ?_;(with_reducible refine (spec_l01In.calls (a0.size:Int) 1 19 τ _ A3.out).mono ?_);rintro e w' ⟨rfl,⟨nd,rfl⟩⟩;refine ⟨_,rfl,?_⟩))
    go_meet
    case rel=>exact ⟨_,(φ),(by rfl),H',⟨by omega⟩,by repeat (first|exact Drawn0.refl _|apply Drawn0.step)⟩
  ·
   replace c4:=Bool.eq_false_iff.mpr c4
   subst c4
   rw [ifF] at H
   have H':=ζa H
   clear H
   go_wp2_with (((with_reducible refine δv (f:=75) rfl ?_);refine gl 8 Tryz.func75 #[.int .i64 (a0.size:Int),.int .i64 1,.int .i64 19] ?_;(with_reducible refine (spec_l01In.calls (a0.size:Int) 1 19 φ _ A3.out).mono ?_);rintro e w' ⟨rfl,⟨nd,rfl⟩⟩;refine ⟨_,rfl,?_⟩))
   go_meet
   case rel=>exact ⟨_,(τ),(by rfl),H',⟨by omega⟩,by repeat (first|exact Drawn0.refl _|apply Drawn0.step)⟩
 case rest =>
  clear HC2
  try clear p2
  try clear c4
  try clear c5
  try clear c5b0
  try clear c5b1
  try clear c6
  try clear c6b0
  try clear c6b1
  try clear c7
  try clear p7
  try clear q7
  try clear hx7
  try clear qi7
  try clear p7
  try clear q7
  obtain ⟨kq,x19_1,rfl,HA,HJ1,⟨mc1,rfl⟩⟩:=hcut
  cases kq with
  | zero=>exact absurd HA.out (by simp [spec_l02Of.j0])
  | succ kj1 =>
   have H:=HA.out
   clear HA
   simp only [spec_l02Of.j0] at H
   by_cases c8:x19_1=τ
   ·
    subst c8
    rw [ifT] at H
    obtain rfl:=Option.some.inj H
    go_wp2
    go_ret
    exact ⟨by rfl,by repeat (first|exact Drawn0.refl _|apply Drawn0.step)⟩
   ·
    replace c8:=Bool.eq_false_iff.mpr c8
    subst c8
    rw [ifF] at H
    have H':=ζa H
    clear H
    go_wp2
    go_loopg [3,4] kj1 (fun kq v3 v4 w' => ∃ (x3_2:Int) (x4_2:Int),v3 = .int .i64 x3_2∧v4 = .int .i64 x4_2∧Aside0 (spec_l02Of.l0 kq a0 x3_2 x4_2=some r)∧Aside0 (kq≤kj1)∧Drawn0 w w')
    case atStart=>exact ⟨(0),(0),(by rfl),(by rfl),H',⟨Nat.le_refl _⟩,by repeat (first|exact Drawn0.refl _|apply Drawn0.step)⟩
    case round =>
     clear H'
     try clear c1
     try clear p2
     try clear c4
     try clear c5
     try clear c5b0
     try clear c5b1
     try clear c6
     try clear c6b0
     try clear c6b1
     try clear c7
     try clear p7
     try clear q7
     try clear hx7
     try clear qi7
     try clear c8
     try clear p2
     try clear p7
     try clear q7
     obtain ⟨x3_2,x4_2,rfl,rfl,HA,HK2,⟨m2,rfl⟩⟩:=hrel
     cases gk with
     | zero=>exact absurd HA.out (by simp [spec_l02Of.l0])
     | succ k2 =>
      have H:=HA.out
      clear HA
      simp only [spec_l02Of.l0] at H
      by_cases c9:x4_2<(a0.size:Int)
      ·
       rw [if_pos c9] at H
       have c9b0:=decide_eq_true c9
       clear c9
       have HC10:=ζa H
       clear H
       go_upto_region 7 with (fail)
       go_cut [35] (fun v35 wc => ∃ (kq:Nat) (x35_9:Bool),v35 = .bool x35_9∧Aside0 (spec_l02Of.j2 kq a0 x3_2 x4_2 x35_9=some r)∧Aside0 (kq≤k2)∧Drawn0 w wc)
       case first =>
        have H:=HC10.out
        clear HC10
        by_cases c11:0≤x4_2
        ·
         rw [if_pos c11] at H
         have c11b0:=decide_eq_true c11
         clear c11
         by_cases c13:(bt a0 x4_2)<48
         ·
          rw [if_pos c13] at H
          have c13b0:=decide_eq_true c13
          clear c13
          have H':=ζa H
          clear H
          have p12:0≤(x4_2:Int):=of_decide_eq_true (by (with_reducible assumption))
          have q12:x4_2<(a0.size:Int):=of_decide_eq_true (by (with_reducible assumption))
          have hx12:=bt_at a0 x4_2
          replace p12:=eq_true p12
          replace q12:=eq_true q12
          go_wp2
          go_meet
          case rel=>exact ⟨_,(τ),(by rfl),H',⟨by have:=HJ1.out;have:=HK2.out;omega⟩,by repeat (first|exact Drawn0.refl _|apply Drawn0.step)⟩
         ·
          rw [if_neg c13] at H
          have c13b0:=decide_eq_false c13
          clear c13
          have H':=ζa H
          clear H
          have p12:0≤(x4_2:Int):=of_decide_eq_true (by (with_reducible assumption))
          have q12:x4_2<(a0.size:Int):=of_decide_eq_true (by (with_reducible assumption))
          have hx12:=bt_at a0 x4_2
          replace p12:=eq_true p12
          replace q12:=eq_true q12
          have p14:0≤(x4_2:Int):=of_decide_eq_true (by (with_reducible assumption))
          have q14:x4_2<(a0.size:Int):=of_decide_eq_true (by (with_reducible assumption))
          have hx14:=bt_at a0 x4_2
          replace p14:=eq_true p14
          replace q14:=eq_true q14
          go_wp2
          go_meet
          case rel=>exact ⟨_,(decide ((bt a0 x4_2) > 57)),(by rfl),H',⟨by have:=HJ1.out;have:=HK2.out;omega⟩,by repeat (first|exact Drawn0.refl _|apply Drawn0.step)⟩
        ·
         rw [if_neg c11] at H
         exact absurd H (by simp)
       case rest =>
        clear HC10
        try clear c1
        try clear p1
        try clear q1
        try clear hx1
        try clear p2
        try clear c4
        try clear c5
        try clear c5b0
        try clear c5b1
        try clear c6
        try clear c6b0
        try clear c6b1
        try clear c7
        try clear p7
        try clear q7
        try clear hx7
        try clear qi7
        try clear c8
        try clear c9
        try clear c9b0
        try clear c11
        try clear c11b0
        try clear p12
        try clear q12
        try clear hx12
        try clear c13
        try clear c13b0
        try clear p14
        try clear q14
        try clear hx14
        try clear p12
        try clear p14
        try clear p2
        try clear p7
        try clear q12
        try clear q14
        try clear q7
        obtain ⟨kq,x35_9,rfl,HA,HJ9,⟨mc9,rfl⟩⟩:=hcut
        cases kq with
        | zero=>exact absurd HA.out (by simp [spec_l02Of.j2])
        | succ kj9 =>
         have H:=HA.out
         clear HA
         simp only [spec_l02Of.j2] at H
         by_cases c15:x35_9=τ
         ·
          subst c15
          rw [ifT] at H
          obtain rfl:=Option.some.inj H
          go_wp2
          go_ret
          exact ⟨by rfl,by repeat (first|exact Drawn0.refl _|apply Drawn0.step)⟩
         ·
          replace c15:=Bool.eq_false_iff.mpr c15
          subst c15
          rw [ifF] at H
          by_cases c16:0≤x4_2
          ·
           rw [if_pos c16] at H
           have c16b0:=decide_eq_true c16
           clear c16
           by_cases c17:x4_2<(a0.size:Int)
           ·
            rw [if_pos c17] at H
            have c17b0:=decide_eq_true c17
            clear c17
            by_cases c19:x3_2 > ((1000000000000000000 - (((bt a0 x4_2) - 48) % 256)) / 10)
            ·
             rw [if_pos c19] at H
             have c19b0:decide (((1000000000000000000 - (((bt a0 x4_2) - 48) % 256)) / 10)<x3_2)=τ:=decide_eq_true c19
             clear c19
             obtain rfl:=Option.some.inj H
             have p18:0≤(x4_2:Int):=of_decide_eq_true (by (with_reducible assumption))
             have q18:x4_2<(a0.size:Int):=of_decide_eq_true (by (with_reducible assumption))
             have hx18:=bt_at a0 x4_2
             replace p18:=eq_true p18
             replace q18:=eq_true q18
             go_wp2
             go_ret
             exact ⟨by rfl,by repeat (first|exact Drawn0.refl _|apply Drawn0.step)⟩
            ·
             rw [if_neg c19] at H
             have c19b0:decide (((1000000000000000000 - (((bt a0 x4_2) - 48) % 256)) / 10)<x3_2)=φ:=decide_eq_false c19
             clear c19
             have H':=ζa H
             clear H
             have p18:0≤(x4_2:Int):=of_decide_eq_true (by (with_reducible assumption))
             have q18:x4_2<(a0.size:Int):=of_decide_eq_true (by (with_reducible assumption))
             have hx18:=bt_at a0 x4_2
             replace p18:=eq_true p18
             replace q18:=eq_true q18
             go_wp2
             go_roundg kj9
             case measure=>have:=HJ1.out;have:=HK2.out;have:=HJ9.out;omega
             case rel=>exact ⟨(ζm ((ζm (x3_2 * 10))+(((bt a0 x4_2) - 48) % 256))),(ζm (x4_2+1)),(by rfl),(by rfl),H',⟨by have:=HJ1.out;have:=HK2.out;have:=HJ9.out;omega⟩,by repeat (first|exact Drawn0.refl _|apply Drawn0.step)⟩
           ·
            rw [if_neg c17] at H
            exact absurd H (by simp)
          ·
           rw [if_neg c16] at H
           exact absurd H (by simp)
      ·
       rw [if_neg c9] at H
       have c9b0:=decide_eq_false c9
       clear c9
       obtain rfl:=Option.some.inj H
       go_wp2
       go_ret
       exact ⟨by rfl,by repeat (first|exact Drawn0.refl _|apply Drawn0.step)⟩


open Go.Proofs.YtjhhehjjnfnigaaGreatDoorW.PrintWords renaming below_size → δs, below_step → δr, pw_below_drewN → δi
open Go.Proofs.YtjhhehjjnfnigaaGreatDoorW.PrintWords.Kd renaming R_reads' → ζg
set_option maxHeartbeats 8000000
set_option maxRecDepth 100000

/-! ### spec_l09ReadTake: function 20 -/
def spec_l09ReadTake.f (k:Nat) (a0:ByteArray):Option (ByteArray × ByteArray × ByteArray × Int × Bool):=(spec_l02Read.f k a0).bind fun bt138=>(if bt138.2=τ then (if (bt138.1.length:Int)=5 then (if 0<(bt138.1.length:Int) then (if (rdOf ByteArray.empty bt138.1 0).toList=([107]:List UInt8) then (if 1<(bt138.1.length:Int) then ((spec_l05Name.f k (rdOf ByteArray.empty bt138.1 1)).bind fun t144=>(if t144=τ then (if 2<(bt138.1.length:Int) then ((spec_l08Name.f k (rdOf ByteArray.empty bt138.1 2)).bind fun t146=>(if t146=τ then (if 3<(bt138.1.length:Int) then ((spec_l08Name.f k (rdOf ByteArray.empty bt138.1 3)).bind fun t148=>(if t148=τ then (if 4<(bt138.1.length:Int) then ((spec_l02Of.f k (rdOf ByteArray.empty bt138.1 4)).bind fun t150=>(some (rdOf ByteArray.empty bt138.1 1,rdOf ByteArray.empty bt138.1 2,rdOf ByteArray.empty bt138.1 3,t150,decide (t150 > 0)))) else (none)) else (some ((⟨#[]⟩:ByteArray),(⟨#[]⟩:ByteArray),(⟨#[]⟩:ByteArray),0,φ)))) else (none)) else (some ((⟨#[]⟩:ByteArray),(⟨#[]⟩:ByteArray),(⟨#[]⟩:ByteArray),0,φ)))) else (none)) else (some ((⟨#[]⟩:ByteArray),(⟨#[]⟩:ByteArray),(⟨#[]⟩:ByteArray),0,φ)))) else (none)) else (some ((⟨#[]⟩:ByteArray),(⟨#[]⟩:ByteArray),(⟨#[]⟩:ByteArray),0,φ))) else (none)) else (some ((⟨#[]⟩:ByteArray),(⟨#[]⟩:ByteArray),(⟨#[]⟩:ByteArray),0,φ))) else (some ((⟨#[]⟩:ByteArray),(⟨#[]⟩:ByteArray),(⟨#[]⟩:ByteArray),0,φ)))
theorem spec_l09ReadTake.calls (k:Nat) (a0:ByteArray) (r1:ByteArray) (r2:ByteArray) (r3:ByteArray) (r4:Int) (r5:Bool) (w:World) (h:spec_l09ReadTake.f k a0=some (r1,r2,r3,r4,r5)) :
  Calls Tryz.prog 20 #[.string a0] w fun e w'=>e = .returned (.tuple #[.string r1,.string r2,.string r3,.int .i64 r4,.bool r5])∧Below w.heap.size w w':=by
 have HB:=ζa (Below.refl w.heap.size w)
 have H:((spec_l02Read.f k a0).bind fun bt138=>(if bt138.2=τ then (if (bt138.1.length:Int)=5 then (if 0<(bt138.1.length:Int) then (if (rdOf ByteArray.empty bt138.1 0).toList=([107]:List UInt8) then (if 1<(bt138.1.length:Int) then ((spec_l05Name.f k (rdOf ByteArray.empty bt138.1 1)).bind fun t144=>(if t144=τ then (if 2<(bt138.1.length:Int) then ((spec_l08Name.f k (rdOf ByteArray.empty bt138.1 2)).bind fun t146=>(if t146=τ then (if 3<(bt138.1.length:Int) then ((spec_l08Name.f k (rdOf ByteArray.empty bt138.1 3)).bind fun t148=>(if t148=τ then (if 4<(bt138.1.length:Int) then ((spec_l02Of.f k (rdOf ByteArray.empty bt138.1 4)).bind fun t150=>(some (rdOf ByteArray.empty bt138.1 1,rdOf ByteArray.empty bt138.1 2,rdOf ByteArray.empty bt138.1 3,t150,decide (t150 > 0)))) else (none)) else (some ((⟨#[]⟩:ByteArray),(⟨#[]⟩:ByteArray),(⟨#[]⟩:ByteArray),0,φ)))) else (none)) else (some ((⟨#[]⟩:ByteArray),(⟨#[]⟩:ByteArray),(⟨#[]⟩:ByteArray),0,φ)))) else (none)) else (some ((⟨#[]⟩:ByteArray),(⟨#[]⟩:ByteArray),(⟨#[]⟩:ByteArray),0,φ)))) else (none)) else (some ((⟨#[]⟩:ByteArray),(⟨#[]⟩:ByteArray),(⟨#[]⟩:ByteArray),0,φ))) else (none)) else (some ((⟨#[]⟩:ByteArray),(⟨#[]⟩:ByteArray),(⟨#[]⟩:ByteArray),0,φ))) else (some ((⟨#[]⟩:ByteArray),(⟨#[]⟩:ByteArray),(⟨#[]⟩:ByteArray),0,φ))))=some (r1,r2,r3,r4,r5):=h
 clear h
 obtain ⟨⟨t138,t139⟩,A2,H⟩:=bsm H
 dsimp only at H
 by_cases c3:t139=τ
 ·
  subst c3
  rw [ifT] at H
  by_cases c4:(t138.length:Int)=5
  ·
   rw [if_pos c4] at H
   have c4b0:=beq_iff_eq.mpr c4
   have c4b1:=bne_eq_false_iff_eq.mpr c4
   clear c4
   by_cases c5:0<(t138.length:Int)
   ·
    rw [if_pos c5] at H
    have c5b0:=decide_eq_true c5
    have c5b1:decide (0<t138.length)=τ:=decide_eq_true (by omega)
    clear c5
    by_cases c6:(rdOf ByteArray.empty t138 0).toList=([107]:List UInt8)
    ·
     rw [if_pos c6] at H
     have c6b0:=beq_iff_eq.mpr c6
     have c6b1:=bne_eq_false_iff_eq.mpr c6
     clear c6
     by_cases c7:1<(t138.length:Int)
     ·
      rw [if_pos c7] at H
      have c7b0:=decide_eq_true c7
      have c7b1:decide (1<t138.length)=τ:=decide_eq_true (by omega)
      clear c7
      obtain ⟨t144,A8,H⟩:=bsm H
      by_cases c9:t144=τ
      ·
       subst c9
       rw [ifT] at H
       by_cases c10:2<(t138.length:Int)
       ·
        rw [if_pos c10] at H
        have c10b0:=decide_eq_true c10
        have c10b1:decide (2<t138.length)=τ:=decide_eq_true (by omega)
        clear c10
        obtain ⟨t146,A11,H⟩:=bsm H
        by_cases c12:t146=τ
        ·
         subst c12
         rw [ifT] at H
         by_cases c13:3<(t138.length:Int)
         ·
          rw [if_pos c13] at H
          have c13b0:=decide_eq_true c13
          have c13b1:decide (3<t138.length)=τ:=decide_eq_true (by omega)
          clear c13
          obtain ⟨t148,A14,H⟩:=bsm H
          by_cases c15:t148=τ
          ·
           subst c15
           rw [ifT] at H
           by_cases c16:4<(t138.length:Int)
           ·
            rw [if_pos c16] at H
            have c16b0:=decide_eq_true c16
            have c16b1:decide (4<t138.length)=τ:=decide_eq_true (by omega)
            clear c16
            obtain ⟨t150,A17,H⟩:=bsm H
            simp only [Option.some.injEq,Prod.mk.injEq] at H
            obtain ⟨rfl,rfl,rfl,rfl,rfl⟩:=H
            go_enter Tryz.func20,Tryz.ntmps20
            go_wp2_with (first|(go_at_call 39;(with_reducible refine (spec_l02Read.calls k a0 t138 τ _ A2.out).mono ?_);rintro e w18 ⟨v140,rfl,ho0,hb⟩;have HO141:=ζa (Kd.R_lower ho0 (δs (by exact HB.out)));replace HB:=ζa (δr (by exact HB.out) hb);(try clear hb);(try clear hb2);(try clear hk);(try clear hi);(try clear ho0);obtain ⟨Ao19,co19,eo19⟩:=Kd.R_slice HO141.out;subst eo19;have p142:0≤(0:Int):=(by omega);have q142:0<(t138.length:Int):=of_decide_eq_true (by (with_reducible assumption));obtain ⟨ad142,e142,hx142_0⟩:=Kd.at_string (ζg HO141.out).2.2 0 p142 q142;cases e142;have qi142:(0<t138.length)=True:=eq_true (by omega);(try rw [show ((0:Int)).toNat=0 from rfl] at hx142_0);(try rw [Addr.add_zero'] at hx142_0);replace p142:=eq_true p142;replace q142:=eq_true q142;have p143:0≤(1:Int):=(by omega);have q143:1<(t138.length:Int):=of_decide_eq_true (by (with_reducible assumption));obtain ⟨ad143,e143,hx143_0⟩:=Kd.at_string (ζg HO141.out).2.2 1 p143 q143;obtain rfl:ad142=ad143:=(by injection e143);(try simp only [show (1:Int).toNat=1 from rfl,Nat.reduceMul,Nat.reduceEqDiff,Go.Addr.add,↓reduceIte] at hx143_0);have qi143:(1<t138.length)=True:=eq_true (by omega);(try rw [show ((1:Int)).toNat=1 from rfl] at hx143_0);replace p143:=eq_true p143;replace q143:=eq_true q143)|(go_at_call 40;(with_reducible refine (spec_l05Name.calls k (rdOf ByteArray.empty t138 1) τ _ A8.out).mono ?_);rintro e w' ⟨rfl,⟨nd,rfl⟩⟩;(try fail);have p145:0≤(2:Int):=(by omega);have q145:2<(t138.length:Int):=of_decide_eq_true (by (with_reducible assumption));obtain ⟨ad145,e145,hx145_0⟩:=Kd.at_string (ζg HO141.out).2.2 2 p145 q145;obtain rfl:ad142=ad145:=(by injection e145);(try simp only [show (2:Int).toNat=2 from rfl,Nat.reduceMul,Nat.reduceEqDiff,Go.Addr.add,↓reduceIte] at hx145_0);have qi145:(2<t138.length)=True:=eq_true (by omega);(try rw [show ((2:Int)).toNat=2 from rfl] at hx145_0);replace p145:=eq_true p145;replace q145:=eq_true q145)|(go_at_call 41;(with_reducible refine (spec_l08Name.calls k (rdOf ByteArray.empty t138 2) τ _ A11.out).mono ?_);rintro e w' ⟨rfl,⟨nd,rfl⟩⟩;(try fail);have p147:0≤(3:Int):=(by omega);have q147:3<(t138.length:Int):=of_decide_eq_true (by (with_reducible assumption));obtain ⟨ad147,e147,hx147_0⟩:=Kd.at_string (ζg HO141.out).2.2 3 p147 q147;obtain rfl:ad142=ad147:=(by injection e147);(try simp only [show (3:Int).toNat=3 from rfl,Nat.reduceMul,Nat.reduceEqDiff,Go.Addr.add,↓reduceIte] at hx147_0);have qi147:(3<t138.length)=True:=eq_true (by omega);(try rw [show ((3:Int)).toNat=3 from rfl] at hx147_0);replace p147:=eq_true p147;replace q147:=eq_true q147)|(go_at_call 41;(with_reducible refine (spec_l08Name.calls k (rdOf ByteArray.empty t138 3) τ _ A14.out).mono ?_);rintro e w' ⟨rfl,⟨nd,rfl⟩⟩;(try fail);have p149:0≤(4:Int):=(by omega);have q149:4<(t138.length:Int):=of_decide_eq_true (by (with_reducible assumption));obtain ⟨ad149,e149,hx149_0⟩:=Kd.at_string (ζg HO141.out).2.2 4 p149 q149;obtain rfl:ad142=ad149:=(by injection e149);(try simp only [show (4:Int).toNat=4 from rfl,Nat.reduceMul,Nat.reduceEqDiff,Go.Addr.add,↓reduceIte] at hx149_0);have qi149:(4<t138.length)=True:=eq_true (by omega);(try rw [show ((4:Int)).toNat=4 from rfl] at hx149_0);replace p149:=eq_true p149;replace q149:=eq_true q149)|(go_at_call 42;(with_reducible refine (spec_l02Of.calls k (rdOf ByteArray.empty t138 4) t150 _ A17.out).mono ?_);rintro e w' ⟨rfl,⟨nd,rfl⟩⟩;(try fail);have p151:0≤(1:Int):=(by omega);have q151:1<(t138.length:Int):=of_decide_eq_true (by (with_reducible assumption));obtain ⟨ad151,e151,hx151_0⟩:=Kd.at_string (ζg HO141.out).2.2 1 p151 q151;obtain rfl:ad142=ad151:=(by injection e151);(try simp only [show (1:Int).toNat=1 from rfl,Nat.reduceMul,Nat.reduceEqDiff,Go.Addr.add,↓reduceIte] at hx151_0);have qi151:(1<t138.length)=True:=eq_true (by omega);(try rw [show ((1:Int)).toNat=1 from rfl] at hx151_0);replace p151:=eq_true p151;replace q151:=eq_true q151;have p152:0≤(2:Int):=(by omega);have q152:2<(t138.length:Int):=of_decide_eq_true (by (with_reducible assumption));obtain ⟨ad152,e152,hx152_0⟩:=Kd.at_string (ζg HO141.out).2.2 2 p152 q152;obtain rfl:ad142=ad152:=(by injection e152);(try simp only [show (2:Int).toNat=2 from rfl,Nat.reduceMul,Nat.reduceEqDiff,Go.Addr.add,↓reduceIte] at hx152_0);have qi152:(2<t138.length)=True:=eq_true (by omega);(try rw [show ((2:Int)).toNat=2 from rfl] at hx152_0);replace p152:=eq_true p152;replace q152:=eq_true q152;have p153:0≤(3:Int):=(by omega);have q153:3<(t138.length:Int):=of_decide_eq_true (by (with_reducible assumption));obtain ⟨ad153,e153,hx153_0⟩:=Kd.at_string (ζg HO141.out).2.2 3 p153 q153;obtain rfl:ad142=ad153:=(by injection e153);(try simp only [show (3:Int).toNat=3 from rfl,Nat.reduceMul,Nat.reduceEqDiff,Go.Addr.add,↓reduceIte] at hx153_0);have qi153:(3<t138.length)=True:=eq_true (by omega);(try rw [show ((3:Int)).toNat=3 from rfl] at hx153_0);replace p153:=eq_true p153;replace q153:=eq_true q153))
            repeat (go_quiet (fail);try go_wp2_with (fail))
            refine bodyPost_ret (results_list (rs:=[.tmp 2,.tmp 3,.tmp 4,.tmp 5,.tmp 6]) rfl (by simp) (.tmp (.tmp (.tmp (.tmp (.tmp .nil)))))) rfl ?_
            exact ⟨by rfl,by repeat ((with_reducible first|exact HB.out|apply δi))⟩
           ·
            rw [if_neg c16] at H
            exact absurd H (by simp)
          ·
           replace c15:=Bool.eq_false_iff.mpr c15
           subst c15
           rw [ifF] at H
           simp only [Option.some.injEq,Prod.mk.injEq] at H
           obtain ⟨rfl,rfl,rfl,rfl,rfl⟩:=H
           go_enter Tryz.func20,Tryz.ntmps20
           go_wp2_with (first|(go_at_call 39;(with_reducible refine (spec_l02Read.calls k a0 t138 τ _ A2.out).mono ?_);rintro e w20 ⟨v140,rfl,ho0,hb⟩;have HO141:=ζa (Kd.R_lower ho0 (δs (by exact HB.out)));replace HB:=ζa (δr (by exact HB.out) hb);(try clear hb);(try clear hb2);(try clear hk);(try clear hi);(try clear ho0);obtain ⟨Ao21,co21,eo21⟩:=Kd.R_slice HO141.out;subst eo21;have p142:0≤(0:Int):=(by omega);have q142:0<(t138.length:Int):=of_decide_eq_true (by (with_reducible assumption));obtain ⟨ad142,e142,hx142_0⟩:=Kd.at_string (ζg HO141.out).2.2 0 p142 q142;cases e142;have qi142:(0<t138.length)=True:=eq_true (by omega);(try rw [show ((0:Int)).toNat=0 from rfl] at hx142_0);(try rw [Addr.add_zero'] at hx142_0);replace p142:=eq_true p142;replace q142:=eq_true q142;have p143:0≤(1:Int):=(by omega);have q143:1<(t138.length:Int):=of_decide_eq_true (by (with_reducible assumption));obtain ⟨ad143,e143,hx143_0⟩:=Kd.at_string (ζg HO141.out).2.2 1 p143 q143;obtain rfl:ad142=ad143:=(by injection e143);(try simp only [show (1:Int).toNat=1 from rfl,Nat.reduceMul,Nat.reduceEqDiff,Go.Addr.add,↓reduceIte] at hx143_0);have qi143:(1<t138.length)=True:=eq_true (by omega);(try rw [show ((1:Int)).toNat=1 from rfl] at hx143_0);replace p143:=eq_true p143;replace q143:=eq_true q143)|(go_at_call 40;(with_reducible refine (spec_l05Name.calls k (rdOf ByteArray.empty t138 1) τ _ A8.out).mono ?_);rintro e w' ⟨rfl,⟨nd,rfl⟩⟩;(try fail);have p145:0≤(2:Int):=(by omega);have q145:2<(t138.length:Int):=of_decide_eq_true (by (with_reducible assumption));obtain ⟨ad145,e145,hx145_0⟩:=Kd.at_string (ζg HO141.out).2.2 2 p145 q145;obtain rfl:ad142=ad145:=(by injection e145);(try simp only [show (2:Int).toNat=2 from rfl,Nat.reduceMul,Nat.reduceEqDiff,Go.Addr.add,↓reduceIte] at hx145_0);have qi145:(2<t138.length)=True:=eq_true (by omega);(try rw [show ((2:Int)).toNat=2 from rfl] at hx145_0);replace p145:=eq_true p145;replace q145:=eq_true q145)|(go_at_call 41;(with_reducible refine (spec_l08Name.calls k (rdOf ByteArray.empty t138 2) τ _ A11.out).mono ?_);rintro e w' ⟨rfl,⟨nd,rfl⟩⟩;(try fail);have p147:0≤(3:Int):=(by omega);have q147:3<(t138.length:Int):=of_decide_eq_true (by (with_reducible assumption));obtain ⟨ad147,e147,hx147_0⟩:=Kd.at_string (ζg HO141.out).2.2 3 p147 q147;obtain rfl:ad142=ad147:=(by injection e147);(try simp only [show (3:Int).toNat=3 from rfl,Nat.reduceMul,Nat.reduceEqDiff,Go.Addr.add,↓reduceIte] at hx147_0);have qi147:(3<t138.length)=True:=eq_true (by omega);(try rw [show ((3:Int)).toNat=3 from rfl] at hx147_0);replace p147:=eq_true p147;replace q147:=eq_true q147)|(go_at_call 41;(with_reducible refine (spec_l08Name.calls k (rdOf ByteArray.empty t138 3) φ _ A14.out).mono ?_);rintro e w' ⟨rfl,⟨nd,rfl⟩⟩;(try fail)))
           repeat (go_quiet (fail);try go_wp2_with (fail))
           refine bodyPost_ret (results_list (rs:=[.tmp 2,.tmp 3,.tmp 4,.tmp 5,.tmp 6]) rfl (by simp) (.tmp (.tmp (.tmp (.tmp (.tmp .nil)))))) rfl ?_
           exact ⟨by rfl,by repeat ((with_reducible first|exact HB.out|apply δi))⟩
         ·
          rw [if_neg c13] at H
          exact absurd H (by simp)
        ·
         replace c12:=Bool.eq_false_iff.mpr c12
         subst c12
         rw [ifF] at H
         simp only [Option.some.injEq,Prod.mk.injEq] at H
         obtain ⟨rfl,rfl,rfl,rfl,rfl⟩:=H
         go_enter Tryz.func20,Tryz.ntmps20
         go_wp2_with (first|(go_at_call 39;(with_reducible refine (spec_l02Read.calls k a0 t138 τ _ A2.out).mono ?_);rintro e w22 ⟨v140,rfl,ho0,hb⟩;have HO141:=ζa (Kd.R_lower ho0 (δs (by exact HB.out)));replace HB:=ζa (δr (by exact HB.out) hb);(try clear hb);(try clear hb2);(try clear hk);(try clear hi);(try clear ho0);obtain ⟨Ao23,co23,eo23⟩:=Kd.R_slice HO141.out;subst eo23;have p142:0≤(0:Int):=(by omega);have q142:0<(t138.length:Int):=of_decide_eq_true (by (with_reducible assumption));obtain ⟨ad142,e142,hx142_0⟩:=Kd.at_string (ζg HO141.out).2.2 0 p142 q142;cases e142;have qi142:(0<t138.length)=True:=eq_true (by omega);(try rw [show ((0:Int)).toNat=0 from rfl] at hx142_0);(try rw [Addr.add_zero'] at hx142_0);replace p142:=eq_true p142;replace q142:=eq_true q142;have p143:0≤(1:Int):=(by omega);have q143:1<(t138.length:Int):=of_decide_eq_true (by (with_reducible assumption));obtain ⟨ad143,e143,hx143_0⟩:=Kd.at_string (ζg HO141.out).2.2 1 p143 q143;obtain rfl:ad142=ad143:=(by injection e143);(try simp only [show (1:Int).toNat=1 from rfl,Nat.reduceMul,Nat.reduceEqDiff,Go.Addr.add,↓reduceIte] at hx143_0);have qi143:(1<t138.length)=True:=eq_true (by omega);(try rw [show ((1:Int)).toNat=1 from rfl] at hx143_0);replace p143:=eq_true p143;replace q143:=eq_true q143)|(go_at_call 40;(with_reducible refine (spec_l05Name.calls k (rdOf ByteArray.empty t138 1) τ _ A8.out).mono ?_);rintro e w' ⟨rfl,⟨nd,rfl⟩⟩;(try fail);have p145:0≤(2:Int):=(by omega);have q145:2<(t138.length:Int):=of_decide_eq_true (by (with_reducible assumption));obtain ⟨ad145,e145,hx145_0⟩:=Kd.at_string (ζg HO141.out).2.2 2 p145 q145;obtain rfl:ad142=ad145:=(by injection e145);(try simp only [show (2:Int).toNat=2 from rfl,Nat.reduceMul,Nat.reduceEqDiff,Go.Addr.add,↓reduceIte] at hx145_0);have qi145:(2<t138.length)=True:=eq_true (by omega);(try rw [show ((2:Int)).toNat=2 from rfl] at hx145_0);replace p145:=eq_true p145;replace q145:=eq_true q145)|(go_at_call 41;(with_reducible refine (spec_l08Name.calls k (rdOf ByteArray.empty t138 2) φ _ A11.out).mono ?_);rintro e w' ⟨rfl,⟨nd,rfl⟩⟩;(try fail)))
         repeat (go_quiet (fail);try go_wp2_with (fail))
         refine bodyPost_ret (results_list (rs:=[.tmp 2,.tmp 3,.tmp 4,.tmp 5,.tmp 6]) rfl (by simp) (.tmp (.tmp (.tmp (.tmp (.tmp .nil)))))) rfl ?_
         exact ⟨by rfl,by repeat ((with_reducible first|exact HB.out|apply δi))⟩
       ·
        rw [if_neg c10] at H
        exact absurd H (by simp)
      ·
       replace c9:=Bool.eq_false_iff.mpr c9
       subst c9
       rw [ifF] at H
       simp only [Option.some.injEq,Prod.mk.injEq] at H
       obtain ⟨rfl,rfl,rfl,rfl,rfl⟩:=H
       go_enter Tryz.func20,Tryz.ntmps20
       go_wp2_with (first|(go_at_call 39;(with_reducible refine (spec_l02Read.calls k a0 t138 τ _ A2.out).mono ?_);rintro e w24 ⟨v140,rfl,ho0,hb⟩;have HO141:=ζa (Kd.R_lower ho0 (δs (by exact HB.out)));replace HB:=ζa (δr (by exact HB.out) hb);(try clear hb);(try clear hb2);(try clear hk);(try clear hi);(try clear ho0);obtain ⟨Ao25,co25,eo25⟩:=Kd.R_slice HO141.out;subst eo25;have p142:0≤(0:Int):=(by omega);have q142:0<(t138.length:Int):=of_decide_eq_true (by (with_reducible assumption));obtain ⟨ad142,e142,hx142_0⟩:=Kd.at_string (ζg HO141.out).2.2 0 p142 q142;cases e142;have qi142:(0<t138.length)=True:=eq_true (by omega);(try rw [show ((0:Int)).toNat=0 from rfl] at hx142_0);(try rw [Addr.add_zero'] at hx142_0);replace p142:=eq_true p142;replace q142:=eq_true q142;have p143:0≤(1:Int):=(by omega);have q143:1<(t138.length:Int):=of_decide_eq_true (by (with_reducible assumption));obtain ⟨ad143,e143,hx143_0⟩:=Kd.at_string (ζg HO141.out).2.2 1 p143 q143;obtain rfl:ad142=ad143:=(by injection e143);(try simp only [show (1:Int).toNat=1 from rfl,Nat.reduceMul,Nat.reduceEqDiff,Go.Addr.add,↓reduceIte] at hx143_0);have qi143:(1<t138.length)=True:=eq_true (by omega);(try rw [show ((1:Int)).toNat=1 from rfl] at hx143_0);replace p143:=eq_true p143;replace q143:=eq_true q143)|(go_at_call 40;(with_reducible refine (spec_l05Name.calls k (rdOf ByteArray.empty t138 1) φ _ A8.out).mono ?_);rintro e w' ⟨rfl,⟨nd,rfl⟩⟩;(try fail)))
       repeat (go_quiet (fail);try go_wp2_with (fail))
       refine bodyPost_ret (results_list (rs:=[.tmp 2,.tmp 3,.tmp 4,.tmp 5,.tmp 6]) rfl (by simp) (.tmp (.tmp (.tmp (.tmp (.tmp .nil)))))) rfl ?_
       exact ⟨by rfl,by repeat ((with_reducible first|exact HB.out|apply δi))⟩
     ·
      rw [if_neg c7] at H
      exact absurd H (by simp)
    ·
     rw [if_neg c6] at H
     have c6b0:=beq_eq_false_iff_ne.mpr c6
     have c6b1:=bne_iff_ne.mpr c6
     simp only [Option.some.injEq,Prod.mk.injEq] at H
     obtain ⟨rfl,rfl,rfl,rfl,rfl⟩:=H
     go_enter Tryz.func20,Tryz.ntmps20
     go_wp2_with ((go_at_call 39;(with_reducible refine (spec_l02Read.calls k a0 t138 τ _ A2.out).mono ?_);rintro e w26 ⟨v140,rfl,ho0,hb⟩;have HO141:=ζa (Kd.R_lower ho0 (δs (by exact HB.out)));replace HB:=ζa (δr (by exact HB.out) hb);(try clear hb);(try clear hb2);(try clear hk);(try clear hi);(try clear ho0);obtain ⟨Ao27,co27,eo27⟩:=Kd.R_slice HO141.out;subst eo27;have p142:0≤(0:Int):=(by omega);have q142:0<(t138.length:Int):=of_decide_eq_true (by (with_reducible assumption));obtain ⟨ad142,e142,hx142_0⟩:=Kd.at_string (ζg HO141.out).2.2 0 p142 q142;cases e142;have qi142:(0<t138.length)=True:=eq_true (by omega);(try rw [show ((0:Int)).toNat=0 from rfl] at hx142_0);(try rw [Addr.add_zero'] at hx142_0);replace p142:=eq_true p142;replace q142:=eq_true q142))
     repeat (go_quiet (fail);try go_wp2_with (fail))
     refine bodyPost_ret (results_list (rs:=[.tmp 2,.tmp 3,.tmp 4,.tmp 5,.tmp 6]) rfl (by simp) (.tmp (.tmp (.tmp (.tmp (.tmp .nil)))))) rfl ?_
     exact ⟨by rfl,by repeat ((with_reducible exact HB.out))⟩
   ·
    rw [if_neg c5] at H
    exact absurd H (by simp)
  ·
   rw [if_neg c4] at H
   have c4b0:=beq_eq_false_iff_ne.mpr c4
   have c4b1:=bne_iff_ne.mpr c4
   simp only [Option.some.injEq,Prod.mk.injEq] at H
   obtain ⟨rfl,rfl,rfl,rfl,rfl⟩:=H
   go_enter Tryz.func20,Tryz.ntmps20
   go_wp2_with ((go_at_call 39;(with_reducible refine (spec_l02Read.calls k a0 t138 τ _ A2.out).mono ?_);rintro e w28 ⟨v140,rfl,ho0,hb⟩;have HO141:=ζa (Kd.R_lower ho0 (δs (by exact HB.out)));replace HB:=ζa (δr (by exact HB.out) hb);(try clear hb);(try clear hb2);(try clear hk);(try clear hi);(try clear ho0);obtain ⟨Ao29,co29,eo29⟩:=Kd.R_slice HO141.out;subst eo29))
   repeat (go_quiet (fail);try go_wp2_with (fail))
   refine bodyPost_ret (results_list (rs:=[.tmp 2,.tmp 3,.tmp 4,.tmp 5,.tmp 6]) rfl (by simp) (.tmp (.tmp (.tmp (.tmp (.tmp .nil)))))) rfl ?_
   exact ⟨by rfl,by repeat ((with_reducible exact HB.out))⟩
 ·
  replace c3:=Bool.eq_false_iff.mpr c3
  subst c3
  rw [ifF] at H
  simp only [Option.some.injEq,Prod.mk.injEq] at H
  obtain ⟨rfl,rfl,rfl,rfl,rfl⟩:=H
  go_enter Tryz.func20,Tryz.ntmps20
  go_wp2_with ((go_at_call 39;(with_reducible refine (spec_l02Read.calls k a0 t138 φ _ A2.out).mono ?_);rintro e w30 ⟨v140,rfl,ho0,hb⟩;have HO141:=ζa (Kd.R_lower ho0 (δs (by exact HB.out)));replace HB:=ζa (δr (by exact HB.out) hb);(try clear hb);(try clear hb2);(try clear hk);(try clear hi);(try clear ho0)))
  repeat (go_quiet (fail);try go_wp2_with (fail))
  refine bodyPost_ret (results_list (rs:=[.tmp 2,.tmp 3,.tmp 4,.tmp 5,.tmp 6]) rfl (by simp) (.tmp (.tmp (.tmp (.tmp (.tmp .nil)))))) rfl ?_
  exact ⟨by rfl,by repeat ((with_reducible exact HB.out))⟩


set_option maxHeartbeats 8000000
set_option maxRecDepth 100000

/-! ### spec_l09Key: function 25 -/
def spec_l09Key.f (a0:ByteArray):Option (ByteArray):=if 2+a0.size≤9223372036854775807 then (some ((⟨#[111,47]⟩:ByteArray) ++ a0)) else (none)
theorem spec_l09Key.calls (a0:ByteArray) (r:ByteArray) (w:World) (h:spec_l09Key.f a0=some r) :
  Calls Tryz.prog 25 #[.string a0] w fun e w'=>e = .returned (.string r)∧Drawn0 w w':=by
 have H:(if 2+a0.size≤9223372036854775807 then (some ((⟨#[111,47]⟩:ByteArray) ++ a0)) else (none))=some r:=h
 clear h
 by_cases c2:2+a0.size≤9223372036854775807
 ·
  rw [if_pos c2] at H
  have c2b0:=eq_true c2
  have c2b1:=decide_eq_true c2
  try have c2b2:(9223372036854775807<2+a0.size)=False:=eq_false (Nat.not_lt.2 c2)
  obtain rfl:=Option.some.inj H
  go_enter Tryz.func25,Tryz.ntmps25
  go_wp2
  go_ret
  exact ⟨by rfl,by repeat (exact Drawn0.refl _)⟩
 ·
  rw [if_neg c2] at H
  exact absurd H (by simp)


set_option maxHeartbeats 8000000
set_option maxRecDepth 100000

/-! ### spec_l03Get: function 43 -/
def spec_l03Get.f (k:Nat) (l0:List (S37)) (a1:ByteArray):Option (ByteArray × Bool):=(spec_l03At.f k l0 a1).bind fun t155=>(if t155<(l0.length:Int) then (if 0≤t155 then (if ((rd_T37 l0 t155).f0).toList=a1.toList then (some ((rd_T37 l0 t155).f1,τ)) else (some ((⟨#[]⟩:ByteArray),φ))) else (none)) else (some ((⟨#[]⟩:ByteArray),φ)))
theorem spec_l03Get.calls (k:Nat) (A0:Option Addr) (c0:Nat) (l0:List (S37)) (a1:ByteArray) (r1:ByteArray) (r2:Bool) (w:World) (hr0:Kd.C k37 w A0 l0.length l0) (hc0:l0.length≤c0) (h:spec_l03Get.f k l0 a1=some (r1,r2)) :
  Calls Tryz.prog 43 #[.slice A0 l0.length c0,.string a1] w fun e w'=>e = .returned (.tuple #[.string r1,.bool r2])∧Drawn0 w w':=by
 have HR0:=ζa hr0
 have HC0:=ζa hc0
 clear hr0 hc0
 have H:((spec_l03At.f k l0 a1).bind fun t155=>(if t155<(l0.length:Int) then (if 0≤t155 then (if ((rd_T37 l0 t155).f0).toList=a1.toList then (some ((rd_T37 l0 t155).f1,τ)) else (some ((⟨#[]⟩:ByteArray),φ))) else (none)) else (some ((⟨#[]⟩:ByteArray),φ))))=some (r1,r2):=h
 clear h
 obtain ⟨t155,A3,H⟩:=bsm H
 by_cases c4:t155<(l0.length:Int)
 ·
  rw [if_pos c4] at H
  have c4b0:=decide_eq_true c4
  clear c4
  by_cases c5:0≤t155
  ·
   rw [if_pos c5] at H
   have c5b0:=decide_eq_true c5
   clear c5
   by_cases c6:((rd_T37 l0 t155).f0).toList=a1.toList
   ·
    rw [if_pos c6] at H
    have c6b0:=beq_iff_eq.mpr c6
    have c6b1:=bne_eq_false_iff_eq.mpr c6
    clear c6
    simp only [Option.some.injEq,Prod.mk.injEq] at H
    obtain ⟨rfl,rfl⟩:=H
    go_enter Tryz.func43,Tryz.ntmps43
    go_wp2_with (((with_reducible refine δv (f:=48) rfl ?_);refine gl 9 Tryz.func48 #[.slice A0 l0.length c0,.string a1] ?_;(with_reducible refine (spec_l03At.calls k _ _ l0 a1 t155 _ ?side1 ?side2 A3.out).mono ?_);(case side1=>repeat (exact HR0.out));(case side2=>exact HC0.out);rintro e w' ⟨rfl,⟨nd,rfl⟩⟩;refine ⟨_,rfl,?_⟩;have p156:0≤(t155:Int):=of_decide_eq_true (by (with_reducible assumption));have q156:t155<(l0.length:Int):=of_decide_eq_true (by (with_reducible assumption));obtain ⟨ad156,e156,hx156_0,hx156_1⟩:=at_T37 HR0.out t155 p156 q156;cases e156;replace p156:=eq_true p156;replace q156:=eq_true q156;have p157:0≤(t155:Int):=of_decide_eq_true (by (with_reducible assumption));have q157:t155<(l0.length:Int):=of_decide_eq_true (by (with_reducible assumption));obtain ⟨ad157,e157,hx157_0,hx157_1⟩:=at_T37 HR0.out t155 p157 q157;obtain rfl:ad156=ad157:=(by injection e157);replace p157:=eq_true p157;replace q157:=eq_true q157))
    go_ret2
    exact ⟨by rfl,by repeat (first|exact Drawn0.refl _|apply Drawn0.step)⟩
   ·
    rw [if_neg c6] at H
    have c6b0:=beq_eq_false_iff_ne.mpr c6
    have c6b1:=bne_iff_ne.mpr c6
    simp only [Option.some.injEq,Prod.mk.injEq] at H
    obtain ⟨rfl,rfl⟩:=H
    go_enter Tryz.func43,Tryz.ntmps43
    go_wp2_with (((with_reducible refine δv (f:=48) rfl ?_);refine gl 9 Tryz.func48 #[.slice A0 l0.length c0,.string a1] ?_;(with_reducible refine (spec_l03At.calls k _ _ l0 a1 t155 _ ?side1 ?side2 A3.out).mono ?_);(case side1=>repeat (exact HR0.out));(case side2=>exact HC0.out);rintro e w' ⟨rfl,⟨nd,rfl⟩⟩;refine ⟨_,rfl,?_⟩;have p156:0≤(t155:Int):=of_decide_eq_true (by (with_reducible assumption));have q156:t155<(l0.length:Int):=of_decide_eq_true (by (with_reducible assumption));obtain ⟨ad156,e156,hx156_0,hx156_1⟩:=at_T37 HR0.out t155 p156 q156;cases e156;replace p156:=eq_true p156;replace q156:=eq_true q156))
    go_ret2
    exact ⟨by rfl,by repeat (first|exact Drawn0.refl _|apply Drawn0.step)⟩
  ·
   rw [if_neg c5] at H
   exact absurd H (by simp)
 ·
  rw [if_neg c4] at H
  have c4b0:=decide_eq_false c4
  clear c4
  simp only [Option.some.injEq,Prod.mk.injEq] at H
  obtain ⟨rfl,rfl⟩:=H
  go_enter Tryz.func43,Tryz.ntmps43
  go_wp2_with (((with_reducible refine δv (f:=48) rfl ?_);refine gl 9 Tryz.func48 #[.slice A0 l0.length c0,.string a1] ?_;(with_reducible refine (spec_l03At.calls k _ _ l0 a1 t155 _ ?side1 ?side2 A3.out).mono ?_);(case side1=>repeat (exact HR0.out));(case side2=>exact HC0.out);rintro e w' ⟨rfl,⟨nd,rfl⟩⟩;refine ⟨_,rfl,?_⟩))
  go_ret2
  exact ⟨by rfl,by repeat (first|exact Drawn0.refl _|apply Drawn0.step)⟩


set_option maxHeartbeats 8000000
set_option maxRecDepth 100000

/-! ### spec_OrderOK: function 76 -/
def spec_OrderOK.f (k:Nat) (a0_0:ByteArray) (a0_1:ByteArray) (a0_2:Int) (a0_3:Int) (a0_4:Int) (a0_5:Bool):Option (Bool):=(spec_l05Name.f k a0_0).bind fun t159=>(if t159=τ then ((spec_l08Name.f k a0_1).bind fun t160=>(if t160=τ then ((spec_l01In.f a0_2 1 1000000000000000000).bind fun t161=>(if t161=τ then ((spec_l01In.f a0_3 1 1000000000000000000).bind fun t162=>(if t162=τ then ((spec_l01In.f a0_4 0 a0_2).bind fun t163=>(if t163=τ then (if a0_5=τ then (some (decide (a0_4 > 0))) else (if a0_4=0 then (some τ) else (some φ))) else (some φ))) else (some φ))) else (some φ))) else (some φ))) else (some φ))
theorem spec_OrderOK.calls (k:Nat) (a0_0:ByteArray) (a0_1:ByteArray) (a0_2:Int) (a0_3:Int) (a0_4:Int) (a0_5:Bool) (r:Bool) (w:World) (h:spec_OrderOK.f k a0_0 a0_1 a0_2 a0_3 a0_4 a0_5=some r) :
  Calls Tryz.prog 76 #[.agg #[.string a0_0,.string a0_1,.int .i64 a0_2,.int .i64 a0_3,.int .i64 a0_4,.bool a0_5]] w fun e w'=>e = .returned (.bool r)∧Below w.heap.size w w':=by
 have hu46:=Tryz.underlying46
 have HB:=ζa (Below.refl w.heap.size w)
 have H:((spec_l05Name.f k a0_0).bind fun t159=>(if t159=τ then ((spec_l08Name.f k a0_1).bind fun t160=>(if t160=τ then ((spec_l01In.f a0_2 1 1000000000000000000).bind fun t161=>(if t161=τ then ((spec_l01In.f a0_3 1 1000000000000000000).bind fun t162=>(if t162=τ then ((spec_l01In.f a0_4 0 a0_2).bind fun t163=>(if t163=τ then (if a0_5=τ then (some (decide (a0_4 > 0))) else (if a0_4=0 then (some τ) else (some φ))) else (some φ))) else (some φ))) else (some φ))) else (some φ))) else (some φ)))=some r:=h
 clear h
 obtain ⟨t159,A2,H⟩:=bsm H
 by_cases c3:t159=τ
 ·
  subst c3
  rw [ifT] at H
  obtain ⟨t160,A4,H⟩:=bsm H
  by_cases c5:t160=τ
  ·
   subst c5
   rw [ifT] at H
   obtain ⟨t161,A6,H⟩:=bsm H
   by_cases c7:t161=τ
   ·
    subst c7
    rw [ifT] at H
    obtain ⟨t162,A8,H⟩:=bsm H
    by_cases c9:t162=τ
    ·
     subst c9
     rw [ifT] at H
     obtain ⟨t163,A10,H⟩:=bsm H
     by_cases c11:t163=τ
     ·
      subst c11
      rw [ifT] at H
      by_cases c12:a0_5=τ
      ·
       subst c12
       rw [ifT] at H
       obtain rfl:=Option.some.inj H
       go_enter Tryz.func76,Tryz.ntmps76
       go_wp2_with (first|((with_reducible refine δx (N:=1) rfl ?_);refine bev 1 #[.string a0_0,.string a0_1,.int .i64 a0_2,.int .i64 a0_3,.int .i64 a0_4,.bool τ] 46 ?_;intro gb158 hg w13 hbox hb;have BK158:=ζa (hbox);have GW158:=ζa (gbw hg (by exact HB.out));have GE158:=ζa (gbw hg (by exact HB.out));replace HB:=ζa (δr (by exact HB.out) hb);clear hb hbox hg;have hcz14_0:w13.cell? ⟨gb158,0,none⟩=some (.string a0_0):=(δl BK158.out 0).trans rfl;have hcz14_1:w13.cell? ⟨gb158,1,none⟩=some (.string a0_1):=(δl BK158.out 1).trans rfl;have hcz14_2:w13.cell? ⟨gb158,2,none⟩=some (.int .i64 a0_2):=(δl BK158.out 2).trans rfl;have hcz14_3:w13.cell? ⟨gb158,3,none⟩=some (.int .i64 a0_3):=(δl BK158.out 3).trans rfl;have hcz14_4:w13.cell? ⟨gb158,4,none⟩=some (.int .i64 a0_4):=(δl BK158.out 4).trans rfl;have hcz14_5:w13.cell? ⟨gb158,5,none⟩=some (.bool τ):=(δl BK158.out 5).trans rfl;have hfz14_0:=δm BK158.out 0;have hfz14_1:=δm BK158.out 1;have hfz14_2:=δm BK158.out 2;have hfz14_3:=δm BK158.out 3;have hfz14_4:=δm BK158.out 4;have hfz14_5:=δm BK158.out 5)|((with_reducible refine δv (f:=40) rfl ?_);refine gl 5 Tryz.func40 #[.string a0_0] ?_;(with_reducible refine (spec_l05Name.calls k a0_0 τ _ A2.out).mono ?_);rintro e w' ⟨rfl,⟨nd,rfl⟩⟩;refine ⟨_,rfl,?_⟩)|(go_at_call 41;(with_reducible refine (spec_l08Name.calls k a0_1 τ _ A4.out).mono ?_);rintro e w' ⟨rfl,⟨nd,rfl⟩⟩)|(go_at_call 75;(with_reducible refine (spec_l01In.calls a0_2 1 1000000000000000000 τ _ A6.out).mono ?_);rintro e w' ⟨rfl,⟨nd,rfl⟩⟩)|(go_at_call 75;(with_reducible refine (spec_l01In.calls a0_3 1 1000000000000000000 τ _ A8.out).mono ?_);rintro e w' ⟨rfl,⟨nd,rfl⟩⟩)|(go_at_call 75;(with_reducible refine (spec_l01In.calls a0_4 0 a0_2 τ _ A10.out).mono ?_);rintro e w' ⟨rfl,⟨nd,rfl⟩⟩))
       go_ret
       exact ⟨by rfl,by repeat ((with_reducible first|exact HB.out|apply δi))⟩
      ·
       replace c12:=Bool.eq_false_iff.mpr c12
       subst c12
       rw [ifF] at H
       by_cases c15:a0_4=0
       ·
        rw [if_pos c15] at H
        have c15b0:=beq_iff_eq.mpr c15
        have c15b1:=bne_eq_false_iff_eq.mpr c15
        clear c15
        obtain rfl:=Option.some.inj H
        go_enter Tryz.func76,Tryz.ntmps76
        go_wp2_with (first|((with_reducible refine δx (N:=1) rfl ?_);refine bev 1 #[.string a0_0,.string a0_1,.int .i64 a0_2,.int .i64 a0_3,.int .i64 a0_4,.bool φ] 46 ?_;intro gb158 hg w16 hbox hb;have BK158:=ζa (hbox);have GW158:=ζa (gbw hg (by exact HB.out));have GE158:=ζa (gbw hg (by exact HB.out));replace HB:=ζa (δr (by exact HB.out) hb);clear hb hbox hg;have hcz17_0:w16.cell? ⟨gb158,0,none⟩=some (.string a0_0):=(δl BK158.out 0).trans rfl;have hcz17_1:w16.cell? ⟨gb158,1,none⟩=some (.string a0_1):=(δl BK158.out 1).trans rfl;have hcz17_2:w16.cell? ⟨gb158,2,none⟩=some (.int .i64 a0_2):=(δl BK158.out 2).trans rfl;have hcz17_3:w16.cell? ⟨gb158,3,none⟩=some (.int .i64 a0_3):=(δl BK158.out 3).trans rfl;have hcz17_4:w16.cell? ⟨gb158,4,none⟩=some (.int .i64 a0_4):=(δl BK158.out 4).trans rfl;have hcz17_5:w16.cell? ⟨gb158,5,none⟩=some (.bool φ):=(δl BK158.out 5).trans rfl;have hfz17_0:=δm BK158.out 0;have hfz17_1:=δm BK158.out 1;have hfz17_2:=δm BK158.out 2;have hfz17_3:=δm BK158.out 3;have hfz17_4:=δm BK158.out 4;have hfz17_5:=δm BK158.out 5)|((with_reducible refine δv (f:=40) rfl ?_);refine gl 5 Tryz.func40 #[.string a0_0] ?_;(with_reducible refine (spec_l05Name.calls k a0_0 τ _ A2.out).mono ?_);rintro e w' ⟨rfl,⟨nd,rfl⟩⟩;refine ⟨_,rfl,?_⟩)|(go_at_call 41;(with_reducible refine (spec_l08Name.calls k a0_1 τ _ A4.out).mono ?_);rintro e w' ⟨rfl,⟨nd,rfl⟩⟩)|(go_at_call 75;(with_reducible refine (spec_l01In.calls a0_2 1 1000000000000000000 τ _ A6.out).mono ?_);rintro e w' ⟨rfl,⟨nd,rfl⟩⟩)|(go_at_call 75;(with_reducible refine (spec_l01In.calls a0_3 1 1000000000000000000 τ _ A8.out).mono ?_);rintro e w' ⟨rfl,⟨nd,rfl⟩⟩)|(go_at_call 75;(with_reducible refine (spec_l01In.calls a0_4 0 a0_2 τ _ A10.out).mono ?_);rintro e w' ⟨rfl,⟨nd,rfl⟩⟩))
        go_ret
        exact ⟨by rfl,by repeat ((with_reducible first|exact HB.out|apply δi))⟩
       ·
        rw [if_neg c15] at H
        have c15b0:=beq_eq_false_iff_ne.mpr c15
        have c15b1:=bne_iff_ne.mpr c15
        obtain rfl:=Option.some.inj H
        go_enter Tryz.func76,Tryz.ntmps76
        go_wp2_with (first|((with_reducible refine δx (N:=1) rfl ?_);refine bev 1 #[.string a0_0,.string a0_1,.int .i64 a0_2,.int .i64 a0_3,.int .i64 a0_4,.bool φ] 46 ?_;intro gb158 hg w18 hbox hb;have BK158:=ζa (hbox);have GW158:=ζa (gbw hg (by exact HB.out));have GE158:=ζa (gbw hg (by exact HB.out));replace HB:=ζa (δr (by exact HB.out) hb);clear hb hbox hg;have hcz19_0:w18.cell? ⟨gb158,0,none⟩=some (.string a0_0):=(δl BK158.out 0).trans rfl;have hcz19_1:w18.cell? ⟨gb158,1,none⟩=some (.string a0_1):=(δl BK158.out 1).trans rfl;have hcz19_2:w18.cell? ⟨gb158,2,none⟩=some (.int .i64 a0_2):=(δl BK158.out 2).trans rfl;have hcz19_3:w18.cell? ⟨gb158,3,none⟩=some (.int .i64 a0_3):=(δl BK158.out 3).trans rfl;have hcz19_4:w18.cell? ⟨gb158,4,none⟩=some (.int .i64 a0_4):=(δl BK158.out 4).trans rfl;have hcz19_5:w18.cell? ⟨gb158,5,none⟩=some (.bool φ):=(δl BK158.out 5).trans rfl;have hfz19_0:=δm BK158.out 0;have hfz19_1:=δm BK158.out 1;have hfz19_2:=δm BK158.out 2;have hfz19_3:=δm BK158.out 3;have hfz19_4:=δm BK158.out 4;have hfz19_5:=δm BK158.out 5)|((with_reducible refine δv (f:=40) rfl ?_);refine gl 5 Tryz.func40 #[.string a0_0] ?_;(with_reducible refine (spec_l05Name.calls k a0_0 τ _ A2.out).mono ?_);rintro e w' ⟨rfl,⟨nd,rfl⟩⟩;refine ⟨_,rfl,?_⟩)|(go_at_call 41;(with_reducible refine (spec_l08Name.calls k a0_1 τ _ A4.out).mono ?_);rintro e w' ⟨rfl,⟨nd,rfl⟩⟩)|(go_at_call 75;(with_reducible refine (spec_l01In.calls a0_2 1 1000000000000000000 τ _ A6.out).mono ?_);rintro e w' ⟨rfl,⟨nd,rfl⟩⟩)|(go_at_call 75;(with_reducible refine (spec_l01In.calls a0_3 1 1000000000000000000 τ _ A8.out).mono ?_);rintro e w' ⟨rfl,⟨nd,rfl⟩⟩)|(go_at_call 75;(with_reducible refine (spec_l01In.calls a0_4 0 a0_2 τ _ A10.out).mono ?_);rintro e w' ⟨rfl,⟨nd,rfl⟩⟩))
        go_ret
        exact ⟨by rfl,by repeat ((with_reducible first|exact HB.out|apply δi))⟩
     ·
      replace c11:=Bool.eq_false_iff.mpr c11
      subst c11
      rw [ifF] at H
      obtain rfl:=Option.some.inj H
      go_enter Tryz.func76,Tryz.ntmps76
      go_wp2_with (first|((with_reducible refine δx (N:=1) rfl ?_);refine bev 1 #[.string a0_0,.string a0_1,.int .i64 a0_2,.int .i64 a0_3,.int .i64 a0_4,.bool a0_5] 46 ?_;intro gb158 hg w20 hbox hb;have BK158:=ζa (hbox);have GW158:=ζa (gbw hg (by exact HB.out));have GE158:=ζa (gbw hg (by exact HB.out));replace HB:=ζa (δr (by exact HB.out) hb);clear hb hbox hg;have hcz21_0:w20.cell? ⟨gb158,0,none⟩=some (.string a0_0):=(δl BK158.out 0).trans rfl;have hcz21_1:w20.cell? ⟨gb158,1,none⟩=some (.string a0_1):=(δl BK158.out 1).trans rfl;have hcz21_2:w20.cell? ⟨gb158,2,none⟩=some (.int .i64 a0_2):=(δl BK158.out 2).trans rfl;have hcz21_3:w20.cell? ⟨gb158,3,none⟩=some (.int .i64 a0_3):=(δl BK158.out 3).trans rfl;have hcz21_4:w20.cell? ⟨gb158,4,none⟩=some (.int .i64 a0_4):=(δl BK158.out 4).trans rfl;have hcz21_5:w20.cell? ⟨gb158,5,none⟩=some (.bool a0_5):=(δl BK158.out 5).trans rfl;have hfz21_0:=δm BK158.out 0;have hfz21_1:=δm BK158.out 1;have hfz21_2:=δm BK158.out 2;have hfz21_3:=δm BK158.out 3;have hfz21_4:=δm BK158.out 4;have hfz21_5:=δm BK158.out 5)|((with_reducible refine δv (f:=40) rfl ?_);refine gl 5 Tryz.func40 #[.string a0_0] ?_;(with_reducible refine (spec_l05Name.calls k a0_0 τ _ A2.out).mono ?_);rintro e w' ⟨rfl,⟨nd,rfl⟩⟩;refine ⟨_,rfl,?_⟩)|(go_at_call 41;(with_reducible refine (spec_l08Name.calls k a0_1 τ _ A4.out).mono ?_);rintro e w' ⟨rfl,⟨nd,rfl⟩⟩)|(go_at_call 75;(with_reducible refine (spec_l01In.calls a0_2 1 1000000000000000000 τ _ A6.out).mono ?_);rintro e w' ⟨rfl,⟨nd,rfl⟩⟩)|(go_at_call 75;(with_reducible refine (spec_l01In.calls a0_3 1 1000000000000000000 τ _ A8.out).mono ?_);rintro e w' ⟨rfl,⟨nd,rfl⟩⟩)|(go_at_call 75;(with_reducible refine (spec_l01In.calls a0_4 0 a0_2 φ _ A10.out).mono ?_);rintro e w' ⟨rfl,⟨nd,rfl⟩⟩))
      go_ret
      exact ⟨by rfl,by repeat ((with_reducible first|exact HB.out|apply δi))⟩
    ·
     replace c9:=Bool.eq_false_iff.mpr c9
     subst c9
     rw [ifF] at H
     obtain rfl:=Option.some.inj H
     go_enter Tryz.func76,Tryz.ntmps76
     go_wp2_with (first|((with_reducible refine δx (N:=1) rfl ?_);refine bev 1 #[.string a0_0,.string a0_1,.int .i64 a0_2,.int .i64 a0_3,.int .i64 a0_4,.bool a0_5] 46 ?_;intro gb158 hg w22 hbox hb;have BK158:=ζa (hbox);have GW158:=ζa (gbw hg (by exact HB.out));have GE158:=ζa (gbw hg (by exact HB.out));replace HB:=ζa (δr (by exact HB.out) hb);clear hb hbox hg;have hcz23_0:w22.cell? ⟨gb158,0,none⟩=some (.string a0_0):=(δl BK158.out 0).trans rfl;have hcz23_1:w22.cell? ⟨gb158,1,none⟩=some (.string a0_1):=(δl BK158.out 1).trans rfl;have hcz23_2:w22.cell? ⟨gb158,2,none⟩=some (.int .i64 a0_2):=(δl BK158.out 2).trans rfl;have hcz23_3:w22.cell? ⟨gb158,3,none⟩=some (.int .i64 a0_3):=(δl BK158.out 3).trans rfl;have hcz23_4:w22.cell? ⟨gb158,4,none⟩=some (.int .i64 a0_4):=(δl BK158.out 4).trans rfl;have hcz23_5:w22.cell? ⟨gb158,5,none⟩=some (.bool a0_5):=(δl BK158.out 5).trans rfl;have hfz23_0:=δm BK158.out 0;have hfz23_1:=δm BK158.out 1;have hfz23_2:=δm BK158.out 2;have hfz23_3:=δm BK158.out 3;have hfz23_4:=δm BK158.out 4;have hfz23_5:=δm BK158.out 5)|((with_reducible refine δv (f:=40) rfl ?_);refine gl 5 Tryz.func40 #[.string a0_0] ?_;(with_reducible refine (spec_l05Name.calls k a0_0 τ _ A2.out).mono ?_);rintro e w' ⟨rfl,⟨nd,rfl⟩⟩;refine ⟨_,rfl,?_⟩)|(go_at_call 41;(with_reducible refine (spec_l08Name.calls k a0_1 τ _ A4.out).mono ?_);rintro e w' ⟨rfl,⟨nd,rfl⟩⟩)|(go_at_call 75;(with_reducible refine (spec_l01In.calls a0_2 1 1000000000000000000 τ _ A6.out).mono ?_);rintro e w' ⟨rfl,⟨nd,rfl⟩⟩)|(go_at_call 75;(with_reducible refine (spec_l01In.calls a0_3 1 1000000000000000000 φ _ A8.out).mono ?_);rintro e w' ⟨rfl,⟨nd,rfl⟩⟩))
     go_ret
     exact ⟨by rfl,by repeat ((with_reducible first|exact HB.out|apply δi))⟩
   ·
    replace c7:=Bool.eq_false_iff.mpr c7
    subst c7
    rw [ifF] at H
    obtain rfl:=Option.some.inj H
    go_enter Tryz.func76,Tryz.ntmps76
    go_wp2_with (first|((with_reducible refine δx (N:=1) rfl ?_);refine bev 1 #[.string a0_0,.string a0_1,.int .i64 a0_2,.int .i64 a0_3,.int .i64 a0_4,.bool a0_5] 46 ?_;intro gb158 hg w24 hbox hb;have BK158:=ζa (hbox);have GW158:=ζa (gbw hg (by exact HB.out));have GE158:=ζa (gbw hg (by exact HB.out));replace HB:=ζa (δr (by exact HB.out) hb);clear hb hbox hg;have hcz25_0:w24.cell? ⟨gb158,0,none⟩=some (.string a0_0):=(δl BK158.out 0).trans rfl;have hcz25_1:w24.cell? ⟨gb158,1,none⟩=some (.string a0_1):=(δl BK158.out 1).trans rfl;have hcz25_2:w24.cell? ⟨gb158,2,none⟩=some (.int .i64 a0_2):=(δl BK158.out 2).trans rfl;have hcz25_3:w24.cell? ⟨gb158,3,none⟩=some (.int .i64 a0_3):=(δl BK158.out 3).trans rfl;have hcz25_4:w24.cell? ⟨gb158,4,none⟩=some (.int .i64 a0_4):=(δl BK158.out 4).trans rfl;have hcz25_5:w24.cell? ⟨gb158,5,none⟩=some (.bool a0_5):=(δl BK158.out 5).trans rfl;have hfz25_0:=δm BK158.out 0;have hfz25_1:=δm BK158.out 1;have hfz25_2:=δm BK158.out 2;have hfz25_3:=δm BK158.out 3;have hfz25_4:=δm BK158.out 4;have hfz25_5:=δm BK158.out 5)|((with_reducible refine δv (f:=40) rfl ?_);refine gl 5 Tryz.func40 #[.string a0_0] ?_;(with_reducible refine (spec_l05Name.calls k a0_0 τ _ A2.out).mono ?_);rintro e w' ⟨rfl,⟨nd,rfl⟩⟩;refine ⟨_,rfl,?_⟩)|(go_at_call 41;(with_reducible refine (spec_l08Name.calls k a0_1 τ _ A4.out).mono ?_);rintro e w' ⟨rfl,⟨nd,rfl⟩⟩)|(go_at_call 75;(with_reducible refine (spec_l01In.calls a0_2 1 1000000000000000000 φ _ A6.out).mono ?_);rintro e w' ⟨rfl,⟨nd,rfl⟩⟩))
    go_ret
    exact ⟨by rfl,by repeat ((with_reducible first|exact HB.out|apply δi))⟩
  ·
   replace c5:=Bool.eq_false_iff.mpr c5
   subst c5
   rw [ifF] at H
   obtain rfl:=Option.some.inj H
   go_enter Tryz.func76,Tryz.ntmps76
   go_wp2_with (first|((with_reducible refine δx (N:=1) rfl ?_);refine bev 1 #[.string a0_0,.string a0_1,.int .i64 a0_2,.int .i64 a0_3,.int .i64 a0_4,.bool a0_5] 46 ?_;intro gb158 hg w26 hbox hb;have BK158:=ζa (hbox);have GW158:=ζa (gbw hg (by exact HB.out));have GE158:=ζa (gbw hg (by exact HB.out));replace HB:=ζa (δr (by exact HB.out) hb);clear hb hbox hg;have hcz27_0:w26.cell? ⟨gb158,0,none⟩=some (.string a0_0):=(δl BK158.out 0).trans rfl;have hcz27_1:w26.cell? ⟨gb158,1,none⟩=some (.string a0_1):=(δl BK158.out 1).trans rfl;have hcz27_2:w26.cell? ⟨gb158,2,none⟩=some (.int .i64 a0_2):=(δl BK158.out 2).trans rfl;have hcz27_3:w26.cell? ⟨gb158,3,none⟩=some (.int .i64 a0_3):=(δl BK158.out 3).trans rfl;have hcz27_4:w26.cell? ⟨gb158,4,none⟩=some (.int .i64 a0_4):=(δl BK158.out 4).trans rfl;have hcz27_5:w26.cell? ⟨gb158,5,none⟩=some (.bool a0_5):=(δl BK158.out 5).trans rfl;have hfz27_0:=δm BK158.out 0;have hfz27_1:=δm BK158.out 1;have hfz27_2:=δm BK158.out 2;have hfz27_3:=δm BK158.out 3;have hfz27_4:=δm BK158.out 4;have hfz27_5:=δm BK158.out 5)|((with_reducible refine δv (f:=40) rfl ?_);refine gl 5 Tryz.func40 #[.string a0_0] ?_;(with_reducible refine (spec_l05Name.calls k a0_0 τ _ A2.out).mono ?_);rintro e w' ⟨rfl,⟨nd,rfl⟩⟩;refine ⟨_,rfl,?_⟩)|(go_at_call 41;(with_reducible refine (spec_l08Name.calls k a0_1 φ _ A4.out).mono ?_);rintro e w' ⟨rfl,⟨nd,rfl⟩⟩))
   go_ret
   exact ⟨by rfl,by repeat ((with_reducible first|exact HB.out|apply δi))⟩
 ·
  replace c3:=Bool.eq_false_iff.mpr c3
  subst c3
  rw [ifF] at H
  obtain rfl:=Option.some.inj H
  go_enter Tryz.func76,Tryz.ntmps76
  go_wp2_with (first|((with_reducible refine δx (N:=1) rfl ?_);refine bev 1 #[.string a0_0,.string a0_1,.int .i64 a0_2,.int .i64 a0_3,.int .i64 a0_4,.bool a0_5] 46 ?_;intro gb158 hg w28 hbox hb;have BK158:=ζa (hbox);have GW158:=ζa (gbw hg (by exact HB.out));have GE158:=ζa (gbw hg (by exact HB.out));replace HB:=ζa (δr (by exact HB.out) hb);clear hb hbox hg;have hcz29_0:w28.cell? ⟨gb158,0,none⟩=some (.string a0_0):=(δl BK158.out 0).trans rfl;have hcz29_1:w28.cell? ⟨gb158,1,none⟩=some (.string a0_1):=(δl BK158.out 1).trans rfl;have hcz29_2:w28.cell? ⟨gb158,2,none⟩=some (.int .i64 a0_2):=(δl BK158.out 2).trans rfl;have hcz29_3:w28.cell? ⟨gb158,3,none⟩=some (.int .i64 a0_3):=(δl BK158.out 3).trans rfl;have hcz29_4:w28.cell? ⟨gb158,4,none⟩=some (.int .i64 a0_4):=(δl BK158.out 4).trans rfl;have hcz29_5:w28.cell? ⟨gb158,5,none⟩=some (.bool a0_5):=(δl BK158.out 5).trans rfl;have hfz29_0:=δm BK158.out 0;have hfz29_1:=δm BK158.out 1;have hfz29_2:=δm BK158.out 2;have hfz29_3:=δm BK158.out 3;have hfz29_4:=δm BK158.out 4;have hfz29_5:=δm BK158.out 5)|((with_reducible refine δv (f:=40) rfl ?_);refine gl 5 Tryz.func40 #[.string a0_0] ?_;(with_reducible refine (spec_l05Name.calls k a0_0 φ _ A2.out).mono ?_);rintro e w' ⟨rfl,⟨nd,rfl⟩⟩;refine ⟨_,rfl,?_⟩))
  go_ret
  exact ⟨by rfl,by repeat ((with_reducible first|exact HB.out|apply δi))⟩

end Go.Proofs.YtjhhehjjnfnigaaGreatDoor.Q
