/- Parts of the proof: what single Go functions compute, each with its walk, and plain laws over these. -/
import Derived.Laws.CopyRow
import Derived.Laws.IdiomCopy
import Derived.Test.YtabmfhnhmoiljaaGreatDoorVWords
import Derived.Test.YtabmfhnhmoiljaaGreatDoorProg
import Derived.Below
import Derived.Deep.Draws
import Derived.Deep.AppendLies
import Derived.Maps.AppendAt
import Derived.OwnWalk
import Derived.Laws.BytesArg
import Derived.Laws.MakeOwn
import Derived.Laws.OwnMore
import Derived.Deep.OwnRows
import Derived.Tactics
import Derived.Lib.ConvBytes
import Derived.Laws.Slices
import Derived.WalkKit
import Derived.KernelRfl
import Derived.RowKit3
import Derived.Deep.LoopGhost
import Derived.Deep.QuietTactic
import Derived.BigQuiet
import Derived.WideLaws
import Derived.Deep.DeepCutAuto
import Derived.Deep.CutBlock
import Derived.Deep.RegionHeld3
import Derived.Laws.Rows
import Derived.Lib.AppendStr
import Derived.ArgAppend
import Derived.OrdersHeld
import Derived.Laws.BitsLemmas
import Derived.RowKit
import Derived.Shelf.Abstract
import Derived.Laws.Cover1
import Derived.Test.YtabmfhnhmoiljaaGreatDoorVShelf
import Derived.Lib.AppendIntMem
import Derived.Lib.SliceRun
import Derived.WalkSpells
import Derived.Lib.Overlaps
import Derived.Laws.Externs
import Derived.Laws.CopyOwn
import Derived.Shelf.Spec.SlicesInsertGrow
import Derived.Deep.Heap
import Derived.Test.YtabmfhnhmoiljaaGreatDoorVLast
import Derived.Test.YtabmfhnhmoiljaaGreatDoorVTab
import Derived.Test.YtabmfhnhmoiljaaGreatDoorVFour
import Derived.Test.YtabmfhnhmoiljaaGreatDoorVQPut
import Derived.Test.YtabmfhnhmoiljaaGreatDoorVApart
import Derived.Test.YtabmfhnhmoiljaaGreatDoorVArr
import Derived.Test.YtabmfhnhmoiljaaGreatDoorVZeros
import Derived.Test.YtabmfhnhmoiljaaGreatDoorVFoot
import Derived.Test.YtabmfhnhmoiljaaGreatDoorVKept
import Derived.Test.YtabmfhnhmoiljaaGreatDoorVShare
import Derived.Test.YtabmfhnhmoiljaaGreatDoorVN
import Derived.Test.YtabmfhnhmoiljaaGreatDoorVFootNe
import Derived.Test.YtabmfhnhmoiljaaGreatDoorVAt
import Derived.Test.YtabmfhnhmoiljaaGreatDoorVEqStruct
import Derived.Test.YtabmfhnhmoiljaaGreatDoorVRepsOne
import Derived.Test.YtabmfhnhmoiljaaGreatDoorVInv
import Derived.Test.YtabmfhnhmoiljaaGreatDoorVInvWords
import Derived.Test.YtabmfhnhmoiljaaGreatDoorVGuard
import Derived.Test.YtabmfhnhmoiljaaGreatDoorVNEv
import Derived.Test.YtabmfhnhmoiljaaGreatDoorVMore
/- 'copy' of a row of elements of any size: the row that is written, whole. -/
namespace Go.Proofs.YtabmfhnhmoiljaaGreatDoor.U
open Go Go.RowKit Go.Lib Go.Proofs.YtabmfhnhmoiljaaGreatDoorW.PrintWords
set_option linter.unusedVariables false
set_option linter.unusedSimpArgs false

theorem run_copy_row_n {P : Program} (w : World) (dT sT ty elem : TypeId) (g o dLen dCap : Nat) (a : Addr) (sLen sCap : Nat) (cur : Array Value) (t : TypeId) (cs : List Value) (s m : Nat)
    (hu : P.underlying dT = some (.slice elem)) (hs : (P.info? elem).map (·.size) = some s)
    (hg : w.heap[g]? = some (.cells cur t (0, 0))) (hm : m = Nat.min sLen dLen) (hn : cs.length = m * s)
    (hsrc : ∀ j v, cs[j]? = some v → w.cell? (a.add j) = some v) (hfit : o + cs.length ≤ cur.size) (h1 : ∀ v ∈ cs, v.oneCell' = true) :
    (Builtin.copy_ #[dT, sT] ty #[.slice (some ⟨g, o, none⟩) dLen dCap, .slice (some a) sLen sCap]).run P w =
      .ok (goInt m) (w.setRow g (cur.toList.take o ++ cs ++ cur.toList.drop (o + cs.length)).toArray) := by
  have hl := run_loadCells_list (P := P) w a cs hsrc
  have hst := run_storeCells_at P g o t cs 0 cur w hg (by simpa using hfit) h1
  cases hq : P.info? elem with
  | none => simp [hq] at hs
  | some i =>
    have hi : i.size = s := by simpa [hq] using hs
    simp [Builtin.copy_, run_underlying hu, Builtin.lenOf, Builtin.firstCells, sizeOf, typeInfo, hq, hi, ← hm, ← hn, hl, hst]

/-- What one row of elements is after an insertion that had room: the cells ahead, the new ones, those that stood behind; what lies behind these stays. -/
theorem ins_list {α : Type} (cur new : List α) (i n s : Nat) (hi : i ≤ n) (hs : new.length = s) (hl : (n + 1) * s ≤ cur.length) :
    let mid := cur.take ((i + 1) * s) ++ (cur.drop (i * s)).take ((n - i) * s) ++ cur.drop ((n + 1) * s)
    (mid.take (i * s) ++ new ++ mid.drop (i * s + s)) = (cur.take (i * s) ++ new ++ (cur.take (n * s)).drop (i * s)) ++ cur.drop ((n + 1) * s) := by
  intro mid
  have e1 : (i + 1) * s = i * s + s := by rw [Nat.add_mul, Nat.one_mul]
  have e2 : (n + 1) * s = n * s + s := by rw [Nat.add_mul, Nat.one_mul]
  have e3 : (n - i) * s = n * s - i * s := Nat.sub_mul n i s
  have e4 : i * s ≤ n * s := Nat.mul_le_mul_right s hi
  have h1 : mid.take (i * s) = cur.take (i * s) := by
    show (cur.take ((i + 1) * s) ++ (cur.drop (i * s)).take ((n - i) * s) ++ cur.drop ((n + 1) * s)).take (i * s) = _
    rw [List.append_assoc, List.take_append_of_le_length (by rw [List.length_take]; omega), List.take_take, Nat.min_eq_left (by omega)]
  have h2 : mid.drop (i * s + s) = (cur.drop (i * s)).take ((n - i) * s) ++ cur.drop ((n + 1) * s) := by
    show (cur.take ((i + 1) * s) ++ (cur.drop (i * s)).take ((n - i) * s) ++ cur.drop ((n + 1) * s)).drop (i * s + s) = _
    have hlen : (cur.take ((i + 1) * s)).length = i * s + s := by rw [List.length_take]; omega
    rw [List.append_assoc, List.drop_append, hlen, Nat.sub_self, List.drop_zero, List.drop_of_length_le (by omega), List.nil_append]
  rw [h1, h2, e3, List.drop_take]
  simp [List.append_assoc]
end Go.Proofs.YtabmfhnhmoiljaaGreatDoor.U

namespace Go.Proofs.YtabmfhnhmoiljaaGreatDoor.Q
open Go.RowKit Go.Proofs.YtabmfhnhmoiljaaGreatDoorW.PrintWords Go.Proofs.YtabmfhnhmoiljaaGreatDoorW.PrintLast Go.Proofs.YtabmfhnhmoiljaaGreatDoorW.PrintMore
attribute [local go_sem] max2_int min2_int max_two min_two max_three min_three max_four min_four   -- for this text's walks alone
set_option linter.unusedVariables false
set_option linter.unusedSimpArgs false

def errW : Option Int → Value
  | none => .nilIface
  | some c => .iface 161 (.int .i64 c)
theorem errW_none : errW none = .nilIface := rfl
theorem errW_some (c : Int) : errW (some c) = .iface 161 (.int .i64 c) := rfl

theorem info5 : (Tryz.prog.info? 5).map (fun i => (i.zero, i.size, i.bytes)) = some (some (.int .u8 0), 1, 1) := by kernel_rfl
theorem info9 : (Tryz.prog.info? 9).map (fun i => (i.zero, i.size, i.bytes)) = some (some (.string ⟨#[]⟩), 1, 16) := by kernel_rfl
theorem info51 : (Tryz.prog.info? 51).map (fun i => (i.zero, i.size, i.bytes)) = some (some (.agg #[(.string ⟨#[]⟩), (.string ⟨#[]⟩)]), 2, 32) := by kernel_rfl
-- the values' own types
/-! #### struct type 49 -/
structure S49 where
  f0 : ByteArray
  f1 : ByteArray
def z49 : S49 := ⟨(⟨#[]⟩ : ByteArray), (⟨#[]⟩ : ByteArray)⟩
def k49 : Kd S49 := Kd.iso (Kd.pair Kd.string Kd.string) (fun x : S49 => (x.f0, x.f1))
theorem k49_open {w : World} {x : S49} {cs : List Value} (h : k49.K w x cs) : cs = [.string x.f0, .string x.f1] := by
  obtain ⟨_, _, rfl, rfl, rfl⟩ := h
  exact rfl
def rd_T49 (xs : List S49) (i : Int) : S49 := xs.getD i.toNat z49
theorem at_T49 {w : World} {A : Option Addr} {n : Nat} {xs : List S49} (h : Kd.C k49 w A n xs) (i : Int) (h0 : 0 ≤ i) (h1 : i < n) : ∃ ad , A = some ad ∧ w.cell? (ad.add (i.toNat * 2)) = some (.string (rd_T49 xs i).f0) ∧ w.cell? ⟨(ad.add (i.toNat * 2)).block, (ad.add (i.toNat * 2)).off + 1, none⟩ = some (.string (rd_T49 xs i).f1) := by
  obtain ⟨ad, c, e, _, hK, hc0⟩ := Kd.C_get h z49 i h0 h1
  have hc : ∀ j u, c[j]? = some u → w.cell? (ad.add (i.toNat * 2 + j)) = some u := hc0
  obtain rfl := k49_open hK
  exact ⟨ad, e, hc 0 _ rfl, by rw [← add_field _ _ 1 (by omega)]; exact hc 1 _ rfl⟩

/-! #### struct type 51 -/
structure S51 where
  f0 : ByteArray
  f1 : ByteArray
def z51 : S51 := ⟨(⟨#[]⟩ : ByteArray), (⟨#[]⟩ : ByteArray)⟩
def k51 : Kd S51 := Kd.iso (Kd.pair Kd.string Kd.string) (fun x : S51 => (x.f0, x.f1))
theorem k51_open {w : World} {x : S51} {cs : List Value} (h : k51.K w x cs) : cs = [.string x.f0, .string x.f1] := by
  obtain ⟨_, _, rfl, rfl, rfl⟩ := h
  exact rfl
theorem k51_openM {w : World} {base : Nat} {ok : Nat → Prop} {x : S51} {cs : List Value} (h : k51.M w base ok x cs) : cs = [.string x.f0, .string x.f1] := by
  obtain ⟨_, _, rfl, rfl, rfl⟩ := h
  exact rfl
theorem k51_mkM (w : World) (base : Nat) (ok : Nat → Prop) (x : S51)  : k51.M w base ok x [.string x.f0, .string x.f1] := ⟨[.string x.f0], [.string x.f1], rfl, rfl, rfl⟩
def rd_T51 (xs : List S51) (i : Int) : S51 := xs.getD i.toNat z51
theorem at_T51 {w : World} {A : Option Addr} {n : Nat} {xs : List S51} (h : Kd.C k51 w A n xs) (i : Int) (h0 : 0 ≤ i) (h1 : i < n) : ∃ ad , A = some ad ∧ w.cell? (ad.add (i.toNat * 2)) = some (.string (rd_T51 xs i).f0) ∧ w.cell? ⟨(ad.add (i.toNat * 2)).block, (ad.add (i.toNat * 2)).off + 1, none⟩ = some (.string (rd_T51 xs i).f1) := by
  obtain ⟨ad, c, e, _, hK, hc0⟩ := Kd.C_get h z51 i h0 h1
  have hc : ∀ j u, c[j]? = some u → w.cell? (ad.add (i.toNat * 2 + j)) = some u := hc0
  obtain rfl := k51_open hK
  exact ⟨ad, e, hc 0 _ rfl, by rw [← add_field _ _ 1 (by omega)]; exact hc 1 _ rfl⟩

/-! #### struct type 56 -/
structure S56 where
  f0 : ByteArray
  f1 : ByteArray
  f2 : ByteArray
  f3 : Int

/-! #### struct type 61 -/
structure S61 where
  f0 : ByteArray
  f1 : Int
  f2 : ByteArray
  f3 : ByteArray

/-! #### struct type 66 -/
structure S66 where
  f0 : ByteArray
  f1 : ByteArray
  f2 : Int
  f3 : Int
  f4 : Int
  f5 : Bool


open Go.RowKit renaming wrap64 → ζm
open Go.Proofs.YtabmfhnhmoiljaaGreatDoorW.PrintWords.Aside0 renaming mk → ζa
open Go.Proofs.YtabmfhnhmoiljaaGreatDoorW.PrintWords renaming gate_dst → δx, box_event → δz, below_size → δs, below_step → δr, blk_cell → δl, blk_frozen → δm
open Bool renaming true → τ, false → φ

/-! ### laws_szPair: function 41 -/
def laws_szPair.f (a0_0:ByteArray) (a0_1:ByteArray) (a1:Int):Option (Int):=if (ζm (a1 - (a0_0.size:Int)))<0 then (some (-1)) else (if (ζm ((ζm (a1 - (a0_0.size:Int))) - (a0_1.size:Int)))<0 then (some (-1)) else (some (ζm ((ζm (a1 - (a0_0.size:Int))) - (a0_1.size:Int)))))
set_option maxHeartbeats 8000000 in
set_option maxRecDepth 100000 in
theorem laws_szPair.calls (a0_0:ByteArray) (a0_1:ByteArray) (a1:Int) (r:Int) (w:World) (h:laws_szPair.f a0_0 a0_1 a1=some r) :
  Calls Tryz.prog 41 #[.agg #[.string a0_0,.string a0_1],.int .i64 a1] w fun e w'=>e = .returned (.int .i64 r)∧Below w.heap.size w w':=by
 have hu49:=Tryz.underlying49
 have HB:=ζa (Below.refl w.heap.size w)
 have H:(if (ζm (a1 - (a0_0.size:Int)))<0 then (some (-1)) else (if (ζm ((ζm (a1 - (a0_0.size:Int))) - (a0_1.size:Int)))<0 then (some (-1)) else (some (ζm ((ζm (a1 - (a0_0.size:Int))) - (a0_1.size:Int))))))=some r:=h
 clear h
 by_cases c3:(ζm (a1 - (a0_0.size:Int)))<0
 ·
  rw [if_pos c3] at H
  have c3b0:decide ((ζm (a1 - (a0_0.size:Int)))<0)=τ:=decide_eq_true c3
  clear c3
  obtain rfl:=Option.some.inj H
  go_enter Tryz.func41,Tryz.ntmps41
  go_wp2_with (((with_reducible refine δx (N:=2) rfl ?_);refine δz ?hg (N:=2) ?hd (cs:=#[.string a0_0,.string a0_1]) (t:=49) ?hr ?_;(case hd=>rfl);(case hg=>rfl);(case hr=>(go_simp;done));intro gb101 hg w4 hbox hb;have BK101:=ζa (hbox);have GW101:=ζa ((by rw [hg];exact (δs (by exact HB.out)):w.heap.size≤gb101));have GE101:=ζa ((by rw [hg];exact (δs (by exact HB.out)):w.heap.size≤gb101));replace HB:=ζa (δr (by exact HB.out) hb);clear hb hbox hg;have hcz5_0:w4.cell? ⟨gb101,0,none⟩=some (.string a0_0):=(δl BK101.out 0).trans rfl;have hcz5_1:w4.cell? ⟨gb101,1,none⟩=some (.string a0_1):=(δl BK101.out 1).trans rfl;have hfz5_0:=δm BK101.out 0;have hfz5_1:=δm BK101.out 1))
  go_ret
  exact ⟨by rfl,by repeat ((with_reducible exact HB.out))⟩
 ·
  rw [if_neg c3] at H
  have c3b0:decide ((ζm (a1 - (a0_0.size:Int)))<0)=φ:=decide_eq_false c3
  clear c3
  by_cases c6:(ζm ((ζm (a1 - (a0_0.size:Int))) - (a0_1.size:Int)))<0
  ·
   rw [if_pos c6] at H
   have c6b0:decide ((ζm ((ζm (a1 - (a0_0.size:Int))) - (a0_1.size:Int)))<0)=τ:=decide_eq_true c6
   clear c6
   obtain rfl:=Option.some.inj H
   go_enter Tryz.func41,Tryz.ntmps41
   go_wp2_with (((with_reducible refine δx (N:=2) rfl ?_);refine δz ?hg (N:=2) ?hd (cs:=#[.string a0_0,.string a0_1]) (t:=49) ?hr ?_;(case hd=>rfl);(case hg=>rfl);(case hr=>(go_simp;done));intro gb101 hg w7 hbox hb;have BK101:=ζa (hbox);have GW101:=ζa ((by rw [hg];exact (δs (by exact HB.out)):w.heap.size≤gb101));have GE101:=ζa ((by rw [hg];exact (δs (by exact HB.out)):w.heap.size≤gb101));replace HB:=ζa (δr (by exact HB.out) hb);clear hb hbox hg;have hcz8_0:w7.cell? ⟨gb101,0,none⟩=some (.string a0_0):=(δl BK101.out 0).trans rfl;have hcz8_1:w7.cell? ⟨gb101,1,none⟩=some (.string a0_1):=(δl BK101.out 1).trans rfl;have hfz8_0:=δm BK101.out 0;have hfz8_1:=δm BK101.out 1))
   go_ret
   exact ⟨by rfl,by repeat ((with_reducible exact HB.out))⟩
  ·
   rw [if_neg c6] at H
   have c6b0:decide ((ζm ((ζm (a1 - (a0_0.size:Int))) - (a0_1.size:Int)))<0)=φ:=decide_eq_false c6
   clear c6
   obtain rfl:=Option.some.inj H
   go_enter Tryz.func41,Tryz.ntmps41
   go_wp2_with (((with_reducible refine δx (N:=2) rfl ?_);refine δz ?hg (N:=2) ?hd (cs:=#[.string a0_0,.string a0_1]) (t:=49) ?hr ?_;(case hd=>rfl);(case hg=>rfl);(case hr=>(go_simp;done));intro gb101 hg w9 hbox hb;have BK101:=ζa (hbox);have GW101:=ζa ((by rw [hg];exact (δs (by exact HB.out)):w.heap.size≤gb101));have GE101:=ζa ((by rw [hg];exact (δs (by exact HB.out)):w.heap.size≤gb101));replace HB:=ζa (δr (by exact HB.out) hb);clear hb hbox hg;have hcz10_0:w9.cell? ⟨gb101,0,none⟩=some (.string a0_0):=(δl BK101.out 0).trans rfl;have hcz10_1:w9.cell? ⟨gb101,1,none⟩=some (.string a0_1):=(δl BK101.out 1).trans rfl;have hfz10_0:=δm BK101.out 0;have hfz10_1:=δm BK101.out 1))
   go_ret
   exact ⟨by rfl,by repeat ((with_reducible exact HB.out))⟩


open Go.Proofs.YtabmfhnhmoiljaaGreatDoorW.PrintWords renaming gate_callee → δv, below_step → δr
open List renaming map_toArray → δd, map_cons → δe, map_nil → δf

/-! ### laws_szPairS: function 14 -/
def laws_szPairS.l0:Nat→List (S49)→Int→Int→Option (Int)
 | 0,_,_,_=>none
 | k+1,x0,x1,x5=>if x5<(x0.length:Int) then (if 0≤x5 then ((laws_szPair.f ((rd_T49 x0 x5).f0) ((rd_T49 x0 x5).f1) x1).bind fun t103=>(if t103<0 then (some (-1)) else (laws_szPairS.l0 k x0 t103 (ζm (x5+1))))) else (none)) else (some x1)
def laws_szPairS.f (k:Nat) (l0:List (S49)) (a1:Int):Option (Int):=if (ζm (a1 - (l0.length:Int)))<0 then (some (-1)) else (laws_szPairS.l0 k l0 (ζm (a1 - (l0.length:Int))) 0)
set_option maxHeartbeats 8000000 in
set_option maxRecDepth 100000 in
theorem laws_szPairS.calls (k:Nat) (A0:Option Addr) (c0:Nat) (l0:List (S49)) (a1:Int) (r:Int) (w:World) (hr0:Kd.C k49 w A0 l0.length l0) (hc0:l0.length≤c0) (h:laws_szPairS.f k l0 a1=some r) :
  Calls Tryz.prog 14 #[.slice A0 l0.length c0,.int .i64 a1] w fun e w'=>e = .returned (.int .i64 r)∧Below w.heap.size w w':=by
 have hu49:=Tryz.underlying49
 have HR0:=ζa hr0
 have HC0:=ζa hc0
 clear hr0 hc0
 have HB:=ζa (Below.refl w.heap.size w)
 have H:(if (ζm (a1 - (l0.length:Int)))<0 then (some (-1)) else (laws_szPairS.l0 k l0 (ζm (a1 - (l0.length:Int))) 0))=some r:=h
 clear h
 by_cases c3:(ζm (a1 - (l0.length:Int)))<0
 ·
  rw [if_pos c3] at H
  have c3b0:decide ((ζm (a1 - (l0.length:Int)))<0)=τ:=decide_eq_true c3
  clear c3
  obtain rfl:=Option.some.inj H
  go_enter Tryz.func14,Tryz.ntmps14
  go_wp2
  go_ret
  exact ⟨by rfl,by repeat ((with_reducible exact HB.out))⟩
 ·
  rw [if_neg c3] at H
  have c3b0:decide ((ζm (a1 - (l0.length:Int)))<0)=φ:=decide_eq_false c3
  clear c3
  have H':=ζa H
  clear H
  go_enter Tryz.func14,Tryz.ntmps14
  go_wp2
  go_loopg [1,5] k (fun kq v1 v5 w' => ∃ (x1_1:Int) (x5_1:Int),v1 = .int .i64 x1_1∧v5 = .int .i64 x5_1∧Aside0 (laws_szPairS.l0 kq l0 x1_1 x5_1=some r)∧Aside0 (kq≤k)∧Aside0 (Below w.heap.size w w'))
  case atStart=>exact ⟨(ζm (a1 - (l0.length:Int))),(0),(by rfl),(by rfl),H',⟨Nat.le_refl _⟩,⟨by repeat ((with_reducible exact HB.out))⟩⟩
  case round =>
   clear H'
   try clear c1
   try clear p2
   try clear c3
   try clear c3b0
   obtain ⟨x1_1,x5_1,rfl,rfl,HA,HK1,HB⟩:=hrel
   cases gk with
   | zero=>exact absurd HA.out (by simp [laws_szPairS.l0])
   | succ k1 =>
    have H:=HA.out
    clear HA
    simp only [laws_szPairS.l0] at H
    by_cases c4:x5_1<(l0.length:Int)
    ·
     rw [if_pos c4] at H
     have c4b0:decide (x5_1<(l0.length:Int))=τ:=decide_eq_true c4
     clear c4
     by_cases c5:0≤x5_1
     ·
      rw [if_pos c5] at H
      have c5b0:decide (0≤x5_1)=τ:=decide_eq_true c5
      clear c5
      replace H:=Option.bind_eq_some_iff.mp H
      obtain ⟨t103,A60,H⟩:=H
      replace H:(if t103<0 then (some (-1)) else (laws_szPairS.l0 k1 l0 t103 (ζm (x5_1+1))))=some r:=H
      have A6:=ζa A60
      clear A60
      by_cases c7:t103<0
      ·
       rw [if_pos c7] at H
       have c7b0:decide (t103<0)=τ:=decide_eq_true c7
       clear c7
       obtain rfl:=Option.some.inj H
       have p102:0≤(x5_1:Int):=of_decide_eq_true (by (with_reducible assumption))
       have q102:x5_1<(l0.length:Int):=of_decide_eq_true (by (with_reducible assumption))
       obtain ⟨ad102,e102,hx102_0,hx102_1⟩:=at_T49 HR0.out x5_1 p102 q102
       cases e102
       replace hx102_0:=(HB.out.cell (World.block_lt_of_cell? w _ hx102_0)).trans hx102_0
       replace hx102_1:=(HB.out.cell (World.block_lt_of_cell? w _ hx102_1)).trans hx102_1
       replace p102:=eq_true p102
       replace q102:=eq_true q102
       go_wp2_with (((with_reducible refine δv (f:=41) rfl ?_);refine goesL_ (some 23) rfl rfl Tryz.func41 (by kernel_rfl) rfl #[.agg #[.string ((rd_T49 l0 x5_1).f0),.string ((rd_T49 l0 x5_1).f1)],.int .i64 x1_1] rfl (by (try simp only [δd,δe,δf]);rfl) ?_;(with_reducible refine (laws_szPair.calls ((rd_T49 l0 x5_1).f0) ((rd_T49 l0 x5_1).f1) x1_1 t103 _ A6.out).mono ?_);rintro e w8 ⟨rfl,hb⟩;refine ⟨_,rfl,?_⟩;replace HB:=ζa (δr (by exact HB.out) hb);(try clear hb);(try clear hb2);(try clear hk);(try clear hi)))
       go_ret
       exact ⟨by rfl,by repeat ((with_reducible exact HB.out))⟩
      ·
       rw [if_neg c7] at H
       have c7b0:decide (t103<0)=φ:=decide_eq_false c7
       clear c7
       have H':=ζa H
       clear H
       have p102:0≤(x5_1:Int):=of_decide_eq_true (by (with_reducible assumption))
       have q102:x5_1<(l0.length:Int):=of_decide_eq_true (by (with_reducible assumption))
       obtain ⟨ad102,e102,hx102_0,hx102_1⟩:=at_T49 HR0.out x5_1 p102 q102
       cases e102
       replace hx102_0:=(HB.out.cell (World.block_lt_of_cell? w _ hx102_0)).trans hx102_0
       replace hx102_1:=(HB.out.cell (World.block_lt_of_cell? w _ hx102_1)).trans hx102_1
       replace p102:=eq_true p102
       replace q102:=eq_true q102
       go_wp2_with (((with_reducible refine δv (f:=41) rfl ?_);refine goesL_ (some 23) rfl rfl Tryz.func41 (by kernel_rfl) rfl #[.agg #[.string ((rd_T49 l0 x5_1).f0),.string ((rd_T49 l0 x5_1).f1)],.int .i64 x1_1] rfl (by (try simp only [δd,δe,δf]);rfl) ?_;(with_reducible refine (laws_szPair.calls ((rd_T49 l0 x5_1).f0) ((rd_T49 l0 x5_1).f1) x1_1 t103 _ A6.out).mono ?_);rintro e w9 ⟨rfl,hb⟩;refine ⟨_,rfl,?_⟩;replace HB:=ζa (δr (by exact HB.out) hb);(try clear hb);(try clear hb2);(try clear hk);(try clear hi)))
       go_roundg k1
       case measure=>have:=HK1.out;omega
       case rel=>exact ⟨(t103),(ζm (x5_1+1)),(by rfl),(by rfl),H',⟨by have:=HK1.out;omega⟩,⟨by repeat ((with_reducible exact HB.out))⟩⟩
     ·
      rw [if_neg c5] at H
      exact absurd H (by simp)
    ·
     rw [if_neg c4] at H
     have c4b0:decide (x5_1<(l0.length:Int))=φ:=decide_eq_false c4
     clear c4
     obtain rfl:=Option.some.inj H
     go_wp2
     go_ret
     exact ⟨by rfl,by repeat ((with_reducible exact HB.out))⟩


open Go.Proofs.YtabmfhnhmoiljaaGreatDoorW.PrintWords renaming gate_dst → δx, box_event → δz, below_size → δs, below_step → δr, blk_cell → δl, blk_frozen → δm, blk_put → δw, below_set → δq

/-! ### laws_toPair: function 44 -/
def laws_toPair.f (a0_0:ByteArray) (a0_1:ByteArray):Option (ByteArray × ByteArray):=some (a0_0,a0_1)
set_option maxHeartbeats 8000000 in
set_option maxRecDepth 100000 in
theorem laws_toPair.calls (a0_0:ByteArray) (a0_1:ByteArray) (r1:ByteArray) (r2:ByteArray) (w:World) (h:laws_toPair.f a0_0 a0_1=some (r1,r2)) :
  Calls Tryz.prog 44 #[.agg #[.string a0_0,.string a0_1]] w fun e w'=>e = .returned (.agg #[.string r1,.string r2])∧Below w.heap.size w w':=by
 have hu49:=Tryz.underlying49
 have hu51:=Tryz.underlying51
 have HB:=ζa (Below.refl w.heap.size w)
 have H:(some (a0_0,a0_1))=some (r1,r2):=h
 clear h
 simp only [Option.some.injEq,Prod.mk.injEq] at H
 obtain ⟨rfl,rfl⟩:=H
 go_enter Tryz.func44,Tryz.ntmps44
 go_wp2_with (first|((with_reducible refine δx (N:=1) rfl ?_);refine δz ?hg (N:=1) ?hd (cs:=#[.string a0_0,.string a0_1]) (t:=49) ?hr ?_;(case hd=>rfl);(case hg=>rfl);(case hr=>(go_simp;done));intro gb142 hg w2 hbox hb;have BK142:=ζa (hbox);have GW142:=ζa ((by rw [hg];exact (δs (by exact HB.out)):w.heap.size≤gb142));have GE142:=ζa ((by rw [hg];exact (δs (by exact HB.out)):w.heap.size≤gb142));replace HB:=ζa (δr (by exact HB.out) hb);clear hb hbox hg)|((with_reducible refine δx (N:=2) rfl ?_);refine δz ?hg (N:=2) ?hd (cs:=#[.string (⟨#[]⟩:ByteArray),.string (⟨#[]⟩:ByteArray)]) (t:=51) ?hr ?_;(case hd=>rfl);(case hg=>rfl);(case hr=>(go_simp;done));intro gb143 hg w3 hbox hb;have BK143:=ζa (hbox);have GW143:=ζa ((by rw [hg];exact (δs (by exact HB.out)):w.heap.size≤gb143));have GE143:=ζa ((by rw [hg];exact (δs (by exact HB.out)):w.heap.size≤gb143));replace HB:=ζa (δr (by exact HB.out) hb);have NB142_143:=ζa ((by rw [hg];exact Nat.ne_of_lt (blk_lt (g:=gb142) (o:=.cells #[.string a0_0,.string a0_1] 49 (0,0)) (by exact BK142.out)):gb142≠gb143));have NB143_142:=ζa ((by rw [hg];exact Nat.ne_of_gt (blk_lt (g:=gb142) (o:=.cells #[.string a0_0,.string a0_1] 49 (0,0)) (by exact BK142.out)):gb143≠gb142));replace BK142:=ζa (blk_below (g:=gb142) (o:=.cells #[.string a0_0,.string a0_1] 49 (0,0)) (by exact BK142.out) hb);clear hb hbox hg)|((with_reducible refine δx (N:=3) rfl ?_);refine δz ?hg (N:=3) ?hd (cs:=#[.string (⟨#[]⟩:ByteArray),.string (⟨#[]⟩:ByteArray)]) (t:=51) ?hr ?_;(case hd=>rfl);(case hg=>rfl);(case hr=>(go_simp;done));intro gb144 hg w4 hbox hb;have BK144:=ζa (hbox);have GW144:=ζa ((by rw [hg];exact (δs (by exact HB.out)):w.heap.size≤gb144));have GE144:=ζa ((by rw [hg];exact (δs (by exact HB.out)):w.heap.size≤gb144));replace HB:=ζa (δr (by exact HB.out) hb);have NB142_144:=ζa ((by rw [hg];exact Nat.ne_of_lt (blk_lt (g:=gb142) (o:=.cells #[.string a0_0,.string a0_1] 49 (0,0)) (by exact BK142.out)):gb142≠gb144));have NB144_142:=ζa ((by rw [hg];exact Nat.ne_of_gt (blk_lt (g:=gb142) (o:=.cells #[.string a0_0,.string a0_1] 49 (0,0)) (by exact BK142.out)):gb144≠gb142));replace BK142:=ζa (blk_below (g:=gb142) (o:=.cells #[.string a0_0,.string a0_1] 49 (0,0)) (by exact BK142.out) hb);have NB143_144:=ζa ((by rw [hg];exact Nat.ne_of_lt (blk_lt (g:=gb143) (o:=.cells #[.string (⟨#[]⟩:ByteArray),.string (⟨#[]⟩:ByteArray)] 51 (0,0)) (by exact BK143.out)):gb143≠gb144));have NB144_143:=ζa ((by rw [hg];exact Nat.ne_of_gt (blk_lt (g:=gb143) (o:=.cells #[.string (⟨#[]⟩:ByteArray),.string (⟨#[]⟩:ByteArray)] 51 (0,0)) (by exact BK143.out)):gb144≠gb143));replace BK143:=ζa (blk_below (g:=gb143) (o:=.cells #[.string (⟨#[]⟩:ByteArray),.string (⟨#[]⟩:ByteArray)] 51 (0,0)) (by exact BK143.out) hb);clear hb hbox hg;have hnb5:=NB142_143.out;have hnc5:=NB143_142.out;have hnb6:=NB142_144.out;have hnc6:=NB144_142.out;have hcz7_0:w4.cell? ⟨gb142,0,none⟩=some (.string a0_0):=(δl BK142.out 0).trans rfl;have hcz7_1:w4.cell? ⟨gb142,1,none⟩=some (.string a0_1):=(δl BK142.out 1).trans rfl;have hfz7_0:=δm BK142.out 0;have hfz7_1:=δm BK142.out 1;have hnb8:=NB144_143.out;have hnc8:=NB143_144.out;have hcz9_0:w4.cell? ⟨gb144,0,none⟩=some (.string (⟨#[]⟩:ByteArray)):=(δl BK144.out 0).trans rfl;have hcz9_1:w4.cell? ⟨gb144,1,none⟩=some (.string (⟨#[]⟩:ByteArray)):=(δl BK144.out 1).trans rfl;have hfz9_0:=δm BK144.out 0;have hfz9_1:=δm BK144.out 1;have hcz10_0:w4.cell? ⟨gb143,0,none⟩=some (.string (⟨#[]⟩:ByteArray)):=(δl BK143.out 0).trans rfl;have hcz10_1:w4.cell? ⟨gb143,1,none⟩=some (.string (⟨#[]⟩:ByteArray)):=(δl BK143.out 1).trans rfl;have hfz10_0:=δm BK143.out 0;have hfz10_1:=δm BK143.out 1))
 refine bodyPost_ret (results_cell_row rfl _ _ gb143 51 #[.string a0_0,.string a0_1] (0,0) _ rfl (by refine δw (cs:=#[.string a0_0,.string (⟨#[]⟩:ByteArray)]) ?_ 1 _ rfl;refine δw (cs:=#[.string (⟨#[]⟩:ByteArray),.string (⟨#[]⟩:ByteArray)]) ?_ 0 _ rfl;refine blk_far ?_ NB143_144.out _;refine blk_far ?_ NB143_144.out _;exact BK143.out) Tryz.underlying51 rfl (by kernel_rfl)) rfl ?_
 exact ⟨by rfl,by repeat ((with_reducible first|exact HB.out|refine δq ?_ GE143.out|refine δq ?_ GE144.out))⟩


open Go.Proofs.YtabmfhnhmoiljaaGreatDoorW.PrintWords renaming gate_dst → δx, below_size → δs, below_step → δr, gate_callee → δv, below_set → δq
open Go.Proofs.YtabmfhnhmoiljaaGreatDoorW.PrintWords.Kd renaming R_below → ζh

/-! ### laws_toPairS: function 16 -/
def laws_toPairS.l0:Nat→List (S49)→List (S51)→Int→Option ((List (S51)))
 | 0,_,_,_=>none
 | k+1,x0,x3,x4=>if x4<(x0.length:Int) then (if 0≤x4 then ((laws_toPair.f ((rd_T49 x0 x4).f0) ((rd_T49 x0 x4).f1)).bind fun bt149=>(if x4<(x3.length:Int) then (laws_toPairS.l0 k x0 (x3.set (x4:Int).toNat (⟨bt149.1,bt149.2⟩:S51)) (ζm (x4+1))) else (none))) else (none)) else (some x3)
def laws_toPairS.f (k:Nat) (l0:List (S49)):Option ((List (S51))):=if 0≤(l0.length:Int) then (if ((l0.length:Int):Int).toNat≤8796093022208 then (laws_toPairS.l0 k l0 (List.replicate ((l0.length:Int):Int).toNat z51) 0) else (none)) else (none)
set_option maxHeartbeats 8000000 in
set_option maxRecDepth 100000 in
theorem laws_toPairS.calls (k:Nat) (A0:Option Addr) (c0:Nat) (l0:List (S49)) (r:List (S51)) (w:World) (hr0:Kd.C k49 w A0 l0.length l0) (hc0:l0.length≤c0) (h:laws_toPairS.f k l0=some r) :
  Calls Tryz.prog 16 #[.slice A0 l0.length c0] w fun e w' => ∃ v0_:Value,e = .returned (v0_)∧Kd.R k51 51 w' w.heap.size (fun _=>True) v0_ r∧Below w.heap.size w w':=by
 have hu49:=Tryz.underlying49
 have hu51:=Tryz.underlying51
 have HR0:=ζa hr0
 have HC0:=ζa hc0
 clear hr0 hc0
 have HB:=ζa (Below.refl w.heap.size w)
 have H:(if 0≤(l0.length:Int) then (if ((l0.length:Int):Int).toNat≤8796093022208 then (laws_toPairS.l0 k l0 (List.replicate ((l0.length:Int):Int).toNat z51) 0) else (none)) else (none))=some r:=h
 clear h
 by_cases c2:0≤(l0.length:Int)
 ·
  rw [if_pos c2] at H
  have c2b0:=eq_true c2
  have c2b1:decide (0≤(l0.length:Int))=τ:=decide_eq_true c2
  clear c2
  by_cases c3:((l0.length:Int):Int).toNat≤8796093022208
  ·
   rw [if_pos c3] at H
   have c3b0:=eq_true c3
   have c3b1:decide (((l0.length:Int):Int).toNat≤8796093022208)=τ:=decide_eq_true c3
   clear c3
   obtain ⟨y145,hy145⟩ : ∃ y_:List (S51),y_=(List.replicate ((l0.length:Int):Int).toNat z51):=⟨_,rfl⟩
   replace H:(laws_toPairS.l0 k l0 y145 0)=some r:=by (rw [hy145];with_reducible exact H)
   have Ny145:=ζa hy145
   clear hy145
   have H':=ζa H
   clear H
   go_enter Tryz.func16,Tryz.ntmps16
   go_wp2_with (((with_reducible refine δx (N:=7) rfl ?_);refine Kd.R_make k51 _ 51 rfl (N:=7) rfl 24 _ _ rfl (l0.length:Int) rfl rfl Tryz.underlying24 (.agg #[(.string ⟨#[]⟩),(.string ⟨#[]⟩)]) 32 info51 rfl (by decide) (by omega) z51 (ok:=fun _=>True) (okp:=fun _=>True) (k51_mkM _ _ _ z51 ) (fun _ hk=>hk) trivial (of_decide_eq_true (by (with_reducible assumption))) (Nat.le_trans (Nat.mul_le_mul_right _ (of_decide_eq_true (by (with_reducible assumption)):(l0.length:Int).toNat≤8796093022208)) (by omega)) (Below.refl _ _) (Nat.le_refl _) ?_;intro v146 w4 ho5 hb hg_ hnew_;clear hg_ hnew_;(rw [← Ny145.out] at ho5);have HO147:=ζa (Kd.R_lower ho5 (δs (by exact HB.out)));replace HB:=ζa (δr (by exact HB.out) hb);clear hb ho5))
   go_loopg [4] k (fun kq v4 w' => ∃ (x3_1:List (S51)) (x4_1:Int),v4 = .int .i64 x4_1∧Aside0 (laws_toPairS.l0 kq l0 x3_1 x4_1=some r)∧Aside0 (kq≤k)∧Aside0 (Kd.R k51 51 w' w.heap.size (fun _=>True) v146 x3_1)∧Aside0 (Below w.heap.size w w'))
   case atStart=>exact ⟨(y145),(0),(by rfl),H',⟨Nat.le_refl _⟩,⟨by exact HO147.out⟩,⟨by repeat ((with_reducible exact HB.out))⟩⟩
   case round =>
    clear H'
    try clear c1
    try clear c2
    try clear c2b0
    try clear c2b1
    try clear p2
    try clear c3
    try clear c3b0
    try clear c3b1
    obtain ⟨x3_1,x4_1,rfl,HA,HK1,HO_3,HB⟩:=hrel
    cases gk with
    | zero=>exact absurd HA.out (by simp [laws_toPairS.l0])
    | succ k1 =>
     have H:=HA.out
     clear HA
     simp only [laws_toPairS.l0] at H
     by_cases c6:x4_1<(l0.length:Int)
     ·
      rw [if_pos c6] at H
      have c6b0:decide (x4_1<(l0.length:Int))=τ:=decide_eq_true c6
      clear c6
      by_cases c7:0≤x4_1
      ·
       rw [if_pos c7] at H
       have c7b0:decide (0≤x4_1)=τ:=decide_eq_true c7
       clear c7
       replace H:=Option.bind_eq_some_iff.mp H
       obtain ⟨⟨t149,t150⟩,A80,H⟩:=H
       replace H:(if x4_1<(x3_1.length:Int) then (laws_toPairS.l0 k1 l0 (x3_1.set (x4_1:Int).toNat (⟨t149,t150⟩:S51)) (ζm (x4_1+1))) else (none))=some r:=H
       have A8:=ζa A80
       clear A80
       by_cases c9:x4_1<(x3_1.length:Int)
       ·
        rw [if_pos c9] at H
        have c9b0:decide (x4_1<(x3_1.length:Int))=τ:=decide_eq_true c9
        clear c9
        obtain ⟨y151,hy151⟩ : ∃ y_:List (S51),y_=(x3_1.set (x4_1:Int).toNat (⟨t149,t150⟩:S51)):=⟨_,rfl⟩
        replace H:(laws_toPairS.l0 k1 l0 y151 (ζm (x4_1+1)))=some r:=by (rw [hy151];with_reducible exact H)
        have Ny151:=ζa hy151
        clear hy151
        have H':=ζa H
        clear H
        have p148:0≤(x4_1:Int):=of_decide_eq_true (by (with_reducible assumption))
        have q148:x4_1<(l0.length:Int):=of_decide_eq_true (by (with_reducible assumption))
        obtain ⟨ad148,e148,hx148_0,hx148_1⟩:=at_T49 HR0.out x4_1 p148 q148
        cases e148
        replace hx148_0:=(HB.out.cell (World.block_lt_of_cell? w _ hx148_0)).trans hx148_0
        replace hx148_1:=(HB.out.cell (World.block_lt_of_cell? w _ hx148_1)).trans hx148_1
        replace p148:=eq_true p148
        replace q148:=eq_true q148
        go_wp2_with (first|((with_reducible refine δv (f:=44) rfl ?_);refine goesL_ (some 20) rfl rfl Tryz.func44 (by kernel_rfl) rfl #[.agg #[.string ((rd_T49 l0 x4_1).f0),.string ((rd_T49 l0 x4_1).f1)]] rfl (by (try simp only [δd,δe,δf]);rfl) ?_;(with_reducible refine (laws_toPair.calls ((rd_T49 l0 x4_1).f0) ((rd_T49 l0 x4_1).f1) t149 t150 _ A8.out).mono ?_);rintro e w11 ⟨rfl,hb⟩;refine ⟨_,rfl,?_⟩;replace HO_3:=ζa (ζh (by exact HO_3.out) hb);replace HB:=ζa (δr (by exact HB.out) hb);(try clear hb);(try clear hb2);(try clear hk);(try clear hi);have p10:0≤(x4_1:Int):=of_decide_eq_true (by (with_reducible assumption));have q10:(x4_1:Int)<((x3_1.length:Int):Int):=of_decide_eq_true (by (with_reducible assumption));obtain ⟨go10,co10,eo10,gb10,gl10,cl10,HG10⟩:=Kd.R_form HO_3.out (by omega);(cases eo10);have GB10:=ζa gb10;have GG10:=ζa HG10;clear gb10 gl10 HG10;obtain ⟨ce10,hcl10,hM10,hcc10,hfr10⟩:=Kd.R_elem HO_3.out z51 (x4_1:Int) p10 q10;obtain rfl:=k51_openM hM10;have hx10_0:w11.cell? ⟨go10,(x4_1:Int).toNat * 2,none⟩=some (.string ((rd_T51 x3_1 x4_1).f0)):=hcc10 0 _ rfl;have hx10_1:w11.cell? ⟨go10,(x4_1:Int).toNat * 2+1,none⟩=some (.string ((rd_T51 x3_1 x4_1).f1)):=hcc10 1 _ rfl;have hf10_0:w11.frozen? ⟨go10,(x4_1:Int).toNat * 2,none⟩=φ:=hfr10 0;have hf10_1:w11.frozen? ⟨go10,(x4_1:Int).toNat * 2+1,none⟩=φ:=hfr10 1;clear hcl10 hcc10 hfr10 hM10;replace p10:=eq_true p10;replace q10:=eq_true q10;have HX12:=ζa (show Kd.R k51 51 w11 w.heap.size (fun _=>True) (.slice (some ⟨go10,0,none⟩) x3_1.length co10) x3_1 from (by exact HO_3.out));obtain ⟨ce12,hcl12,hM12,hcc12,hfr12⟩:=Kd.R_elem HX12.out z51 (x4_1:Int) (of_decide_eq_true (by (with_reducible assumption))) (by have h_:(x4_1:Int)<((x3_1.length:Int):Int):=of_decide_eq_true (by (with_reducible assumption));exact h_);obtain rfl:=k51_openM hM12;have HP12:=Kd.R_seg HX12.out (x4_1:Int) (of_decide_eq_true (by (with_reducible assumption))) (by have h_:(x4_1:Int)<((x3_1.length:Int):Int):=of_decide_eq_true (by (with_reducible assumption));exact h_) (seg:=[.string t149,.string t150]) (j:=0) hcl12 hcc12 (show 2≤2 from by decide) (x':=(⟨t149,t150⟩:S51)) (k51_mkM _ _ _ (⟨t149,t150⟩:S51) ) (fun _ hk=>hk);have hx12_0:=hcc12 0 _ rfl;(try simp only [show (k51).sz=2 from rfl,Nat.mul_one,Nat.add_zero] at hx12_0);have hf12_0:=hfr12 0;(try simp only [show (k51).sz=2 from rfl,Nat.mul_one,Nat.add_zero] at hf12_0);have hx12_1:=hcc12 1 _ rfl;(try simp only [show (k51).sz=2 from rfl,Nat.mul_one,Nat.add_zero] at hx12_1);have hf12_1:=hfr12 1;(try simp only [show (k51).sz=2 from rfl,Nat.mul_one,Nat.add_zero] at hf12_1);clear hcl12 hcc12 hfr12 hM12)|((with_reducible refine gate_store (t:=51) (p:=21) rfl ?_);refine store_event (t:=51) (p:=21) (v:=?vo_w13) (w1:=((w11.setCell ⟨go10,(x4_1:Int).toNat * 2,none⟩ (.string t149)).setCell ⟨go10,(x4_1:Int).toNat * 2+1,none⟩ (.string t150))) ?hg ?ho ?hn ?hr ?_;(case ho=>rfl);(case hg=>rfl);(case hn=>rfl);(case hr=>(go_simp;done));intro w13 hw;have hg:w11.grownBy w13 (some go10):=(by rw [hw];exact HP12.2);have hp_:Kd.R k51 51 w13 w.heap.size (fun _=>True) (.slice (some ⟨go10,0,none⟩) x3_1.length co10) y151:=(by rw [hw,Ny151.out];exact HP12.1);clear HP12;replace HO_3:=ζa (hp_);replace HB:=ζa ((by rw [hw];exact δq (δq (HB.out) GB10.out) GB10.out:Below w.heap.size w w13));clear hg hw hp_))
        go_roundg k1
        case measure=>have:=HK1.out;omega
        case rel=>exact ⟨(y151),(ζm (x4_1+1)),(by rfl),H',⟨by have:=HK1.out;omega⟩,⟨by exact HO_3.out⟩,⟨by repeat ((with_reducible exact HB.out))⟩⟩
       ·
        rw [if_neg c9] at H
        exact absurd H (by simp)
      ·
       rw [if_neg c7] at H
       exact absurd H (by simp)
     ·
      rw [if_neg c6] at H
      have c6b0:decide (x4_1<(l0.length:Int))=φ:=decide_eq_false c6
      clear c6
      obtain rfl:=Option.some.inj H
      go_wp2
      go_ret
      exact ⟨_,by rfl,by exact HO_3.out,by repeat ((with_reducible exact HB.out))⟩
  ·
   rw [if_neg c3] at H
   exact absurd H (by simp)
 ·
  rw [if_neg c2] at H
  exact absurd H (by simp)



/-! ### strconv_Itoa: function 190 -/
/-- The table of powers of ten, and the two errors of reading, lie in memory, and go on lying there. -/
def ErrBelow (w : World) (name : String) : Prop := ∃ tp p, ∀ w', Below w.heap.size w w' → w'.var? Tryz.prog name = some #[.iface tp p]
def TabsOK (w : World) : Prop := Lib.TabBelow Tryz.prog w.heap.size w "internal/strconv.uint64pow10" .u64 Lib.pow10Tab ∧ ErrBelow w "strconv.ErrSyntax" ∧ ErrBelow w "strconv.ErrRange"
theorem ErrBelow.below {w w' : World} {name : String} (h : ErrBelow w name) (hb : Below w.heap.size w w') : ErrBelow w' name := by
  obtain ⟨tp, p, h⟩ := h
  exact ⟨tp, p, fun w2 hb2 => h w2 (below_step hb hb2)⟩
theorem ErrBelow.of_var {w : World} {name : String} {tp : TypeId} {p : Value} (h : w.var? Tryz.prog name = some #[.iface tp p]) : ErrBelow w name := ⟨tp, p, fun w' hb => by
  unfold World.var? at *
  cases hg : Tryz.prog.globalNamed name with
  | none => simp [hg] at h
  | some g =>
    simp only [hg, Option.bind_some] at h ⊢
    have hlt : g < w.heap.size := by
      rcases Nat.lt_or_ge g w.heap.size with h' | h'
      · exact h'
      · rw [Array.getElem?_eq_none h'] at h; simp at h
    rw [hb.block g hlt]
    exact h⟩
theorem TabsOK.below {w w' : World} (h : TabsOK w) (hb : Below w.heap.size w w') : TabsOK w' := ⟨fun w2 hb2 => h.1 w2 (below_step hb hb2), h.2.1.below hb, h.2.2.below hb⟩
def strconv_Itoa.f (a0 : Int) : Option ByteArray := if -9223372036854775808 ≤ a0 then (if a0 ≤ 9223372036854775807 then some ⟨(Lib.itoa a0).toArray⟩ else none) else none
theorem strconv_Itoa.calls (a0 : Int) (r : ByteArray) (w : World) (hT0 : TabsOK w) (h : strconv_Itoa.f a0 = some r) :
    Calls Tryz.prog 190 #[.int .i64 a0] w fun e w' => e = .returned (.string r) ∧ Below w.heap.size w w' := by
  unfold strconv_Itoa.f at h
  by_cases h1 : -9223372036854775808 ≤ a0
  · rw [if_pos h1] at h
    by_cases h2 : a0 ≤ 9223372036854775807
    · rw [if_pos h2] at h
      obtain rfl := Option.some.inj h
      refine (Tryz.strconv_Itoa a0 h1 h2 w hT0.1.here).mono ?_
      rintro e w' ⟨rfl, k, os, rfl⟩
      exact ⟨rfl, Lib.below_grow w.heap.size w (Nat.le_refl _) k os⟩
    · rw [if_neg h2] at h; cases h
  · rw [if_neg h1] at h; cases h



/-! ### laws_eqPair: function 47 -/
def laws_eqPair.f (a0_0:ByteArray) (a0_1:ByteArray) (a1_0:ByteArray) (a1_1:ByteArray):Option (Bool):=if a0_0.toList=a1_0.toList then (if a0_1.toList=a1_1.toList then (some τ) else (some φ)) else (some φ)
set_option maxHeartbeats 8000000 in
set_option maxRecDepth 100000 in
theorem laws_eqPair.calls (a0_0:ByteArray) (a0_1:ByteArray) (a1_0:ByteArray) (a1_1:ByteArray) (r:Bool) (w:World) (h:laws_eqPair.f a0_0 a0_1 a1_0 a1_1=some r) :
  Calls Tryz.prog 47 #[.agg #[.string a0_0,.string a0_1],.agg #[.string a1_0,.string a1_1]] w fun e w'=>e = .returned (.bool r)∧Below w.heap.size w w':=by
 have hu51:=Tryz.underlying51
 have HB:=ζa (Below.refl w.heap.size w)
 have H:(if a0_0.toList=a1_0.toList then (if a0_1.toList=a1_1.toList then (some τ) else (some φ)) else (some φ))=some r:=h
 clear h
 by_cases c3:a0_0.toList=a1_0.toList
 ·
  rw [if_pos c3] at H
  have c3b0:(a0_0.toList == a1_0.toList)=τ:=beq_iff_eq.mpr c3
  have c3b1:(a0_0.toList != a1_0.toList)=φ:=bne_eq_false_iff_eq.mpr c3
  clear c3
  by_cases c4:a0_1.toList=a1_1.toList
  ·
   rw [if_pos c4] at H
   have c4b0:(a0_1.toList == a1_1.toList)=τ:=beq_iff_eq.mpr c4
   have c4b1:(a0_1.toList != a1_1.toList)=φ:=bne_eq_false_iff_eq.mpr c4
   clear c4
   obtain rfl:=Option.some.inj H
   go_enter Tryz.func47,Tryz.ntmps47
   go_wp2_with (first|((with_reducible refine δx (N:=2) rfl ?_);refine δz ?hg (N:=2) ?hd (cs:=#[.string a0_0,.string a0_1]) (t:=51) ?hr ?_;(case hd=>rfl);(case hg=>rfl);(case hr=>(go_simp;done));intro gb262 hg w5 hbox hb;have BK262:=ζa (hbox);have GW262:=ζa ((by rw [hg];exact (δs (by exact HB.out)):w.heap.size≤gb262));have GE262:=ζa ((by rw [hg];exact (δs (by exact HB.out)):w.heap.size≤gb262));replace HB:=ζa (δr (by exact HB.out) hb);clear hb hbox hg)|((with_reducible refine δx (N:=3) rfl ?_);refine δz ?hg (N:=3) ?hd (cs:=#[.string a1_0,.string a1_1]) (t:=51) ?hr ?_;(case hd=>rfl);(case hg=>rfl);(case hr=>(go_simp;done));intro gb263 hg w6 hbox hb;have BK263:=ζa (hbox);have GW263:=ζa ((by rw [hg];exact (δs (by exact HB.out)):w.heap.size≤gb263));have GE263:=ζa ((by rw [hg];exact (δs (by exact HB.out)):w.heap.size≤gb263));replace HB:=ζa (δr (by exact HB.out) hb);have NB262_263:=ζa ((by rw [hg];exact Nat.ne_of_lt (blk_lt (g:=gb262) (o:=.cells #[.string a0_0,.string a0_1] 51 (0,0)) (by exact BK262.out)):gb262≠gb263));have NB263_262:=ζa ((by rw [hg];exact Nat.ne_of_gt (blk_lt (g:=gb262) (o:=.cells #[.string a0_0,.string a0_1] 51 (0,0)) (by exact BK262.out)):gb263≠gb262));replace BK262:=ζa (blk_below (g:=gb262) (o:=.cells #[.string a0_0,.string a0_1] 51 (0,0)) (by exact BK262.out) hb);clear hb hbox hg;have hnb7:=NB262_263.out;have hnc7:=NB263_262.out;have hcz8_0:w6.cell? ⟨gb262,0,none⟩=some (.string a0_0):=(δl BK262.out 0).trans rfl;have hcz8_1:w6.cell? ⟨gb262,1,none⟩=some (.string a0_1):=(δl BK262.out 1).trans rfl;have hfz8_0:=δm BK262.out 0;have hfz8_1:=δm BK262.out 1;have hcz9_0:w6.cell? ⟨gb263,0,none⟩=some (.string a1_0):=(δl BK263.out 0).trans rfl;have hcz9_1:w6.cell? ⟨gb263,1,none⟩=some (.string a1_1):=(δl BK263.out 1).trans rfl;have hfz9_0:=δm BK263.out 0;have hfz9_1:=δm BK263.out 1))
   go_ret
   exact ⟨by rfl,by repeat ((with_reducible exact HB.out))⟩
  ·
   rw [if_neg c4] at H
   have c4b0:(a0_1.toList == a1_1.toList)=φ:=beq_eq_false_iff_ne.mpr c4
   have c4b1:(a0_1.toList != a1_1.toList)=τ:=bne_iff_ne.mpr c4
   obtain rfl:=Option.some.inj H
   go_enter Tryz.func47,Tryz.ntmps47
   go_wp2_with (first|((with_reducible refine δx (N:=2) rfl ?_);refine δz ?hg (N:=2) ?hd (cs:=#[.string a0_0,.string a0_1]) (t:=51) ?hr ?_;(case hd=>rfl);(case hg=>rfl);(case hr=>(go_simp;done));intro gb262 hg w10 hbox hb;have BK262:=ζa (hbox);have GW262:=ζa ((by rw [hg];exact (δs (by exact HB.out)):w.heap.size≤gb262));have GE262:=ζa ((by rw [hg];exact (δs (by exact HB.out)):w.heap.size≤gb262));replace HB:=ζa (δr (by exact HB.out) hb);clear hb hbox hg)|((with_reducible refine δx (N:=3) rfl ?_);refine δz ?hg (N:=3) ?hd (cs:=#[.string a1_0,.string a1_1]) (t:=51) ?hr ?_;(case hd=>rfl);(case hg=>rfl);(case hr=>(go_simp;done));intro gb263 hg w11 hbox hb;have BK263:=ζa (hbox);have GW263:=ζa ((by rw [hg];exact (δs (by exact HB.out)):w.heap.size≤gb263));have GE263:=ζa ((by rw [hg];exact (δs (by exact HB.out)):w.heap.size≤gb263));replace HB:=ζa (δr (by exact HB.out) hb);have NB262_263:=ζa ((by rw [hg];exact Nat.ne_of_lt (blk_lt (g:=gb262) (o:=.cells #[.string a0_0,.string a0_1] 51 (0,0)) (by exact BK262.out)):gb262≠gb263));have NB263_262:=ζa ((by rw [hg];exact Nat.ne_of_gt (blk_lt (g:=gb262) (o:=.cells #[.string a0_0,.string a0_1] 51 (0,0)) (by exact BK262.out)):gb263≠gb262));replace BK262:=ζa (blk_below (g:=gb262) (o:=.cells #[.string a0_0,.string a0_1] 51 (0,0)) (by exact BK262.out) hb);clear hb hbox hg;have hnb12:=NB262_263.out;have hnc12:=NB263_262.out;have hcz13_0:w11.cell? ⟨gb262,0,none⟩=some (.string a0_0):=(δl BK262.out 0).trans rfl;have hcz13_1:w11.cell? ⟨gb262,1,none⟩=some (.string a0_1):=(δl BK262.out 1).trans rfl;have hfz13_0:=δm BK262.out 0;have hfz13_1:=δm BK262.out 1;have hcz14_0:w11.cell? ⟨gb263,0,none⟩=some (.string a1_0):=(δl BK263.out 0).trans rfl;have hcz14_1:w11.cell? ⟨gb263,1,none⟩=some (.string a1_1):=(δl BK263.out 1).trans rfl;have hfz14_0:=δm BK263.out 0;have hfz14_1:=δm BK263.out 1))
   go_ret
   exact ⟨by rfl,by repeat ((with_reducible exact HB.out))⟩
 ·
  rw [if_neg c3] at H
  have c3b0:(a0_0.toList == a1_0.toList)=φ:=beq_eq_false_iff_ne.mpr c3
  have c3b1:(a0_0.toList != a1_0.toList)=τ:=bne_iff_ne.mpr c3
  obtain rfl:=Option.some.inj H
  go_enter Tryz.func47,Tryz.ntmps47
  go_wp2_with (first|((with_reducible refine δx (N:=2) rfl ?_);refine δz ?hg (N:=2) ?hd (cs:=#[.string a0_0,.string a0_1]) (t:=51) ?hr ?_;(case hd=>rfl);(case hg=>rfl);(case hr=>(go_simp;done));intro gb262 hg w15 hbox hb;have BK262:=ζa (hbox);have GW262:=ζa ((by rw [hg];exact (δs (by exact HB.out)):w.heap.size≤gb262));have GE262:=ζa ((by rw [hg];exact (δs (by exact HB.out)):w.heap.size≤gb262));replace HB:=ζa (δr (by exact HB.out) hb);clear hb hbox hg)|((with_reducible refine δx (N:=3) rfl ?_);refine δz ?hg (N:=3) ?hd (cs:=#[.string a1_0,.string a1_1]) (t:=51) ?hr ?_;(case hd=>rfl);(case hg=>rfl);(case hr=>(go_simp;done));intro gb263 hg w16 hbox hb;have BK263:=ζa (hbox);have GW263:=ζa ((by rw [hg];exact (δs (by exact HB.out)):w.heap.size≤gb263));have GE263:=ζa ((by rw [hg];exact (δs (by exact HB.out)):w.heap.size≤gb263));replace HB:=ζa (δr (by exact HB.out) hb);have NB262_263:=ζa ((by rw [hg];exact Nat.ne_of_lt (blk_lt (g:=gb262) (o:=.cells #[.string a0_0,.string a0_1] 51 (0,0)) (by exact BK262.out)):gb262≠gb263));have NB263_262:=ζa ((by rw [hg];exact Nat.ne_of_gt (blk_lt (g:=gb262) (o:=.cells #[.string a0_0,.string a0_1] 51 (0,0)) (by exact BK262.out)):gb263≠gb262));replace BK262:=ζa (blk_below (g:=gb262) (o:=.cells #[.string a0_0,.string a0_1] 51 (0,0)) (by exact BK262.out) hb);clear hb hbox hg;have hnb17:=NB262_263.out;have hnc17:=NB263_262.out;have hcz18_0:w16.cell? ⟨gb262,0,none⟩=some (.string a0_0):=(δl BK262.out 0).trans rfl;have hcz18_1:w16.cell? ⟨gb262,1,none⟩=some (.string a0_1):=(δl BK262.out 1).trans rfl;have hfz18_0:=δm BK262.out 0;have hfz18_1:=δm BK262.out 1;have hcz19_0:w16.cell? ⟨gb263,0,none⟩=some (.string a1_0):=(δl BK263.out 0).trans rfl;have hcz19_1:w16.cell? ⟨gb263,1,none⟩=some (.string a1_1):=(δl BK263.out 1).trans rfl;have hfz19_0:=δm BK263.out 0;have hfz19_1:=δm BK263.out 1))
  go_ret
  exact ⟨by rfl,by repeat ((with_reducible exact HB.out))⟩


open Go.Proofs.YtabmfhnhmoiljaaGreatDoorW.PrintWords renaming below_drew1 → δj, below_step → δr
open Go.Proofs.YtabmfhnhmoiljaaGreatDoorW.PrintLast renaming pure_ → ζk, any_of → ζj
open Go.Act renaming put → ζl
open List renaming setIfInBounds_toArray → δa, set_cons_zero → δb, set_cons_succ → δc, map_toArray → δd, map_cons → δe, map_nil → δf

/-! ### laws_eqPairS: function 18 -/
def laws_eqPairS.l0:Nat→List (S51)→List (S51)→Int→Option (Bool)
 | 0,_,_,_=>none
 | k+1,x0,x1,x5=>if x5<(x0.length:Int) then (if 0≤x5 then (if x5<(x1.length:Int) then ((laws_eqPair.f ((rd_T51 x0 x5).f0) ((rd_T51 x0 x5).f1) ((rd_T51 x1 x5).f0) ((rd_T51 x1 x5).f1)).bind fun t266=>(if t266=τ then (laws_eqPairS.l0 k x0 x1 (ζm (x5+1))) else (some φ))) else (none)) else (none)) else (some τ)
def laws_eqPairS.f (k:Nat) (l0:List (S51)) (l1:List (S51)):Option (Bool):=if (l0.length:Int)=(l1.length:Int) then (laws_eqPairS.l0 k l0 l1 0) else (some φ)
def laws_eqPairS.T6:Bool × List (List Nat × List Nat):=(τ,[([],[]),([],[]),([0,1],[0,1]),([2],[2]),([],[]),([],[]),([4,5],[4,5]),([6],[6]),([3,7],[3,7]),([8],[8])])
def laws_eqPairS.B6:List Nat:=[0,0,3,7,0,0,48,112,255,511]
theorem laws_eqPairS.tab6:rtab .any (opsOf Tryz.f18 6)=laws_eqPairS.T6:=by kernel_rfl
theorem laws_eqPairS.bits6:waitsOk laws_eqPairS.T6.2 laws_eqPairS.B6=τ:=by kernel_rfl
set_option maxHeartbeats 8000000 in
set_option maxRecDepth 100000 in
theorem laws_eqPairS.calls (k:Nat) (A0:Option Addr) (c0:Nat) (l0:List (S51)) (A1:Option Addr) (c1:Nat) (l1:List (S51)) (r:Bool) (w:World) (hr0:Kd.C k51 w A0 l0.length l0) (hc0:l0.length≤c0) (hr1:Kd.C k51 w A1 l1.length l1) (hc1:l1.length≤c1) (h:laws_eqPairS.f k l0 l1=some r) :
  Calls Tryz.prog 18 #[.slice A0 l0.length c0,.slice A1 l1.length c1] w fun e w'=>e = .returned (.bool r)∧Below w.heap.size w w':=by
 have hu51:=Tryz.underlying51
 have HR0:=ζa hr0
 have HC0:=ζa hc0
 clear hr0 hc0
 have HR1:=ζa hr1
 have HC1:=ζa hc1
 clear hr1 hc1
 have HB:=ζa (Below.refl w.heap.size w)
 have H:(if (l0.length:Int)=(l1.length:Int) then (laws_eqPairS.l0 k l0 l1 0) else (some φ))=some r:=h
 clear h
 by_cases c3:(l0.length:Int)=(l1.length:Int)
 ·
  rw [if_pos c3] at H
  have c3b0:((l0.length:Int) == (l1.length:Int))=τ:=beq_iff_eq.mpr c3
  have c3b1:((l0.length:Int) != (l1.length:Int))=φ:=bne_eq_false_iff_eq.mpr c3
  have c3b2:(l0.length == l1.length)=τ:=by (simp at c3 ⊢;omega)
  clear c3
  have H':=ζa H
  clear H
  go_enter Tryz.func18,Tryz.ntmps18
  go_wp2
  go_loopg [5] k (fun kq v5 w' => ∃ (x5_1:Int),v5 = .int .i64 x5_1∧Aside0 (laws_eqPairS.l0 kq l0 l1 x5_1=some r)∧Aside0 (kq≤k)∧Aside0 (Below w.heap.size w w'))
  case atStart=>exact ⟨(0),(by rfl),H',⟨Nat.le_refl _⟩,⟨by repeat ((with_reducible exact HB.out))⟩⟩
  case round =>
   clear H'
   try clear c1
   try clear p2
   try clear c3
   try clear c3b0
   try clear c3b1
   try clear c3b2
   obtain ⟨x5_1,rfl,HA,HK1,HB⟩:=hrel
   cases gk with
   | zero=>exact absurd HA.out (by simp [laws_eqPairS.l0])
   | succ k1 =>
    have H:=HA.out
    clear HA
    simp only [laws_eqPairS.l0] at H
    by_cases c4:x5_1<(l0.length:Int)
    ·
     rw [if_pos c4] at H
     have c4b0:decide (x5_1<(l0.length:Int))=τ:=decide_eq_true c4
     clear c4
     by_cases c5:0≤x5_1
     ·
      rw [if_pos c5] at H
      have c5b0:decide (0≤x5_1)=τ:=decide_eq_true c5
      clear c5
      by_cases c6:x5_1<(l1.length:Int)
      ·
       rw [if_pos c6] at H
       have c6b0:decide (x5_1<(l1.length:Int))=τ:=decide_eq_true c6
       clear c6
       replace H:=Option.bind_eq_some_iff.mp H
       obtain ⟨t266,A70,H⟩:=H
       replace H:(if t266=τ then (laws_eqPairS.l0 k1 l0 l1 (ζm (x5_1+1))) else (some φ))=some r:=H
       have A7:=ζa A70
       clear A70
       try go_wp2
       replace HB:=ζa (δj HB.out)
       have p264:0≤(x5_1:Int):=of_decide_eq_true (by (with_reducible assumption))
       have q264:x5_1<(l0.length:Int):=of_decide_eq_true (by (with_reducible assumption))
       obtain ⟨ad264,e264,hx264_0,hx264_1⟩:=at_T51 HR0.out x5_1 p264 q264
       have hw264_1:=hx264_1
       have hw264_0:=hx264_0
       cases e264
       replace hx264_0:=(HB.out.cell (World.block_lt_of_cell? w _ hx264_0)).trans hx264_0
       replace hx264_1:=(HB.out.cell (World.block_lt_of_cell? w _ hx264_1)).trans hx264_1
       replace p264:=eq_true p264
       replace q264:=eq_true q264
       have p265:0≤(x5_1:Int):=of_decide_eq_true (by (with_reducible assumption))
       have q265:x5_1<(l1.length:Int):=of_decide_eq_true (by (with_reducible assumption))
       obtain ⟨ad265,e265,hx265_0,hx265_1⟩:=at_T51 HR1.out x5_1 p265 q265
       have hw265_1:=hx265_1
       have hw265_0:=hx265_0
       cases e265
       replace hx265_0:=(HB.out.cell (World.block_lt_of_cell? w _ hx265_0)).trans hx265_0
       replace hx265_1:=(HB.out.cell (World.block_lt_of_cell? w _ hx265_1)).trans hx265_1
       replace p265:=eq_true p265
       replace q265:=eq_true q265
       refine start_ (n:=10) (S:=fun w'=>w'.cell? (ad264.add ((x5_1).toNat * 2))=some (.string ((rd_T51 l0 x5_1).f0))∧w'.cell? ⟨(ad264.add ((x5_1).toNat * 2)).block,(ad264.add ((x5_1).toNat * 2)).off+1,none⟩=some (.string ((rd_T51 l0 x5_1).f1))∧w'.cell? (ad265.add ((x5_1).toNat * 2))=some (.string ((rd_T51 l1 x5_1).f0))∧w'.cell? ⟨(ad265.add ((x5_1).toNat * 2)).block,(ad265.add ((x5_1).toNat * 2)).off+1,none⟩=some (.string ((rd_T51 l1 x5_1).f1))) (ds:=[]) #[φ,φ,φ,φ,φ,φ,φ,φ,φ,φ] (by kernel_rfl) rfl rfl ⟨((HB.out.cell (World.block_lt_of_cell? w _ hw264_0)).trans hw264_0),((HB.out.cell (World.block_lt_of_cell? w _ hw264_1)).trans hw264_1),((HB.out.cell (World.block_lt_of_cell? w _ hw265_0)).trans hw265_0),((HB.out.cell (World.block_lt_of_cell? w _ hw265_1)).trans hw265_1)⟩ (fun hHeld => ?_);refine with_tabW laws_eqPairS.tab6 laws_eqPairS.bits6 (fun HT_ HW_ => ?_)
       generalize wr.drew=w9 at HB hx264_0 hx264_1 hx265_0 hx265_1 hHeld ⊢
       refine ζk (i:=0) (N:=some 17) (v:=?_) (a':=?_) #[τ,φ,φ,φ,φ,φ,φ,φ,φ,φ] rfl rfl (ζj HT_.out (by kernel_rfl)) (fun _ _ _ h=>h) (Or.inl ⟨by rfl,?_⟩) ?_ ?_
       rotate_left
       · intro w';go_simp;with_reducible rfl
       rotate_left
       · simp only [ζl,δa,δb,δc,i64_w,i32_w];rfl
       refine ζk (i:=1) (N:=some 18) (v:=?_) (a':=?_) #[τ,τ,φ,φ,φ,φ,φ,φ,φ,φ] rfl rfl (ζj HT_.out (by kernel_rfl)) (fun _ _ _ h=>h) (Or.inl ⟨by rfl,?_⟩) ?_ ?_
       rotate_left
       · intro w';go_simp;with_reducible rfl
       rotate_left
       · simp only [ζl,δa,δb,δc,i64_w,i32_w];rfl
       refine ζk (i:=2) (N:=some 19) (v:=?_) (a':=?_) #[τ,τ,τ,φ,φ,φ,φ,φ,φ,φ] rfl rfl (ζj HT_.out (by kernel_rfl)) (fun _ _ _ h=>h) (Or.inl ⟨by rfl,?_⟩) ?_ ?_
       rotate_left
       · intro w';go_simp;with_reducible rfl
       rotate_left
       · simp only [ζl,δa,δb,δc,i64_w,i32_w];rfl
       refine ζk (i:=4) (N:=some 21) (v:=?_) (a':=?_) #[τ,τ,τ,φ,τ,φ,φ,φ,φ,φ] rfl rfl (ζj HT_.out (by kernel_rfl)) (fun _ _ _ h=>h) (Or.inl ⟨by rfl,?_⟩) ?_ ?_
       rotate_left
       · intro w';go_simp;with_reducible rfl
       rotate_left
       · simp only [ζl,δa,δb,δc,i64_w,i32_w];rfl
       refine ζk (i:=5) (N:=some 22) (v:=?_) (a':=?_) #[τ,τ,τ,φ,τ,τ,φ,φ,φ,φ] rfl rfl (ζj HT_.out (by kernel_rfl)) (fun _ _ _ h=>h) (Or.inl ⟨by rfl,?_⟩) ?_ ?_
       rotate_left
       · intro w';go_simp;with_reducible rfl
       rotate_left
       · simp only [ζl,δa,δb,δc,i64_w,i32_w];rfl
       refine ζk (i:=6) (N:=some 23) (v:=?_) (a':=?_) #[τ,τ,τ,φ,τ,τ,τ,φ,φ,φ] rfl rfl (ζj HT_.out (by kernel_rfl)) (fun _ _ _ h=>h) (Or.inl ⟨by rfl,?_⟩) ?_ ?_
       rotate_left
       · intro w';go_simp;with_reducible rfl
       rotate_left
       · simp only [ζl,δa,δb,δc,i64_w,i32_w];rfl
       refine take_ (i:=3) (N:=some 20) (v:=?_) (a':=?_) #[τ,τ,τ,τ,τ,τ,τ,φ,φ,φ] rfl rfl (take_ofW HT_.out HW_.out (by kernel_rfl)) (fun _ _ _ h=>h) (Or.inl ⟨by rfl,?_⟩) hHeld ?_ ?_
       rotate_left
       · rintro w' ⟨s0,s1,s2,s3⟩;go_simp;with_reducible rfl
       rotate_left
       · simp only [ζl,δa,δb,δc,i64_w,i32_w];rfl
       refine take_ (i:=7) (N:=some 24) (v:=?_) (a':=?_) #[τ,τ,τ,τ,τ,τ,τ,τ,φ,φ] rfl rfl (take_ofW HT_.out HW_.out (by kernel_rfl)) (fun _ _ _ h=>h) (Or.inl ⟨by rfl,?_⟩) hHeld ?_ ?_
       rotate_left
       · rintro w' ⟨s0,s1,s2,s3⟩;go_simp;with_reducible rfl
       rotate_left
       · simp only [ζl,δa,δb,δc,i64_w,i32_w];rfl
       refine one_ (i:=8) (N:=some 25) #[τ,τ,τ,τ,τ,τ,τ,τ,τ,φ] rfl rfl (one_of HT_.out (by kernel_rfl)) (by decide) (fun K hK => ?_)
       refine goes_ Tryz.func47 (by kernel_rfl) rfl #[.agg #[.string ((rd_T51 l0 x5_1).f0),.string ((rd_T51 l0 x5_1).f1)],.agg #[.string ((rd_T51 l1 x5_1).f0),.string ((rd_T51 l1 x5_1).f1)]] (by rfl) rfl rfl (by (try simp only [δd,δe,δf]);rfl) ?_
       by_cases c8:t266=τ
       ·
        subst c8
        have H1:(laws_eqPairS.l0 k1 l0 l1 (ζm (x5_1+1)))=some r:=by rw [if_pos rfl] at H;exact H
        clear H
        have H:=H1
        clear H1
        have H':=ζa H
        clear H
        with_reducible refine (laws_eqPair.calls ((rd_T51 l0 x5_1).f0) ((rd_T51 l0 x5_1).f1) ((rd_T51 l1 x5_1).f0) ((rd_T51 l1 x5_1).f1) τ _ A7.out).mono ?_
        rintro e w10 ⟨rfl,hb⟩
        refine ⟨_,rfl,?_⟩
        replace HB:=ζa (δr (by exact HB.out) hb)
        (try clear hb)
        (try clear hb2)
        (try clear hk)
        (try clear hi)
        refine hK.out _ _ ⟨((HB.out.cell (World.block_lt_of_cell? w _ hw264_0)).trans hw264_0),((HB.out.cell (World.block_lt_of_cell? w _ hw264_1)).trans hw264_1),((HB.out.cell (World.block_lt_of_cell? w _ hw265_0)).trans hw265_0),((HB.out.cell (World.block_lt_of_cell? w _ hw265_1)).trans hw265_1)⟩ (fun hHeld => ?_)
        clear hK K
        refine norm_ (a':=?_) ?_ ?_
        rotate_left
        ·
         show ζl _ (some 25) _=_
         simp only [ζl,δa,δb,δc,i64_w,i32_w];rfl
        refine ζk (i:=9) (N:=some 26) (v:=?_) (a':=?_) #[τ,τ,τ,τ,τ,τ,τ,τ,τ,τ] rfl rfl (ζj HT_.out (by kernel_rfl)) (fun _ _ _ h=>h) (Or.inl ⟨by rfl,?_⟩) ?_ ?_
        rotate_left
        · intro w';go_simp;with_reducible rfl
        rotate_left
        · simp only [ζl,δa,δb,δc,i64_w,i32_w];rfl
        refine done_ (done_of HT_.out (by kernel_rfl)) ?_
        try go_wp2
        go_roundg k1
        case measure=>have:=HK1.out;omega
        case rel=>exact ⟨(ζm (x5_1+1)),(by rfl),H',⟨by have:=HK1.out;omega⟩,⟨by repeat ((with_reducible exact HB.out))⟩⟩
       ·
        replace c8:=Bool.eq_false_iff.mpr c8
        subst c8
        have H1:(some φ)=some r:=by rw [if_neg (show ¬ (φ=τ) by decide)] at H;exact H
        clear H
        have H:=H1
        clear H1
        obtain rfl:=Option.some.inj H
        with_reducible refine (laws_eqPair.calls ((rd_T51 l0 x5_1).f0) ((rd_T51 l0 x5_1).f1) ((rd_T51 l1 x5_1).f0) ((rd_T51 l1 x5_1).f1) φ _ A7.out).mono ?_
        rintro e w12 ⟨rfl,hb⟩
        refine ⟨_,rfl,?_⟩
        replace HB:=ζa (δr (by exact HB.out) hb)
        (try clear hb)
        (try clear hb2)
        (try clear hk)
        (try clear hi)
        refine hK.out _ _ ⟨((HB.out.cell (World.block_lt_of_cell? w _ hw264_0)).trans hw264_0),((HB.out.cell (World.block_lt_of_cell? w _ hw264_1)).trans hw264_1),((HB.out.cell (World.block_lt_of_cell? w _ hw265_0)).trans hw265_0),((HB.out.cell (World.block_lt_of_cell? w _ hw265_1)).trans hw265_1)⟩ (fun hHeld => ?_)
        clear hK K
        refine norm_ (a':=?_) ?_ ?_
        rotate_left
        ·
         show ζl _ (some 25) _=_
         simp only [ζl,δa,δb,δc,i64_w,i32_w];rfl
        refine ζk (i:=9) (N:=some 26) (v:=?_) (a':=?_) #[τ,τ,τ,τ,τ,τ,τ,τ,τ,τ] rfl rfl (ζj HT_.out (by kernel_rfl)) (fun _ _ _ h=>h) (Or.inl ⟨by rfl,?_⟩) ?_ ?_
        rotate_left
        · intro w';go_simp;with_reducible rfl
        rotate_left
        · simp only [ζl,δa,δb,δc,i64_w,i32_w];rfl
        refine done_ (done_of HT_.out (by kernel_rfl)) ?_
        try go_wp2
        go_ret
        exact ⟨by rfl,by repeat ((with_reducible exact HB.out))⟩
      ·
       rw [if_neg c6] at H
       exact absurd H (by simp)
     ·
      rw [if_neg c5] at H
      exact absurd H (by simp)
    ·
     rw [if_neg c4] at H
     have c4b0:decide (x5_1<(l0.length:Int))=φ:=decide_eq_false c4
     clear c4
     obtain rfl:=Option.some.inj H
     go_wp2
     go_ret
     exact ⟨by rfl,by repeat ((with_reducible exact HB.out))⟩
 ·
  rw [if_neg c3] at H
  have c3b0:((l0.length:Int) == (l1.length:Int))=φ:=beq_eq_false_iff_ne.mpr c3
  have c3b1:((l0.length:Int) != (l1.length:Int))=τ:=bne_iff_ne.mpr c3
  have c3b2:(l0.length == l1.length)=φ:=by (simp at c3 ⊢;omega)
  obtain rfl:=Option.some.inj H
  go_enter Tryz.func18,Tryz.ntmps18
  go_wp2
  go_ret
  exact ⟨by rfl,by repeat ((with_reducible exact HB.out))⟩


open Go.Proofs.YtabmfhnhmoiljaaGreatDoorW.PrintWords renaming gate_dst → δx, below_size → δs, below_step → δr

/-! ### laws_markText: function 48 -/
def laws_markText.l0:Nat→Int→ByteArray→Option (ByteArray)
 | 0,_,_=>none
 | k+1,x0,x3=>if x0 > 0 then ((some (([(ζm (48+(Int.tmod x0 10))) % 256]:List Int):List Int)).bind fun y267=>(if (strOfNums y267).size+x3.size≤9223372036854775807 then (laws_markText.l0 k (ζm (Int.tdiv x0 10)) ((strOfNums y267) ++ x3)) else (none))) else (if 1+x3.size≤9223372036854775807 then (some ((⟨#[109]⟩:ByteArray) ++ x3)) else (none))
def laws_markText.f (k:Nat) (a0:Int):Option (ByteArray):=if a0≤0 then (some (⟨#[109,48]⟩:ByteArray)) else (laws_markText.l0 k a0 (⟨#[]⟩:ByteArray))
set_option maxHeartbeats 8000000 in
set_option maxRecDepth 100000 in
theorem laws_markText.calls (k:Nat) (a0:Int) (r:ByteArray) (w:World) (h:laws_markText.f k a0=some r) :
  Calls Tryz.prog 48 #[.int .i64 a0] w fun e w'=>e = .returned (.string r)∧Below w.heap.size w w':=by
 have HB:=ζa (Below.refl w.heap.size w)
 have H:(if a0≤0 then (some (⟨#[109,48]⟩:ByteArray)) else (laws_markText.l0 k a0 (⟨#[]⟩:ByteArray)))=some r:=h
 clear h
 by_cases c2:a0≤0
 ·
  rw [if_pos c2] at H
  have c2b0:decide (a0≤0)=τ:=decide_eq_true c2
  clear c2
  obtain rfl:=Option.some.inj H
  go_enter Tryz.func48,Tryz.ntmps48
  go_wp2
  go_ret
  exact ⟨by rfl,by repeat ((with_reducible exact HB.out))⟩
 ·
  rw [if_neg c2] at H
  have c2b0:decide (a0≤0)=φ:=decide_eq_false c2
  clear c2
  have H':=ζa H
  clear H
  go_enter Tryz.func48,Tryz.ntmps48
  go_wp2
  go_loopg [0,3] k (fun kq v0 v3 w' => ∃ (x0_1:Int) (x3_1:ByteArray),v0 = .int .i64 x0_1∧v3 = .string x3_1∧Aside0 (laws_markText.l0 kq x0_1 x3_1=some r)∧Aside0 (kq≤k)∧Aside0 (Below w.heap.size w w'))
  case atStart=>exact ⟨(a0),((⟨#[]⟩:ByteArray)),(by rfl),(by rfl),H',⟨Nat.le_refl _⟩,⟨by repeat ((with_reducible exact HB.out))⟩⟩
  case round =>
   clear H'
   try clear c2
   try clear c2b0
   try clear p2
   obtain ⟨x0_1,x3_1,rfl,rfl,HA,HK1,HB⟩:=hrel
   cases gk with
   | zero=>exact absurd HA.out (by simp [laws_markText.l0])
   | succ k1 =>
    have H:=HA.out
    clear HA
    simp only [laws_markText.l0] at H
    by_cases c3:x0_1 > 0
    ·
     rw [if_pos c3] at H
     have c3b0:decide (0<x0_1)=τ:=decide_eq_true c3
     clear c3
     obtain ⟨y267,hy267⟩ : ∃ y_:List Int,y_=(([(ζm (48+(Int.tmod x0_1 10))) % 256]:List Int)):=⟨_,rfl⟩
     replace H:(if (strOfNums y267).size+x3_1.size≤9223372036854775807 then (laws_markText.l0 k1 (ζm (Int.tdiv x0_1 10)) ((strOfNums y267) ++ x3_1)) else (none))=some r:=by (have H2_:=(Option.bind_some _ _).symm.trans H;rw [hy267];with_reducible exact H2_)
     have Ny267:=ζa hy267
     clear hy267
     by_cases c4:(strOfNums y267).size+x3_1.size≤9223372036854775807
     ·
      rw [if_pos c4] at H
      have c4b0:=eq_true c4
      have c4b1:decide ((strOfNums y267).size+x3_1.size≤9223372036854775807)=τ:=decide_eq_true c4
      try have c4b2:(9223372036854775807<(strOfNums y267).size+x3_1.size)=False:=eq_false (Nat.not_lt.2 c4)
      have H':=ζa H
      clear H
      go_wp2_with (((with_reducible refine δx (N:=12) rfl ?_);refine Kd.R_lit (Kd.int .u8) _ 5 ?hg (N:=12) ?hd (xs:=([(ζm (48+(Int.tmod x0_1 10))) % 256]:List Int)) (inner:=[.int .u8 ((ζm (48+(Int.tmod x0_1 10))) % 256)]) (ok:=fun _=>True) (okp:=fun _=>True) ?hr ?hp (fun _ hk=>hk) trivial (Below.refl _ _) (Nat.le_refl _) (by simp) ?_;(case hd=>rfl);(case hg=>rfl);(case hr=>(go_simp;done));(case hp=>exact (Reps.one (show Kd.M (Kd.int .u8) _ _ _ ((ζm (48+(Int.tmod x0_1 10))) % 256) [.int .u8 ((ζm (48+(Int.tmod x0_1 10))) % 256)] from rfl) (Reps.none _ _)));intro v268 w5 ho6 hb hg_ hnew_;clear hg_ hnew_;(rw [← Ny267.out] at ho6);have HO269:=ζa (Kd.R_lower ho6 (δs (by exact HB.out)));replace HB:=ζa (δr (by exact HB.out) hb);clear hb ho6;have hcv7:=own_string (P:=Tryz.prog) Tryz.underlying82 Tryz.underlying5 Tryz.underlying9 (Kd.own_of_R HO269.out)))
      go_roundg k1
      case measure=>have:=HK1.out;omega
      case rel=>exact ⟨(ζm (Int.tdiv x0_1 10)),((strOfNums y267) ++ x3_1),(by rfl),(by rfl),H',⟨by have:=HK1.out;omega⟩,⟨by repeat ((with_reducible exact HB.out))⟩⟩
     ·
      rw [if_neg c4] at H
      exact absurd H (by simp)
    ·
     rw [if_neg c3] at H
     have c3b0:decide (0<x0_1)=φ:=decide_eq_false c3
     clear c3
     by_cases c8:1+x3_1.size≤9223372036854775807
     ·
      rw [if_pos c8] at H
      have c8b0:=eq_true c8
      have c8b1:decide (1+x3_1.size≤9223372036854775807)=τ:=decide_eq_true c8
      try have c8b2:(9223372036854775807<1+x3_1.size)=False:=eq_false (Nat.not_lt.2 c8)
      obtain rfl:=Option.some.inj H
      go_wp2
      go_ret
      exact ⟨by rfl,by repeat ((with_reducible exact HB.out))⟩
     ·
      rw [if_neg c8] at H
      exact absurd H (by simp)


open Go.Proofs.YtabmfhnhmoiljaaGreatDoorW.PrintWords renaming gate_callee → δv, below_step → δr, below_set → δq

/-! ### laws_markPairS: function 19 -/
def laws_markPairS.l0:Nat→List (S51)→Int→Int→Option (Int × (List (S51)))
 | 0,_,_,_=>none
 | k+1,x0,x1,x5=>if x5<(x0.length:Int) then ((laws_markText.f k x1).bind fun t270=>(if 0≤x5 then ((some (x0.set (x5:Int).toNat (⟨t270,(rd_T51 x0 x5).f1⟩:S51):List (S51))).bind fun y271=>((laws_markText.f k (ζm (x1+1))).bind fun t272=>(laws_markPairS.l0 k (y271.set (x5:Int).toNat (⟨(rd_T51 y271 x5).f0,t272⟩:S51)) (ζm ((ζm (x1+1))+1)) (ζm (x5+1))))) else (none))) else (some (x1,x0))
def laws_markPairS.f (k:Nat) (l0:List (S51)) (a1:Int):Option (Int × (List (S51))):=laws_markPairS.l0 k l0 a1 0
set_option maxHeartbeats 8000000 in
set_option maxRecDepth 100000 in
theorem laws_markPairS.calls (k:Nat) (P0_:Nat→Prop) (u9000_:Value) (l0:List (S51)) (a1:Int) (r1:Int) (r2:List (S51)) (w0 w:World) (hB:Below w0.heap.size w0 w) (ho0:Kd.R k51 51 w w0.heap.size P0_ u9000_ l0) (h:laws_markPairS.f k l0 a1=some (r1,r2)) :
  Calls Tryz.prog 19 #[u9000_,.int .i64 a1] w fun e w'=>e = .returned (.int .i64 r1)∧Kd.R k51 51 w' w0.heap.size (fun k_=>(P0_ k_ ∨ w.heap.size≤k_)) u9000_ r2∧Below w0.heap.size w0 w'∧Kept w w' (fun k_=>P0_ k_):=by
 have HO0:=ζa (show Kd.R k51 51 w w0.heap.size (fun k_=>(P0_ k_ ∨ w.heap.size≤k_)) u9000_ l0 from Kd.R_mono ho0 (fun k_ hk=>(.inl hk)))
 have HK:=ζa (Kept.refl w (fun k_=>P0_ k_))
 have HW0:=ζa hB.size
 have HB:=ζa hB
 clear hB
 have H:(laws_markPairS.l0 k l0 a1 0)=some (r1,r2):=h
 clear h
 have H':=ζa H
 clear H
 go_enter Tryz.func19,Tryz.ntmps19
 go_wp2
 go_loopg [1,5] k (fun kq v1 v5 w' => ∃ (x0_1:List (S51)) (x1_1:Int) (x5_1:Int),v1 = .int .i64 x1_1∧v5 = .int .i64 x5_1∧Aside0 (laws_markPairS.l0 kq x0_1 x1_1 x5_1=some (r1,r2))∧Aside0 (kq≤k)∧Aside0 (Kd.R k51 51 w' w0.heap.size (fun k_=>(P0_ k_ ∨ w.heap.size≤k_)) u9000_ x0_1)∧Aside0 (Kept w w' (fun k_=>P0_ k_))∧Aside0 (Below w0.heap.size w0 w'))
 case atStart=>exact ⟨(l0),(a1),(0),(by rfl),(by rfl),H',⟨Nat.le_refl _⟩,⟨by exact HO0.out⟩,⟨by repeat ((with_reducible exact HK.out))⟩,⟨by repeat ((with_reducible exact HB.out))⟩⟩
 case round =>
  clear H'
  try clear c1
  try clear p2
  obtain ⟨x0_1,x1_1,x5_1,rfl,rfl,HA,HK1,HO_0,HK,HB⟩:=hrel
  cases gk with
  | zero=>exact absurd HA.out (by simp [laws_markPairS.l0])
  | succ k1 =>
   have H:=HA.out
   clear HA
   simp only [laws_markPairS.l0] at H
   by_cases c3:x5_1<(x0_1.length:Int)
   ·
    rw [if_pos c3] at H
    have c3b0:decide (x5_1<(x0_1.length:Int))=τ:=decide_eq_true c3
    clear c3
    replace H:=Option.bind_eq_some_iff.mp H
    obtain ⟨t270,A40,H⟩:=H
    replace H:(if 0≤x5_1 then ((some (x0_1.set (x5_1:Int).toNat (⟨t270,(rd_T51 x0_1 x5_1).f1⟩:S51):List (S51))).bind fun y271=>((laws_markText.f k1 (ζm (x1_1+1))).bind fun t272=>(laws_markPairS.l0 k1 (y271.set (x5_1:Int).toNat (⟨(rd_T51 y271 x5_1).f0,t272⟩:S51)) (ζm ((ζm (x1_1+1))+1)) (ζm (x5_1+1))))) else (none))=some (r1,r2):=H
    have A4:=ζa A40
    clear A40
    by_cases c5:0≤x5_1
    ·
     rw [if_pos c5] at H
     have c5b0:decide (0≤x5_1)=τ:=decide_eq_true c5
     clear c5
     obtain ⟨y271,hy271⟩ : ∃ y_:List (S51),y_=(x0_1.set (x5_1:Int).toNat (⟨t270,(rd_T51 x0_1 x5_1).f1⟩:S51)):=⟨_,rfl⟩
     replace H:((laws_markText.f k1 (ζm (x1_1+1))).bind fun t272=>(laws_markPairS.l0 k1 (y271.set (x5_1:Int).toNat (⟨(rd_T51 y271 x5_1).f0,t272⟩:S51)) (ζm ((ζm (x1_1+1))+1)) (ζm (x5_1+1))))=some (r1,r2):=by (have H2_:=(Option.bind_some _ _).symm.trans H;rw [hy271];with_reducible exact H2_)
     have Ny271:=ζa hy271
     clear hy271
     replace H:=Option.bind_eq_some_iff.mp H
     obtain ⟨t272,A70,H⟩:=H
     replace H:(laws_markPairS.l0 k1 (y271.set (x5_1:Int).toNat (⟨(rd_T51 y271 x5_1).f0,t272⟩:S51)) (ζm ((ζm (x1_1+1))+1)) (ζm (x5_1+1)))=some (r1,r2):=H
     have A7:=ζa A70
     clear A70
     obtain ⟨y273,hy273⟩ : ∃ y_:List (S51),y_=(y271.set (x5_1:Int).toNat (⟨(rd_T51 y271 x5_1).f0,t272⟩:S51)):=⟨_,rfl⟩
     replace H:(laws_markPairS.l0 k1 y273 (ζm ((ζm (x1_1+1))+1)) (ζm (x5_1+1)))=some (r1,r2):=by (rw [hy273];with_reducible exact H)
     have Ny273:=ζa hy273
     clear hy273
     have H':=ζa H
     clear H
     obtain ⟨Ao9,co9,eo9⟩:=Kd.R_slice HO_0.out
     subst eo9
     go_wp2_with (first|((with_reducible refine δv (f:=48) rfl ?_);refine goesL_ (some 15) rfl rfl Tryz.func48 (by kernel_rfl) rfl #[.int .i64 x1_1] rfl (by (try simp only [δd,δe,δf]);rfl) ?_;(with_reducible refine (laws_markText.calls k1 x1_1 t270 _ A4.out).mono ?_);rintro e w10 ⟨rfl,hb⟩;refine ⟨_,rfl,?_⟩;replace HO_0:=ζa (ζh (by exact HO_0.out) hb);replace HK:=ζa (Kept.below (S:=(fun k_=>P0_ k_)) (by exact HK.out) hb);replace HB:=ζa (δr (by exact HB.out) hb);(try clear hb);(try clear hb2);(try clear hk);(try clear hi);have p6:0≤(x5_1:Int):=of_decide_eq_true (by (with_reducible assumption));have q6:(x5_1:Int)<((x0_1.length:Int):Int):=of_decide_eq_true (by (with_reducible assumption));obtain ⟨go6,co6,eo6,gb6,gl6,cl6,HG6⟩:=Kd.R_form HO_0.out (by omega);(cases eo6);have GB6:=ζa gb6;have GG6:=ζa HG6;clear gb6 gl6 HG6;have HMgo6:=ζa (show (P0_ go6 ∨ w.heap.size≤go6) from (HO_0.out.1 _ rfl));obtain ⟨ce6,hcl6,hM6,hcc6,hfr6⟩:=Kd.R_elem HO_0.out z51 (x5_1:Int) p6 q6;obtain rfl:=k51_openM hM6;have hx6_0:w10.cell? ⟨go6,(x5_1:Int).toNat * 2,none⟩=some (.string ((rd_T51 x0_1 x5_1).f0)):=hcc6 0 _ rfl;have hx6_1:w10.cell? ⟨go6,(x5_1:Int).toNat * 2+1,none⟩=some (.string ((rd_T51 x0_1 x5_1).f1)):=hcc6 1 _ rfl;have hf6_0:w10.frozen? ⟨go6,(x5_1:Int).toNat * 2,none⟩=φ:=hfr6 0;have hf6_1:w10.frozen? ⟨go6,(x5_1:Int).toNat * 2+1,none⟩=φ:=hfr6 1;clear hcl6 hcc6 hfr6 hM6;replace p6:=eq_true p6;replace q6:=eq_true q6;have HX11:=ζa (show Kd.R k51 51 w10 w0.heap.size (fun k_=>(P0_ k_ ∨ w.heap.size≤k_)) (.slice (some ⟨go6,0,none⟩) x0_1.length co9) x0_1 from (by exact HO_0.out));obtain ⟨ce11,hcl11,hM11,hcc11,hfr11⟩:=Kd.R_elem HX11.out z51 (x5_1:Int) (of_decide_eq_true (by (with_reducible assumption))) (by have h_:(x5_1:Int)<((x0_1.length:Int):Int):=of_decide_eq_true (by (with_reducible assumption));exact h_);obtain rfl:=k51_openM hM11;have HP11:=Kd.R_seg HX11.out (x5_1:Int) (of_decide_eq_true (by (with_reducible assumption))) (by have h_:(x5_1:Int)<((x0_1.length:Int):Int):=of_decide_eq_true (by (with_reducible assumption));exact h_) (seg:=[.string t270]) (j:=0) hcl11 hcc11 (show 1≤2 from by decide) (x':=(⟨t270,(rd_T51 x0_1 x5_1).f1⟩:S51)) (k51_mkM _ _ _ (⟨t270,(rd_T51 x0_1 x5_1).f1⟩:S51) ) (fun _ hk=>hk);have hx11_0:=hcc11 0 _ rfl;(try simp only [show (k51).sz=2 from rfl,Nat.mul_one,Nat.add_zero] at hx11_0);have hf11_0:=hfr11 0;(try simp only [show (k51).sz=2 from rfl,Nat.mul_one,Nat.add_zero] at hf11_0);clear hcl11 hcc11 hfr11 hM11)|((with_reducible refine gate_store (t:=9) (p:=17) rfl ?_);refine store_event (t:=9) (p:=17) (v:=?vo_w12) (w1:=(w10.setCell ⟨go6,(x5_1:Int).toNat * 2,none⟩ (.string t270))) ?hg ?ho ?hn ?hr ?_;(case ho=>rfl);(case hg=>rfl);(case hn=>rfl);(case hr=>(go_simp;done));intro w12 hw;have hg:w10.grownBy w12 (some go6):=(by rw [hw];exact HP11.2);have hp_:Kd.R k51 51 w12 w0.heap.size (fun k_=>(P0_ k_ ∨ w.heap.size≤k_)) (.slice (some ⟨go6,0,none⟩) x0_1.length co9) y271:=(by rw [hw,Ny271.out];exact HP11.1);clear HP11;replace HB:=ζa ((by rw [hw];exact δq (HB.out) GB6.out:Below w0.heap.size w0 w12));replace HK:=ζa (Kept.of_grown (S:=(fun k_=>P0_ k_)) hg (by exact HK.out) (fun k_ e_=>(HO_0.out.1 k_ e_)));replace HO_0:=ζa (hp_);clear hg hw hp_)|((with_reducible refine δv (f:=48) rfl ?_);refine goesL_ (some 23) rfl rfl Tryz.func48 (by kernel_rfl) rfl #[.int .i64 (ζm (x1_1+1))] rfl (by (try simp only [δd,δe,δf]);rfl) ?_;(with_reducible refine (laws_markText.calls k1 (ζm (x1_1+1)) t272 _ A7.out).mono ?_);rintro e w13 ⟨rfl,hb⟩;refine ⟨_,rfl,?_⟩;replace HO_0:=ζa (ζh (by exact HO_0.out) hb);replace HK:=ζa (Kept.below (S:=(fun k_=>P0_ k_)) (by exact HK.out) hb);replace HB:=ζa (δr (by exact HB.out) hb);(try clear hb);(try clear hb2);(try clear hk);(try clear hi);have p8:0≤(x5_1:Int):=of_decide_eq_true (by (with_reducible assumption));have q8:(x5_1:Int)<((x0_1.length:Int):Int):=of_decide_eq_true (by (with_reducible assumption));obtain ⟨ce8,hcl8,hM8,hcc8,hfr8⟩:=Kd.R_elem HO_0.out z51 (x5_1:Int) p8 q8;obtain rfl:=k51_openM hM8;have hx8_0:w13.cell? ⟨go6,(x5_1:Int).toNat * 2,none⟩=some (.string ((rd_T51 y271 x5_1).f0)):=hcc8 0 _ rfl;have hx8_1:w13.cell? ⟨go6,(x5_1:Int).toNat * 2+1,none⟩=some (.string ((rd_T51 y271 x5_1).f1)):=hcc8 1 _ rfl;have hf8_0:w13.frozen? ⟨go6,(x5_1:Int).toNat * 2,none⟩=φ:=hfr8 0;have hf8_1:w13.frozen? ⟨go6,(x5_1:Int).toNat * 2+1,none⟩=φ:=hfr8 1;clear hcl8 hcc8 hfr8 hM8;replace p8:=eq_true p8;replace q8:=eq_true q8;have HX14:=ζa (show Kd.R k51 51 w13 w0.heap.size (fun k_=>(P0_ k_ ∨ w.heap.size≤k_)) (.slice (some ⟨go6,0,none⟩) x0_1.length co9) y271 from (by exact HO_0.out));obtain ⟨ce14,hcl14,hM14,hcc14,hfr14⟩:=Kd.R_elem HX14.out z51 (x5_1:Int) (of_decide_eq_true (by (with_reducible assumption))) (by have h_:(x5_1:Int)<((x0_1.length:Int):Int):=of_decide_eq_true (by (with_reducible assumption));exact h_);obtain rfl:=k51_openM hM14;have HP14:=Kd.R_seg HX14.out (x5_1:Int) (of_decide_eq_true (by (with_reducible assumption))) (by have h_:(x5_1:Int)<((x0_1.length:Int):Int):=of_decide_eq_true (by (with_reducible assumption));exact h_) (seg:=[.string t272]) (j:=1) hcl14 hcc14 (show 2≤2 from by decide) (x':=(⟨(rd_T51 y271 x5_1).f0,t272⟩:S51)) (k51_mkM _ _ _ (⟨(rd_T51 y271 x5_1).f0,t272⟩:S51) ) (fun _ hk=>hk);have hx14_1:=hcc14 1 _ rfl;(try simp only [show (k51).sz=2 from rfl,Nat.mul_one,Nat.add_zero] at hx14_1);have hf14_1:=hfr14 1;(try simp only [show (k51).sz=2 from rfl,Nat.mul_one,Nat.add_zero] at hf14_1);clear hcl14 hcc14 hfr14 hM14)|((with_reducible refine gate_store (t:=9) (p:=25) rfl ?_);refine store_event (t:=9) (p:=25) (v:=?vo_w15) (w1:=(w13.setCell ⟨go6,(x5_1:Int).toNat * 2+1,none⟩ (.string t272))) ?hg ?ho ?hn ?hr ?_;(case ho=>rfl);(case hg=>rfl);(case hn=>rfl);(case hr=>(go_simp;done));intro w15 hw;have hg:w13.grownBy w15 (some go6):=(by rw [hw];exact HP14.2);have hp_:Kd.R k51 51 w15 w0.heap.size (fun k_=>(P0_ k_ ∨ w.heap.size≤k_)) (.slice (some ⟨go6,0,none⟩) x0_1.length co9) y273:=(by rw [hw,Ny273.out];exact HP14.1);clear HP14;replace HB:=ζa ((by rw [hw];exact δq (HB.out) GB6.out:Below w0.heap.size w0 w15));replace HK:=ζa (Kept.of_grown (S:=(fun k_=>P0_ k_)) hg (by exact HK.out) (fun k_ e_=>(HO_0.out.1 k_ e_)));replace HO_0:=ζa (hp_);clear hg hw hp_))
     go_roundg k1
     case measure=>have:=HK1.out;omega
     case rel=>exact ⟨(y273),(ζm ((ζm (x1_1+1))+1)),(ζm (x5_1+1)),(by rfl),(by rfl),H',⟨by have:=HK1.out;omega⟩,⟨by exact HO_0.out⟩,⟨by repeat ((with_reducible exact HK.out))⟩,⟨by repeat ((with_reducible exact HB.out))⟩⟩
    ·
     rw [if_neg c5] at H
     exact absurd H (by simp)
   ·
    rw [if_neg c3] at H
    have c3b0:decide (x5_1<(x0_1.length:Int))=φ:=decide_eq_false c3
    clear c3
    simp only [Option.some.injEq,Prod.mk.injEq] at H
    obtain ⟨rfl,rfl⟩:=H
    obtain ⟨Ao16,co16,eo16⟩:=Kd.R_slice HO_0.out
    subst eo16
    go_wp2
    go_ret
    exact ⟨by rfl,by exact HO_0.out,by repeat ((with_reducible exact HB.out)),by repeat ((with_reducible exact HK.out))⟩



/-! ### laws_heldPairS: function 20 -/
def laws_heldPairS.l0:Nat→List (S51)→Int→Int→Option (Int)
 | 0,_,_,_=>none
 | k+1,x0,x1,x5=>if x5<(x0.length:Int) then (if 0≤x5 then ((laws_markText.f k x1).bind fun t275=>(if ((rd_T51 x0 x5).f0).toList=t275.toList then ((laws_markText.f k (ζm (x1+1))).bind fun t277=>(if ((rd_T51 x0 x5).f1).toList=t277.toList then (laws_heldPairS.l0 k x0 (ζm ((ζm (x1+1))+1)) (ζm (x5+1))) else (some (-1)))) else (some (-1)))) else (none)) else (some x1)
def laws_heldPairS.f (k:Nat) (l0:List (S51)) (a1:Int):Option (Int):=laws_heldPairS.l0 k l0 a1 0
def laws_heldPairS.T4:Bool × List (List Nat × List Nat):=(τ,[([],[]),([],[]),([0,1],[0,1]),([2],[2]),([3],[3]),([],[]),([5],[5]),([4,6],[4,6])])
def laws_heldPairS.B4:List Nat:=[0,0,3,7,15,0,32,127]
theorem laws_heldPairS.tab4:rtab .any (opsOf Tryz.f20 4)=laws_heldPairS.T4:=by kernel_rfl
theorem laws_heldPairS.bits4:waitsOk laws_heldPairS.T4.2 laws_heldPairS.B4=τ:=by kernel_rfl
def laws_heldPairS.T7:Bool × List (List Nat × List Nat):=(τ,[([],[]),([],[]),([0,1],[0,1]),([2],[2]),([3],[3]),([],[]),([5],[5]),([4,6],[4,6])])
def laws_heldPairS.B7:List Nat:=[0,0,3,7,15,0,32,127]
theorem laws_heldPairS.tab7:rtab .any (opsOf Tryz.f20 7)=laws_heldPairS.T7:=by kernel_rfl
theorem laws_heldPairS.bits7:waitsOk laws_heldPairS.T7.2 laws_heldPairS.B7=τ:=by kernel_rfl
set_option maxHeartbeats 8000000 in
set_option maxRecDepth 100000 in
theorem laws_heldPairS.calls (k:Nat) (A0:Option Addr) (c0:Nat) (l0:List (S51)) (a1:Int) (r:Int) (w:World) (hr0:Kd.C k51 w A0 l0.length l0) (hc0:l0.length≤c0) (h:laws_heldPairS.f k l0 a1=some r) :
  Calls Tryz.prog 20 #[.slice A0 l0.length c0,.int .i64 a1] w fun e w'=>e = .returned (.int .i64 r)∧Below w.heap.size w w':=by
 have HR0:=ζa hr0
 have HC0:=ζa hc0
 clear hr0 hc0
 have HB:=ζa (Below.refl w.heap.size w)
 have H:(laws_heldPairS.l0 k l0 a1 0)=some r:=h
 clear h
 have H':=ζa H
 clear H
 go_enter Tryz.func20,Tryz.ntmps20
 go_wp2
 go_loopg [1,5] k (fun kq v1 v5 w' => ∃ (x1_1:Int) (x5_1:Int),v1 = .int .i64 x1_1∧v5 = .int .i64 x5_1∧Aside0 (laws_heldPairS.l0 kq l0 x1_1 x5_1=some r)∧Aside0 (kq≤k)∧Aside0 (Below w.heap.size w w'))
 case atStart=>exact ⟨(a1),(0),(by rfl),(by rfl),H',⟨Nat.le_refl _⟩,⟨by repeat ((with_reducible exact HB.out))⟩⟩
 case round =>
  clear H'
  try clear c2
  try clear p2
  obtain ⟨x1_1,x5_1,rfl,rfl,HA,HK1,HB⟩:=hrel
  cases gk with
  | zero=>exact absurd HA.out (by simp [laws_heldPairS.l0])
  | succ k1 =>
   have H:=HA.out
   clear HA
   simp only [laws_heldPairS.l0] at H
   by_cases c3:x5_1<(l0.length:Int)
   ·
    rw [if_pos c3] at H
    have c3b0:decide (x5_1<(l0.length:Int))=τ:=decide_eq_true c3
    clear c3
    by_cases c4:0≤x5_1
    ·
     rw [if_pos c4] at H
     have c4b0:decide (0≤x5_1)=τ:=decide_eq_true c4
     clear c4
     replace H:=Option.bind_eq_some_iff.mp H
     obtain ⟨t275,A50,H⟩:=H
     replace H:(if ((rd_T51 l0 x5_1).f0).toList=t275.toList then ((laws_markText.f k1 (ζm (x1_1+1))).bind fun t277=>(if ((rd_T51 l0 x5_1).f1).toList=t277.toList then (laws_heldPairS.l0 k1 l0 (ζm ((ζm (x1_1+1))+1)) (ζm (x5_1+1))) else (some (-1)))) else (some (-1)))=some r:=H
     have A5:=ζa A50
     clear A50
     try go_wp2
     replace HB:=ζa (δj HB.out)
     have p274:0≤(x5_1:Int):=of_decide_eq_true (by (with_reducible assumption))
     have q274:x5_1<(l0.length:Int):=of_decide_eq_true (by (with_reducible assumption))
     obtain ⟨ad274,e274,hx274_0,hx274_1⟩:=at_T51 HR0.out x5_1 p274 q274
     have hw274_1:=hx274_1
     have hw274_0:=hx274_0
     cases e274
     replace hx274_0:=(HB.out.cell (World.block_lt_of_cell? w _ hx274_0)).trans hx274_0
     replace hx274_1:=(HB.out.cell (World.block_lt_of_cell? w _ hx274_1)).trans hx274_1
     replace p274:=eq_true p274
     replace q274:=eq_true q274
     refine start_ (n:=8) (S:=fun w'=>w'.cell? (ad274.add ((x5_1).toNat * 2))=some (.string ((rd_T51 l0 x5_1).f0))∧w'.cell? ⟨(ad274.add ((x5_1).toNat * 2)).block,(ad274.add ((x5_1).toNat * 2)).off+1,none⟩=some (.string ((rd_T51 l0 x5_1).f1))) (ds:=[]) #[φ,φ,φ,φ,φ,φ,φ,φ] (by kernel_rfl) rfl rfl ⟨((HB.out.cell (World.block_lt_of_cell? w _ hw274_0)).trans hw274_0),((HB.out.cell (World.block_lt_of_cell? w _ hw274_1)).trans hw274_1)⟩ (fun hHeld => ?_);refine with_tabW laws_heldPairS.tab4 laws_heldPairS.bits4 (fun HT_ HW_ => ?_)
     generalize wr.drew=w9 at HB hx274_0 hx274_1 hHeld ⊢
     refine ζk (i:=0) (N:=some 12) (v:=?_) (a':=?_) #[τ,φ,φ,φ,φ,φ,φ,φ] rfl rfl (ζj HT_.out (by kernel_rfl)) (fun _ _ _ h=>h) (Or.inl ⟨by rfl,?_⟩) ?_ ?_
     rotate_left
     · intro w';go_simp;with_reducible rfl
     rotate_left
     · simp only [ζl,δa,δb,δc,i64_w,i32_w];rfl
     refine ζk (i:=1) (N:=some 13) (v:=?_) (a':=?_) #[τ,τ,φ,φ,φ,φ,φ,φ] rfl rfl (ζj HT_.out (by kernel_rfl)) (fun _ _ _ h=>h) (Or.inl ⟨by rfl,?_⟩) ?_ ?_
     rotate_left
     · intro w';go_simp;with_reducible rfl
     rotate_left
     · simp only [ζl,δa,δb,δc,i64_w,i32_w];rfl
     refine ζk (i:=2) (N:=some 14) (v:=?_) (a':=?_) #[τ,τ,τ,φ,φ,φ,φ,φ] rfl rfl (ζj HT_.out (by kernel_rfl)) (fun _ _ _ h=>h) (Or.inl ⟨by rfl,?_⟩) ?_ ?_
     rotate_left
     · intro w';go_simp;with_reducible rfl
     rotate_left
     · simp only [ζl,δa,δb,δc,i64_w,i32_w];rfl
     refine ζk (i:=3) (N:=some 15) (v:=?_) (a':=?_) #[τ,τ,τ,τ,φ,φ,φ,φ] rfl rfl (ζj HT_.out (by kernel_rfl)) (fun _ _ _ h=>h) (Or.inl ⟨by rfl,?_⟩) ?_ ?_
     rotate_left
     · intro w';go_simp;with_reducible rfl
     rotate_left
     · simp only [ζl,δa,δb,δc,i64_w,i32_w];rfl
     refine ζk (i:=5) (N:=some 17) (v:=?_) (a':=?_) #[τ,τ,τ,τ,φ,τ,φ,φ] rfl rfl (ζj HT_.out (by kernel_rfl)) (fun _ _ _ h=>h) (Or.inl ⟨by rfl,?_⟩) ?_ ?_
     rotate_left
     · intro w';go_simp;with_reducible rfl
     rotate_left
     · simp only [ζl,δa,δb,δc,i64_w,i32_w];rfl
     refine take_ (i:=4) (N:=some 16) (v:=?_) (a':=?_) #[τ,τ,τ,τ,τ,τ,φ,φ] rfl rfl (take_ofW HT_.out HW_.out (by kernel_rfl)) (fun _ _ _ h=>h) (Or.inl ⟨by rfl,?_⟩) hHeld ?_ ?_
     rotate_left
     · rintro w' ⟨s0,s1⟩;go_simp;with_reducible rfl
     rotate_left
     · simp only [ζl,δa,δb,δc,i64_w,i32_w];rfl
     refine one_ (i:=6) (N:=some 18) #[τ,τ,τ,τ,τ,τ,τ,φ] rfl rfl (one_of HT_.out (by kernel_rfl)) (by decide) (fun K hK => ?_)
     refine goes_ Tryz.func48 (by kernel_rfl) rfl #[.int .i64 x1_1] (by rfl) rfl rfl (by (try simp only [δd,δe,δf]);rfl) ?_
     with_reducible refine (laws_markText.calls k1 x1_1 t275 _ A5.out).mono ?_
     rintro e w10 ⟨rfl,hb⟩
     refine ⟨_,rfl,?_⟩
     replace HB:=ζa (δr (by exact HB.out) hb)
     (try clear hb)
     (try clear hb2)
     (try clear hk)
     (try clear hi)
     refine hK.out _ _ ⟨((HB.out.cell (World.block_lt_of_cell? w _ hw274_0)).trans hw274_0),((HB.out.cell (World.block_lt_of_cell? w _ hw274_1)).trans hw274_1)⟩ (fun hHeld => ?_)
     clear hK K
     refine norm_ (a':=?_) ?_ ?_
     rotate_left
     ·
      show ζl _ (some 18) _=_
      simp only [ζl,δa,δb,δc,i64_w,i32_w];rfl
     by_cases c6:((rd_T51 l0 x5_1).f0).toList=t275.toList
     ·
      rw [if_pos c6] at H
      have c6b0:(((rd_T51 l0 x5_1).f0).toList == t275.toList)=τ:=beq_iff_eq.mpr c6
      have c6b1:(((rd_T51 l0 x5_1).f0).toList != t275.toList)=φ:=bne_eq_false_iff_eq.mpr c6
      clear c6
      replace H:=Option.bind_eq_some_iff.mp H
      obtain ⟨t277,A70,H⟩:=H
      replace H:(if ((rd_T51 l0 x5_1).f1).toList=t277.toList then (laws_heldPairS.l0 k1 l0 (ζm ((ζm (x1_1+1))+1)) (ζm (x5_1+1))) else (some (-1)))=some r:=H
      have A7:=ζa A70
      clear A70
      by_cases c8:((rd_T51 l0 x5_1).f1).toList=t277.toList
      ·
       rw [if_pos c8] at H
       have c8b0:(((rd_T51 l0 x5_1).f1).toList == t277.toList)=τ:=beq_iff_eq.mpr c8
       have c8b1:(((rd_T51 l0 x5_1).f1).toList != t277.toList)=φ:=bne_eq_false_iff_eq.mpr c8
       clear c8
       have H':=ζa H
       clear H
       refine ζk (i:=7) (N:=some 19) (v:=?_) (a':=?_) #[τ,τ,τ,τ,τ,τ,τ,τ] rfl rfl (ζj HT_.out (by kernel_rfl)) (fun _ _ _ h=>h) (Or.inl ⟨by rfl,?_⟩) ?_ ?_
       rotate_left
       · intro w';go_simp;with_reducible rfl
       rotate_left
       · simp only [ζl,δa,δb,δc,i64_w,i32_w];rfl
       refine done_ (done_of HT_.out (by kernel_rfl)) ?_
       try go_wp2
       replace HB:=ζa (δj HB.out)
       have p276:0≤(x5_1:Int):=of_decide_eq_true (by (with_reducible assumption))
       have q276:x5_1<(l0.length:Int):=of_decide_eq_true (by (with_reducible assumption))
       obtain ⟨ad276,e276,hx276_0,hx276_1⟩:=at_T51 HR0.out x5_1 p276 q276
       have hw276_1:=hx276_1
       have hw276_0:=hx276_0
       obtain rfl:ad274=ad276:=(by injection e276)
       replace hx276_0:=(HB.out.cell (World.block_lt_of_cell? w _ hx276_0)).trans hx276_0
       replace hx276_1:=(HB.out.cell (World.block_lt_of_cell? w _ hx276_1)).trans hx276_1
       replace p276:=eq_true p276
       replace q276:=eq_true q276
       refine start_ (n:=8) (S:=fun w'=>w'.cell? (ad274.add ((x5_1).toNat * 2))=some (.string ((rd_T51 l0 x5_1).f0))∧w'.cell? ⟨(ad274.add ((x5_1).toNat * 2)).block,(ad274.add ((x5_1).toNat * 2)).off+1,none⟩=some (.string ((rd_T51 l0 x5_1).f1))) (ds:=[]) #[φ,φ,φ,φ,φ,φ,φ,φ] (by kernel_rfl) rfl rfl ⟨((HB.out.cell (World.block_lt_of_cell? w _ hw276_0)).trans hw276_0),((HB.out.cell (World.block_lt_of_cell? w _ hw276_1)).trans hw276_1)⟩ (fun hHeld => ?_);refine with_tabW laws_heldPairS.tab7 laws_heldPairS.bits7 (fun HT_ HW_ => ?_)
       generalize w10.drew=w11 at HB hx276_0 hx276_1 hHeld ⊢
       refine ζk (i:=0) (N:=some 22) (v:=?_) (a':=?_) #[τ,φ,φ,φ,φ,φ,φ,φ] rfl rfl (ζj HT_.out (by kernel_rfl)) (fun _ _ _ h=>h) (Or.inl ⟨by rfl,?_⟩) ?_ ?_
       rotate_left
       · intro w';go_simp;with_reducible rfl
       rotate_left
       · simp only [ζl,δa,δb,δc,i64_w,i32_w];rfl
       refine ζk (i:=1) (N:=some 23) (v:=?_) (a':=?_) #[τ,τ,φ,φ,φ,φ,φ,φ] rfl rfl (ζj HT_.out (by kernel_rfl)) (fun _ _ _ h=>h) (Or.inl ⟨by rfl,?_⟩) ?_ ?_
       rotate_left
       · intro w';go_simp;with_reducible rfl
       rotate_left
       · simp only [ζl,δa,δb,δc,i64_w,i32_w];rfl
       refine ζk (i:=2) (N:=some 24) (v:=?_) (a':=?_) #[τ,τ,τ,φ,φ,φ,φ,φ] rfl rfl (ζj HT_.out (by kernel_rfl)) (fun _ _ _ h=>h) (Or.inl ⟨by rfl,?_⟩) ?_ ?_
       rotate_left
       · intro w';go_simp;with_reducible rfl
       rotate_left
       · simp only [ζl,δa,δb,δc,i64_w,i32_w];rfl
       refine ζk (i:=3) (N:=some 25) (v:=?_) (a':=?_) #[τ,τ,τ,τ,φ,φ,φ,φ] rfl rfl (ζj HT_.out (by kernel_rfl)) (fun _ _ _ h=>h) (Or.inl ⟨by rfl,?_⟩) ?_ ?_
       rotate_left
       · intro w';go_simp;with_reducible rfl
       rotate_left
       · simp only [ζl,δa,δb,δc,i64_w,i32_w];rfl
       refine ζk (i:=5) (N:=some 27) (v:=?_) (a':=?_) #[τ,τ,τ,τ,φ,τ,φ,φ] rfl rfl (ζj HT_.out (by kernel_rfl)) (fun _ _ _ h=>h) (Or.inl ⟨by rfl,?_⟩) ?_ ?_
       rotate_left
       · intro w';go_simp;with_reducible rfl
       rotate_left
       · simp only [ζl,δa,δb,δc,i64_w,i32_w];rfl
       refine take_ (i:=4) (N:=some 26) (v:=?_) (a':=?_) #[τ,τ,τ,τ,τ,τ,φ,φ] rfl rfl (take_ofW HT_.out HW_.out (by kernel_rfl)) (fun _ _ _ h=>h) (Or.inl ⟨by rfl,?_⟩) hHeld ?_ ?_
       rotate_left
       · rintro w' ⟨s0,s1⟩;go_simp;with_reducible rfl
       rotate_left
       · simp only [ζl,δa,δb,δc,i64_w,i32_w];rfl
       refine one_ (i:=6) (N:=some 28) #[τ,τ,τ,τ,τ,τ,τ,φ] rfl rfl (one_of HT_.out (by kernel_rfl)) (by decide) (fun K hK => ?_)
       refine goes_ Tryz.func48 (by kernel_rfl) rfl #[.int .i64 (ζm (x1_1+1))] (by rfl) rfl rfl (by (try simp only [δd,δe,δf]);rfl) ?_
       with_reducible refine (laws_markText.calls k1 (ζm (x1_1+1)) t277 _ A7.out).mono ?_
       rintro e w12 ⟨rfl,hb⟩
       refine ⟨_,rfl,?_⟩
       replace HB:=ζa (δr (by exact HB.out) hb)
       (try clear hb)
       (try clear hb2)
       (try clear hk)
       (try clear hi)
       refine hK.out _ _ ⟨((HB.out.cell (World.block_lt_of_cell? w _ hw276_0)).trans hw276_0),((HB.out.cell (World.block_lt_of_cell? w _ hw276_1)).trans hw276_1)⟩ (fun hHeld => ?_)
       clear hK K
       refine norm_ (a':=?_) ?_ ?_
       rotate_left
       ·
        show ζl _ (some 28) _=_
        simp only [ζl,δa,δb,δc,i64_w,i32_w];rfl
       refine ζk (i:=7) (N:=some 29) (v:=?_) (a':=?_) #[τ,τ,τ,τ,τ,τ,τ,τ] rfl rfl (ζj HT_.out (by kernel_rfl)) (fun _ _ _ h=>h) (Or.inl ⟨by rfl,?_⟩) ?_ ?_
       rotate_left
       · intro w';go_simp;with_reducible rfl
       rotate_left
       · simp only [ζl,δa,δb,δc,i64_w,i32_w];rfl
       refine done_ (done_of HT_.out (by kernel_rfl)) ?_
       try go_wp2
       go_roundg k1
       case measure=>have:=HK1.out;omega
       case rel=>exact ⟨(ζm ((ζm (x1_1+1))+1)),(ζm (x5_1+1)),(by rfl),(by rfl),H',⟨by have:=HK1.out;omega⟩,⟨by repeat ((with_reducible exact HB.out))⟩⟩
      ·
       rw [if_neg c8] at H
       have c8b0:(((rd_T51 l0 x5_1).f1).toList == t277.toList)=φ:=beq_eq_false_iff_ne.mpr c8
       have c8b1:(((rd_T51 l0 x5_1).f1).toList != t277.toList)=τ:=bne_iff_ne.mpr c8
       obtain rfl:=Option.some.inj H
       refine ζk (i:=7) (N:=some 19) (v:=?_) (a':=?_) #[τ,τ,τ,τ,τ,τ,τ,τ] rfl rfl (ζj HT_.out (by kernel_rfl)) (fun _ _ _ h=>h) (Or.inl ⟨by rfl,?_⟩) ?_ ?_
       rotate_left
       · intro w';go_simp;with_reducible rfl
       rotate_left
       · simp only [ζl,δa,δb,δc,i64_w,i32_w];rfl
       refine done_ (done_of HT_.out (by kernel_rfl)) ?_
       try go_wp2
       replace HB:=ζa (δj HB.out)
       have p276:0≤(x5_1:Int):=of_decide_eq_true (by (with_reducible assumption))
       have q276:x5_1<(l0.length:Int):=of_decide_eq_true (by (with_reducible assumption))
       obtain ⟨ad276,e276,hx276_0,hx276_1⟩:=at_T51 HR0.out x5_1 p276 q276
       have hw276_1:=hx276_1
       have hw276_0:=hx276_0
       obtain rfl:ad274=ad276:=(by injection e276)
       replace hx276_0:=(HB.out.cell (World.block_lt_of_cell? w _ hx276_0)).trans hx276_0
       replace hx276_1:=(HB.out.cell (World.block_lt_of_cell? w _ hx276_1)).trans hx276_1
       replace p276:=eq_true p276
       replace q276:=eq_true q276
       refine start_ (n:=8) (S:=fun w'=>w'.cell? (ad274.add ((x5_1).toNat * 2))=some (.string ((rd_T51 l0 x5_1).f0))∧w'.cell? ⟨(ad274.add ((x5_1).toNat * 2)).block,(ad274.add ((x5_1).toNat * 2)).off+1,none⟩=some (.string ((rd_T51 l0 x5_1).f1))) (ds:=[]) #[φ,φ,φ,φ,φ,φ,φ,φ] (by kernel_rfl) rfl rfl ⟨((HB.out.cell (World.block_lt_of_cell? w _ hw276_0)).trans hw276_0),((HB.out.cell (World.block_lt_of_cell? w _ hw276_1)).trans hw276_1)⟩ (fun hHeld => ?_);refine with_tabW laws_heldPairS.tab7 laws_heldPairS.bits7 (fun HT_ HW_ => ?_)
       generalize w10.drew=w15 at HB hx276_0 hx276_1 hHeld ⊢
       refine ζk (i:=0) (N:=some 22) (v:=?_) (a':=?_) #[τ,φ,φ,φ,φ,φ,φ,φ] rfl rfl (ζj HT_.out (by kernel_rfl)) (fun _ _ _ h=>h) (Or.inl ⟨by rfl,?_⟩) ?_ ?_
       rotate_left
       · intro w';go_simp;with_reducible rfl
       rotate_left
       · simp only [ζl,δa,δb,δc,i64_w,i32_w];rfl
       refine ζk (i:=1) (N:=some 23) (v:=?_) (a':=?_) #[τ,τ,φ,φ,φ,φ,φ,φ] rfl rfl (ζj HT_.out (by kernel_rfl)) (fun _ _ _ h=>h) (Or.inl ⟨by rfl,?_⟩) ?_ ?_
       rotate_left
       · intro w';go_simp;with_reducible rfl
       rotate_left
       · simp only [ζl,δa,δb,δc,i64_w,i32_w];rfl
       refine ζk (i:=2) (N:=some 24) (v:=?_) (a':=?_) #[τ,τ,τ,φ,φ,φ,φ,φ] rfl rfl (ζj HT_.out (by kernel_rfl)) (fun _ _ _ h=>h) (Or.inl ⟨by rfl,?_⟩) ?_ ?_
       rotate_left
       · intro w';go_simp;with_reducible rfl
       rotate_left
       · simp only [ζl,δa,δb,δc,i64_w,i32_w];rfl
       refine ζk (i:=3) (N:=some 25) (v:=?_) (a':=?_) #[τ,τ,τ,τ,φ,φ,φ,φ] rfl rfl (ζj HT_.out (by kernel_rfl)) (fun _ _ _ h=>h) (Or.inl ⟨by rfl,?_⟩) ?_ ?_
       rotate_left
       · intro w';go_simp;with_reducible rfl
       rotate_left
       · simp only [ζl,δa,δb,δc,i64_w,i32_w];rfl
       refine ζk (i:=5) (N:=some 27) (v:=?_) (a':=?_) #[τ,τ,τ,τ,φ,τ,φ,φ] rfl rfl (ζj HT_.out (by kernel_rfl)) (fun _ _ _ h=>h) (Or.inl ⟨by rfl,?_⟩) ?_ ?_
       rotate_left
       · intro w';go_simp;with_reducible rfl
       rotate_left
       · simp only [ζl,δa,δb,δc,i64_w,i32_w];rfl
       refine take_ (i:=4) (N:=some 26) (v:=?_) (a':=?_) #[τ,τ,τ,τ,τ,τ,φ,φ] rfl rfl (take_ofW HT_.out HW_.out (by kernel_rfl)) (fun _ _ _ h=>h) (Or.inl ⟨by rfl,?_⟩) hHeld ?_ ?_
       rotate_left
       · rintro w' ⟨s0,s1⟩;go_simp;with_reducible rfl
       rotate_left
       · simp only [ζl,δa,δb,δc,i64_w,i32_w];rfl
       refine one_ (i:=6) (N:=some 28) #[τ,τ,τ,τ,τ,τ,τ,φ] rfl rfl (one_of HT_.out (by kernel_rfl)) (by decide) (fun K hK => ?_)
       refine goes_ Tryz.func48 (by kernel_rfl) rfl #[.int .i64 (ζm (x1_1+1))] (by rfl) rfl rfl (by (try simp only [δd,δe,δf]);rfl) ?_
       with_reducible refine (laws_markText.calls k1 (ζm (x1_1+1)) t277 _ A7.out).mono ?_
       rintro e w16 ⟨rfl,hb⟩
       refine ⟨_,rfl,?_⟩
       replace HB:=ζa (δr (by exact HB.out) hb)
       (try clear hb)
       (try clear hb2)
       (try clear hk)
       (try clear hi)
       refine hK.out _ _ ⟨((HB.out.cell (World.block_lt_of_cell? w _ hw276_0)).trans hw276_0),((HB.out.cell (World.block_lt_of_cell? w _ hw276_1)).trans hw276_1)⟩ (fun hHeld => ?_)
       clear hK K
       refine norm_ (a':=?_) ?_ ?_
       rotate_left
       ·
        show ζl _ (some 28) _=_
        simp only [ζl,δa,δb,δc,i64_w,i32_w];rfl
       refine ζk (i:=7) (N:=some 29) (v:=?_) (a':=?_) #[τ,τ,τ,τ,τ,τ,τ,τ] rfl rfl (ζj HT_.out (by kernel_rfl)) (fun _ _ _ h=>h) (Or.inl ⟨by rfl,?_⟩) ?_ ?_
       rotate_left
       · intro w';go_simp;with_reducible rfl
       rotate_left
       · simp only [ζl,δa,δb,δc,i64_w,i32_w];rfl
       refine done_ (done_of HT_.out (by kernel_rfl)) ?_
       try go_wp2
       go_ret
       exact ⟨by rfl,by repeat ((with_reducible exact HB.out))⟩
     ·
      rw [if_neg c6] at H
      have c6b0:(((rd_T51 l0 x5_1).f0).toList == t275.toList)=φ:=beq_eq_false_iff_ne.mpr c6
      have c6b1:(((rd_T51 l0 x5_1).f0).toList != t275.toList)=τ:=bne_iff_ne.mpr c6
      obtain rfl:=Option.some.inj H
      refine ζk (i:=7) (N:=some 19) (v:=?_) (a':=?_) #[τ,τ,τ,τ,τ,τ,τ,τ] rfl rfl (ζj HT_.out (by kernel_rfl)) (fun _ _ _ h=>h) (Or.inl ⟨by rfl,?_⟩) ?_ ?_
      rotate_left
      · intro w';go_simp;with_reducible rfl
      rotate_left
      · simp only [ζl,δa,δb,δc,i64_w,i32_w];rfl
      refine done_ (done_of HT_.out (by kernel_rfl)) ?_
      try go_wp2
      go_ret
      exact ⟨by rfl,by repeat ((with_reducible exact HB.out))⟩
    ·
     rw [if_neg c4] at H
     exact absurd H (by simp)
   ·
    rw [if_neg c3] at H
    have c3b0:decide (x5_1<(l0.length:Int))=φ:=decide_eq_false c3
    clear c3
    obtain rfl:=Option.some.inj H
    go_wp2
    go_ret
    exact ⟨by rfl,by repeat ((with_reducible exact HB.out))⟩



/-! ### spec_l01In: function 77 -/
def spec_l01In.f (a0:Int) (a1:Int) (a2:Int):Option (Bool):=if a0 ≥ a1 then (some (decide (a0≤a2))) else (some φ)
set_option maxHeartbeats 8000000 in
set_option maxRecDepth 100000 in
theorem spec_l01In.calls (a0:Int) (a1:Int) (a2:Int) (r:Bool) (w:World) (h:spec_l01In.f a0 a1 a2=some r) :
  Calls Tryz.prog 77 #[.int .i64 a0,.int .i64 a1,.int .i64 a2] w fun e w'=>e = .returned (.bool r)∧Drawn0 w w':=by
 have H:(if a0 ≥ a1 then (some (decide (a0≤a2))) else (some φ))=some r:=h
 clear h
 by_cases c4:a0 ≥ a1
 ·
  rw [if_pos c4] at H
  have c4b0:decide (a1≤a0)=τ:=decide_eq_true c4
  clear c4
  obtain rfl:=Option.some.inj H
  go_enter Tryz.func77,Tryz.ntmps77
  go_wp2
  go_ret
  exact ⟨by rfl,by repeat (exact Drawn0.refl _)⟩
 ·
  rw [if_neg c4] at H
  have c4b0:decide (a1≤a0)=φ:=decide_eq_false c4
  clear c4
  obtain rfl:=Option.some.inj H
  go_enter Tryz.func77,Tryz.ntmps77
  go_wp2
  go_ret
  exact ⟨by rfl,by repeat (exact Drawn0.refl _)⟩


open Go.Proofs.YtabmfhnhmoiljaaGreatDoorW.PrintWords renaming gate_callee → δv

/-! ### spec_l03Key: function 181 -/
def spec_l03Key.f (a0:ByteArray):Option (Bool):=(spec_l01In.f (a0.size:Int) 1 60).bind fun t104=>(some t104)
set_option maxHeartbeats 8000000 in
set_option maxRecDepth 100000 in
theorem spec_l03Key.calls (a0:ByteArray) (r:Bool) (w:World) (h:spec_l03Key.f a0=some r) :
  Calls Tryz.prog 181 #[.string a0] w fun e w'=>e = .returned (.bool r)∧Drawn0 w w':=by
 have H:((spec_l01In.f (a0.size:Int) 1 60).bind fun t104=>(some t104))=some r:=h
 clear h
 replace H:=Option.bind_eq_some_iff.mp H
 obtain ⟨t104,A20,H⟩:=H
 replace H:(some t104)=some r:=H
 have A2:=ζa A20
 clear A20
 obtain rfl:=Option.some.inj H
 go_enter Tryz.func181,Tryz.ntmps181
 go_wp2_with (((with_reducible refine δv (f:=77) rfl ?_);refine goesL_ (some 5) rfl rfl Tryz.func77 (by kernel_rfl) rfl #[.int .i64 (a0.size:Int),.int .i64 1,.int .i64 60] rfl (by (try simp only [δd,δe,δf]);rfl) ?_;(with_reducible refine (spec_l01In.calls (a0.size:Int) 1 60 t104 _ A2.out).mono ?_);rintro e w' ⟨rfl,⟨nd,rfl⟩⟩;refine ⟨_,rfl,?_⟩))
 go_ret
 exact ⟨by rfl,by repeat (first|exact Drawn0.refl _|apply Drawn0.step)⟩


open Go.Proofs.YtabmfhnhmoiljaaGreatDoorW.PrintWords renaming gate_dst → δx, box_event → δz, below_size → δs, below_step → δr, blk_cell → δl, blk_frozen → δm, gate_callee → δv, pw_below_drewN → δi

/-! ### spec_l03Pair: function 132 -/
def spec_l03Pair.f (a0_0:ByteArray) (a0_1:ByteArray):Option (Bool):=(spec_l03Key.f a0_0).bind fun t106=>(if t106=τ then (some (decide ((a0_1.size:Int)≤1000))) else (some φ))
set_option maxHeartbeats 8000000 in
set_option maxRecDepth 100000 in
theorem spec_l03Pair.calls (a0_0:ByteArray) (a0_1:ByteArray) (r:Bool) (w:World) (h:spec_l03Pair.f a0_0 a0_1=some r) :
  Calls Tryz.prog 132 #[.agg #[.string a0_0,.string a0_1]] w fun e w'=>e = .returned (.bool r)∧Below w.heap.size w w':=by
 have hu51:=Tryz.underlying51
 have HB:=ζa (Below.refl w.heap.size w)
 have H:((spec_l03Key.f a0_0).bind fun t106=>(if t106=τ then (some (decide ((a0_1.size:Int)≤1000))) else (some φ)))=some r:=h
 clear h
 replace H:=Option.bind_eq_some_iff.mp H
 obtain ⟨t106,A20,H⟩:=H
 replace H:(if t106=τ then (some (decide ((a0_1.size:Int)≤1000))) else (some φ))=some r:=H
 have A2:=ζa A20
 clear A20
 by_cases c3:t106=τ
 ·
  subst c3
  have H1:(some (decide ((a0_1.size:Int)≤1000)))=some r:=by rw [if_pos rfl] at H;exact H
  clear H
  have H:=H1
  clear H1
  obtain rfl:=Option.some.inj H
  go_enter Tryz.func132,Tryz.ntmps132
  go_wp2_with (first|((with_reducible refine δx (N:=1) rfl ?_);(try (refine gate_guard (by rfl) ?_;dsimp only));refine δz ?hg (N:=1) ?hd (cs:=#[.string a0_0,.string a0_1]) (t:=51) ?hr ?_;(case hd=>rfl);(case hg=>rfl);(case hr=>(go_simp;done));intro gb105 hg w4 hbox hb;have BK105:=ζa (hbox);have GW105:=ζa ((by rw [hg];exact (δs (by exact HB.out)):w.heap.size≤gb105));have GE105:=ζa ((by rw [hg];exact (δs (by exact HB.out)):w.heap.size≤gb105));replace HB:=ζa (δr (by exact HB.out) hb);clear hb hbox hg;have hcz5_0:w4.cell? ⟨gb105,0,none⟩=some (.string a0_0):=(δl BK105.out 0).trans rfl;have hcz5_1:w4.cell? ⟨gb105,1,none⟩=some (.string a0_1):=(δl BK105.out 1).trans rfl;have hfz5_0:=δm BK105.out 0;have hfz5_1:=δm BK105.out 1)|((with_reducible refine δv (f:=181) rfl ?_);refine goesL_ (some 5) rfl rfl Tryz.func181 (by kernel_rfl) rfl #[.string a0_0] rfl (by (try simp only [δd,δe,δf]);rfl) ?_;(with_reducible refine (spec_l03Key.calls a0_0 τ _ A2.out).mono ?_);rintro e w' ⟨rfl,⟨nd,rfl⟩⟩;refine ⟨_,rfl,?_⟩))
  go_ret
  exact ⟨by rfl,by repeat ((with_reducible first|exact HB.out|apply δi))⟩
 ·
  replace c3:=Bool.eq_false_iff.mpr c3
  subst c3
  have H1:(some φ)=some r:=by rw [if_neg (show ¬ (φ=τ) by decide)] at H;exact H
  clear H
  have H:=H1
  clear H1
  obtain rfl:=Option.some.inj H
  go_enter Tryz.func132,Tryz.ntmps132
  go_wp2_with (first|((with_reducible refine δx (N:=1) rfl ?_);(try (refine gate_guard (by rfl) ?_;dsimp only));refine δz ?hg (N:=1) ?hd (cs:=#[.string a0_0,.string a0_1]) (t:=51) ?hr ?_;(case hd=>rfl);(case hg=>rfl);(case hr=>(go_simp;done));intro gb105 hg w6 hbox hb;have BK105:=ζa (hbox);have GW105:=ζa ((by rw [hg];exact (δs (by exact HB.out)):w.heap.size≤gb105));have GE105:=ζa ((by rw [hg];exact (δs (by exact HB.out)):w.heap.size≤gb105));replace HB:=ζa (δr (by exact HB.out) hb);clear hb hbox hg;have hcz7_0:w6.cell? ⟨gb105,0,none⟩=some (.string a0_0):=(δl BK105.out 0).trans rfl;have hcz7_1:w6.cell? ⟨gb105,1,none⟩=some (.string a0_1):=(δl BK105.out 1).trans rfl;have hfz7_0:=δm BK105.out 0;have hfz7_1:=δm BK105.out 1)|((with_reducible refine δv (f:=181) rfl ?_);refine goesL_ (some 5) rfl rfl Tryz.func181 (by kernel_rfl) rfl #[.string a0_0] rfl (by (try simp only [δd,δe,δf]);rfl) ?_;(with_reducible refine (spec_l03Key.calls a0_0 φ _ A2.out).mono ?_);rintro e w' ⟨rfl,⟨nd,rfl⟩⟩;refine ⟨_,rfl,?_⟩))
  go_ret
  exact ⟨by rfl,by repeat ((with_reducible first|exact HB.out|apply δi))⟩



/-! ### spec_StoreOK: function 74 -/
def spec_StoreOK.l0:Nat→List (S51)→Int→Option (Bool)
 | 0,_,_=>none
 | k+1,x0,x3=>if x3<(x0.length:Int) then (if 0≤x3 then ((spec_l03Pair.f ((rd_T51 x0 x3).f0) ((rd_T51 x0 x3).f1)).bind fun t108=>(if t108=τ then (if x3 > 0 then (if 0≤(ζm (x3 - 1)) then (if (ζm (x3 - 1))<(x0.length:Int) then (if ((Op.bytesLess (((rd_T51 x0 (ζm (x3 - 1))).f0).toList) (((rd_T51 x0 x3).f0).toList))=τ) then (spec_StoreOK.l0 k x0 (ζm (x3+1))) else (some φ)) else (none)) else (none)) else (spec_StoreOK.l0 k x0 (ζm (x3+1)))) else (some φ))) else (none)) else (some τ)
def spec_StoreOK.f (k:Nat) (l0:List (S51)):Option (Bool):=if (l0.length:Int) > 4096 then (some φ) else (if (l0.length:Int) > 400 then (some φ) else (spec_StoreOK.l0 k l0 0))
def spec_StoreOK.T8:Bool × List (List Nat × List Nat):=(τ,[([],[]),([],[]),([0,1],[0,1]),([2],[2]),([3],[3]),([4],[4]),([5,4],[5]),([6],[6]),([7,6],[6,7]),([8,6,6],[6,8]),([9],[9]),([9],[9]),([11,9],[9,11]),([10,12,9],[9,10,12]),([13,9],[9,13]),([14,9],[9,14]),([9],[9]),([9],[9]),([16,17,9],[9,16,17]),([18,9],[9,18]),([19,9],[9,19]),([15,20,9],[9,15,20]),([9,21,6],[6,9,21]),([6,22],[6,22])])
def spec_StoreOK.B8:List Nat:=[0,0,3,7,15,31,63,127,255,511,1023,1023,3071,8191,16383,32767,1023,1023,197631,459775,984063,2097151,4194303,8388607]
theorem spec_StoreOK.tab8:rtab .any (opsOf Tryz.f74 8)=spec_StoreOK.T8:=by kernel_rfl
theorem spec_StoreOK.bits8:waitsOk spec_StoreOK.T8.2 spec_StoreOK.B8=τ:=by kernel_rfl
set_option maxHeartbeats 8000000 in
set_option maxRecDepth 100000 in
theorem spec_StoreOK.calls (k:Nat) (A0:Option Addr) (c0:Nat) (l0:List (S51)) (r:Bool) (w:World) (hr0:Kd.C k51 w A0 l0.length l0) (hc0:l0.length≤c0) (h:spec_StoreOK.f k l0=some r) :
  Calls Tryz.prog 74 #[.slice A0 l0.length c0] w fun e w'=>e = .returned (.bool r)∧Below w.heap.size w w':=by
 have hu51:=Tryz.underlying51
 have HR0:=ζa hr0
 have HC0:=ζa hc0
 clear hr0 hc0
 have HB:=ζa (Below.refl w.heap.size w)
 have H:(if (l0.length:Int) > 4096 then (some φ) else (if (l0.length:Int) > 400 then (some φ) else (spec_StoreOK.l0 k l0 0)))=some r:=h
 clear h
 by_cases c2:(l0.length:Int) > 4096
 ·
  rw [if_pos c2] at H
  have c2b0:decide (4096<(l0.length:Int))=τ:=decide_eq_true c2
  have c2b1:decide (4096<l0.length)=τ:=decide_eq_true (by omega)
  clear c2
  obtain rfl:=Option.some.inj H
  go_enter Tryz.func74,Tryz.ntmps74
  go_wp2
  go_ret
  exact ⟨by rfl,by repeat ((with_reducible exact HB.out))⟩
 ·
  rw [if_neg c2] at H
  have c2b0:decide (4096<(l0.length:Int))=φ:=decide_eq_false c2
  have c2b1:decide (4096<l0.length)=φ:=decide_eq_false (by omega)
  clear c2
  by_cases c3:(l0.length:Int) > 400
  ·
   rw [if_pos c3] at H
   have c3b0:decide (400<(l0.length:Int))=τ:=decide_eq_true c3
   have c3b1:decide (400<l0.length)=τ:=decide_eq_true (by omega)
   clear c3
   obtain rfl:=Option.some.inj H
   go_enter Tryz.func74,Tryz.ntmps74
   go_wp2
   go_ret
   exact ⟨by rfl,by repeat ((with_reducible exact HB.out))⟩
  ·
   rw [if_neg c3] at H
   have c3b0:decide (400<(l0.length:Int))=φ:=decide_eq_false c3
   have c3b1:decide (400<l0.length)=φ:=decide_eq_false (by omega)
   clear c3
   have H':=ζa H
   clear H
   go_enter Tryz.func74,Tryz.ntmps74
   go_wp2
   go_loopg [3] k (fun kq v3 w' => ∃ (x3_1:Int),v3 = .int .i64 x3_1∧Aside0 (spec_StoreOK.l0 kq l0 x3_1=some r)∧Aside0 (kq≤k)∧Aside0 (Below w.heap.size w w'))
   case atStart=>exact ⟨(0),(by rfl),H',⟨Nat.le_refl _⟩,⟨by repeat ((with_reducible exact HB.out))⟩⟩
   case round =>
    clear H'
    try clear c2
    try clear c2b0
    try clear c2b1
    try clear p2
    try clear c3
    try clear c3b0
    try clear c3b1
    obtain ⟨x3_1,rfl,HA,HK1,HB⟩:=hrel
    cases gk with
    | zero=>exact absurd HA.out (by simp [spec_StoreOK.l0])
    | succ k1 =>
     have H:=HA.out
     clear HA
     simp only [spec_StoreOK.l0] at H
     by_cases c4:x3_1<(l0.length:Int)
     ·
      rw [if_pos c4] at H
      have c4b0:decide (x3_1<(l0.length:Int))=τ:=decide_eq_true c4
      clear c4
      by_cases c5:0≤x3_1
      ·
       rw [if_pos c5] at H
       have c5b0:decide (0≤x3_1)=τ:=decide_eq_true c5
       clear c5
       replace H:=Option.bind_eq_some_iff.mp H
       obtain ⟨t108,A60,H⟩:=H
       replace H:(if t108=τ then (if x3_1 > 0 then (if 0≤(ζm (x3_1 - 1)) then (if (ζm (x3_1 - 1))<(l0.length:Int) then (if ((Op.bytesLess (((rd_T51 l0 (ζm (x3_1 - 1))).f0).toList) (((rd_T51 l0 x3_1).f0).toList))=τ) then (spec_StoreOK.l0 k1 l0 (ζm (x3_1+1))) else (some φ)) else (none)) else (none)) else (spec_StoreOK.l0 k1 l0 (ζm (x3_1+1)))) else (some φ))=some r:=H
       have A6:=ζa A60
       clear A60
       by_cases c7:t108=τ
       ·
        subst c7
        have H1:(if x3_1 > 0 then (if 0≤(ζm (x3_1 - 1)) then (if (ζm (x3_1 - 1))<(l0.length:Int) then (if ((Op.bytesLess (((rd_T51 l0 (ζm (x3_1 - 1))).f0).toList) (((rd_T51 l0 x3_1).f0).toList))=τ) then (spec_StoreOK.l0 k1 l0 (ζm (x3_1+1))) else (some φ)) else (none)) else (none)) else (spec_StoreOK.l0 k1 l0 (ζm (x3_1+1))))=some r:=by rw [if_pos rfl] at H;exact H
        clear H
        have H:=H1
        clear H1
        by_cases c8:x3_1 > 0
        ·
         rw [if_pos c8] at H
         have c8b0:decide (0<x3_1)=τ:=decide_eq_true c8
         clear c8
         obtain ⟨ji9,hji9⟩ : ∃ j_:Int,(ζm (x3_1 - 1))=j_:=⟨_,rfl⟩
         replace H:(if 0≤(ji9) then (if (ji9)<(l0.length:Int) then (if ((Op.bytesLess (((rd_T51 l0 (ji9)).f0).toList) (((rd_T51 l0 x3_1).f0).toList))=τ) then (spec_StoreOK.l0 k1 l0 (ζm (x3_1+1))) else (some φ)) else (none)) else (none))=some r:=by (rw [hji9] at H;exact H)
         (try rw [hji9] at A6)
         have hji9w:(IntKind.i64.wrap (x3_1 - 1))=ji9:=(i64_w _).trans hji9
         by_cases c10:0≤(ji9)
         ·
          rw [if_pos c10] at H
          have c10b0:decide (0≤(ji9))=τ:=decide_eq_true c10
          clear c10
          by_cases c11:(ji9)<(l0.length:Int)
          ·
           rw [if_pos c11] at H
           have c11b0:decide ((ji9)<(l0.length:Int))=τ:=decide_eq_true c11
           clear c11
           try go_wp2
           replace HB:=ζa (δj HB.out)
           have p107:0≤(x3_1:Int):=of_decide_eq_true (by (with_reducible assumption))
           have q107:x3_1<(l0.length:Int):=of_decide_eq_true (by (with_reducible assumption))
           obtain ⟨ad107,e107,hx107_0,hx107_1⟩:=at_T51 HR0.out x3_1 p107 q107
           have hw107_1:=hx107_1
           have hw107_0:=hx107_0
           cases e107
           replace hx107_0:=(HB.out.cell (World.block_lt_of_cell? w _ hx107_0)).trans hx107_0
           replace hx107_1:=(HB.out.cell (World.block_lt_of_cell? w _ hx107_1)).trans hx107_1
           replace p107:=eq_true p107
           replace q107:=eq_true q107
           have p109:0≤((ji9):Int):=of_decide_eq_true (by (with_reducible assumption))
           have q109:(ji9)<(l0.length:Int):=of_decide_eq_true (by (with_reducible assumption))
           obtain ⟨ad109,e109,hx109_0,hx109_1⟩:=at_T51 HR0.out (ji9) p109 q109
           have hw109_1:=hx109_1
           have hw109_0:=hx109_0
           obtain rfl:ad107=ad109:=(by injection e109)
           replace hx109_0:=(HB.out.cell (World.block_lt_of_cell? w _ hx109_0)).trans hx109_0
           replace hx109_1:=(HB.out.cell (World.block_lt_of_cell? w _ hx109_1)).trans hx109_1
           replace p109:=eq_true p109
           replace q109:=eq_true q109
           have p110:0≤(x3_1:Int):=of_decide_eq_true (by (with_reducible assumption))
           have q110:x3_1<(l0.length:Int):=of_decide_eq_true (by (with_reducible assumption))
           obtain ⟨ad110,e110,hx110_0,hx110_1⟩:=at_T51 HR0.out x3_1 p110 q110
           have hw110_1:=hx110_1
           have hw110_0:=hx110_0
           obtain rfl:ad107=ad110:=(by injection e110)
           replace hx110_0:=(HB.out.cell (World.block_lt_of_cell? w _ hx110_0)).trans hx110_0
           replace hx110_1:=(HB.out.cell (World.block_lt_of_cell? w _ hx110_1)).trans hx110_1
           replace p110:=eq_true p110
           replace q110:=eq_true q110
           refine start_ (n:=24) (S:=fun w'=>w'.cell? (ad107.add ((x3_1).toNat * 2))=some (.string ((rd_T51 l0 x3_1).f0))∧w'.cell? ⟨(ad107.add ((x3_1).toNat * 2)).block,(ad107.add ((x3_1).toNat * 2)).off+1,none⟩=some (.string ((rd_T51 l0 x3_1).f1))∧w'.cell? (ad107.add (((ji9)).toNat * 2))=some (.string ((rd_T51 l0 (ji9)).f0))∧w'.cell? ⟨(ad107.add (((ji9)).toNat * 2)).block,(ad107.add (((ji9)).toNat * 2)).off+1,none⟩=some (.string ((rd_T51 l0 (ji9)).f1))∧w'.cell? (ad107.add ((x3_1).toNat * 2))=some (.string ((rd_T51 l0 x3_1).f0))∧w'.cell? ⟨(ad107.add ((x3_1).toNat * 2)).block,(ad107.add ((x3_1).toNat * 2)).off+1,none⟩=some (.string ((rd_T51 l0 x3_1).f1))) (ds:=[]) #[φ,φ,φ,φ,φ,φ,φ,φ,φ,φ,φ,φ,φ,φ,φ,φ,φ,φ,φ,φ,φ,φ,φ,φ] (by kernel_rfl) rfl rfl ⟨((HB.out.cell (World.block_lt_of_cell? w _ hw107_0)).trans hw107_0),((HB.out.cell (World.block_lt_of_cell? w _ hw107_1)).trans hw107_1),((HB.out.cell (World.block_lt_of_cell? w _ hw109_0)).trans hw109_0),((HB.out.cell (World.block_lt_of_cell? w _ hw109_1)).trans hw109_1),((HB.out.cell (World.block_lt_of_cell? w _ hw110_0)).trans hw110_0),((HB.out.cell (World.block_lt_of_cell? w _ hw110_1)).trans hw110_1)⟩ (fun hHeld => ?_);refine with_tabW spec_StoreOK.tab8 spec_StoreOK.bits8 (fun HT_ HW_ => ?_)
           generalize wr.drew=w13 at HB hx107_0 hx107_1 hx109_0 hx109_1 hx110_0 hx110_1 hHeld ⊢
           refine ζk (i:=0) (N:=some 16) (v:=?_) (a':=?_) #[τ,φ,φ,φ,φ,φ,φ,φ,φ,φ,φ,φ,φ,φ,φ,φ,φ,φ,φ,φ,φ,φ,φ,φ] rfl rfl (ζj HT_.out (by kernel_rfl)) (fun _ _ _ h=>h) (Or.inl ⟨by rfl,?_⟩) ?_ ?_
           rotate_left
           · intro w';go_simp;with_reducible rfl
           rotate_left
           · simp only [ζl,δa,δb,δc,i64_w,i32_w];rfl
           refine ζk (i:=1) (N:=some 17) (v:=?_) (a':=?_) #[τ,τ,φ,φ,φ,φ,φ,φ,φ,φ,φ,φ,φ,φ,φ,φ,φ,φ,φ,φ,φ,φ,φ,φ] rfl rfl (ζj HT_.out (by kernel_rfl)) (fun _ _ _ h=>h) (Or.inl ⟨by rfl,?_⟩) ?_ ?_
           rotate_left
           · intro w';go_simp;with_reducible rfl
           rotate_left
           · simp only [ζl,δa,δb,δc,i64_w,i32_w];rfl
           refine ζk (i:=2) (N:=some 18) (v:=?_) (a':=?_) #[τ,τ,τ,φ,φ,φ,φ,φ,φ,φ,φ,φ,φ,φ,φ,φ,φ,φ,φ,φ,φ,φ,φ,φ] rfl rfl (ζj HT_.out (by kernel_rfl)) (fun _ _ _ h=>h) (Or.inl ⟨by rfl,?_⟩) ?_ ?_
           rotate_left
           · intro w';go_simp;with_reducible rfl
           rotate_left
           · simp only [ζl,δa,δb,δc,i64_w,i32_w];rfl
           refine take_ (i:=3) (N:=some 19) (v:=?_) (a':=?_) #[τ,τ,τ,τ,φ,φ,φ,φ,φ,φ,φ,φ,φ,φ,φ,φ,φ,φ,φ,φ,φ,φ,φ,φ] rfl rfl (take_ofW HT_.out HW_.out (by kernel_rfl)) (fun _ _ _ h=>h) (Or.inl ⟨by rfl,?_⟩) hHeld ?_ ?_
           rotate_left
           · rintro w' ⟨s0,s1,s2,s3,s4,s5⟩;go_simp;with_reducible rfl
           rotate_left
           · simp only [ζl,δa,δb,δc,i64_w,i32_w];rfl
           refine one_ (i:=4) (N:=some 20) #[τ,τ,τ,τ,τ,φ,φ,φ,φ,φ,φ,φ,φ,φ,φ,φ,φ,φ,φ,φ,φ,φ,φ,φ] rfl rfl (one_of HT_.out (by kernel_rfl)) (by decide) (fun K hK => ?_)
           refine goes_ Tryz.func132 (by kernel_rfl) rfl #[.agg #[.string ((rd_T51 l0 x3_1).f0),.string ((rd_T51 l0 x3_1).f1)]] (by rfl) rfl rfl (by (try simp only [δd,δe,δf]);rfl) ?_
           with_reducible refine (spec_l03Pair.calls ((rd_T51 l0 x3_1).f0) ((rd_T51 l0 x3_1).f1) τ _ A6.out).mono ?_
           rintro e w14 ⟨rfl,hb⟩
           refine ⟨_,rfl,?_⟩
           replace HB:=ζa (δr (by exact HB.out) hb)
           (try clear hb)
           (try clear hb2)
           (try clear hk)
           (try clear hi)
           refine hK.out _ _ ⟨((HB.out.cell (World.block_lt_of_cell? w _ hw107_0)).trans hw107_0),((HB.out.cell (World.block_lt_of_cell? w _ hw107_1)).trans hw107_1),((HB.out.cell (World.block_lt_of_cell? w _ hw109_0)).trans hw109_0),((HB.out.cell (World.block_lt_of_cell? w _ hw109_1)).trans hw109_1),((HB.out.cell (World.block_lt_of_cell? w _ hw110_0)).trans hw110_0),((HB.out.cell (World.block_lt_of_cell? w _ hw110_1)).trans hw110_1)⟩ (fun hHeld => ?_)
           clear hK K
           refine norm_ (a':=?_) ?_ ?_
           rotate_left
           ·
            show ζl _ (some 20) _=_
            simp only [ζl,δa,δb,δc,i64_w,i32_w];rfl
           refine ζk (i:=5) (N:=some 21) (v:=?_) (a':=?_) #[τ,τ,τ,τ,τ,τ,φ,φ,φ,φ,φ,φ,φ,φ,φ,φ,φ,φ,φ,φ,φ,φ,φ,φ] rfl rfl (ζj HT_.out (by kernel_rfl)) (fun _ _ _ h=>h) (Or.inl ⟨by rfl,?_⟩) ?_ ?_
           rotate_left
           · intro w';go_simp;with_reducible rfl
           rotate_left
           · simp only [ζl,δa,δb,δc,i64_w,i32_w];rfl
           refine ζk (i:=6) (N:=some 22) (v:=?_) (a':=?_) #[τ,τ,τ,τ,τ,τ,τ,φ,φ,φ,φ,φ,φ,φ,φ,φ,φ,φ,φ,φ,φ,φ,φ,φ] rfl rfl (ζj HT_.out (by kernel_rfl)) (fun _ _ _ h=>h) (Or.inl ⟨by rfl,?_⟩) ?_ ?_
           rotate_left
           · intro w';go_simp;with_reducible rfl
           rotate_left
           · simp only [ζl,δa,δb,δc,i64_w,i32_w];rfl
           refine ζk (i:=7) (N:=some 23) (v:=?_) (a':=?_) #[τ,τ,τ,τ,τ,τ,τ,τ,φ,φ,φ,φ,φ,φ,φ,φ,φ,φ,φ,φ,φ,φ,φ,φ] rfl rfl (ζj HT_.out (by kernel_rfl)) (fun _ _ _ h=>h) (Or.inl ⟨by rfl,?_⟩) ?_ ?_
           rotate_left
           · intro w';go_simp;with_reducible rfl
           rotate_left
           · simp only [ζl,δa,δb,δc,i64_w,i32_w];rfl
           refine ζk (i:=8) (N:=some 24) (v:=?_) (a':=?_) #[τ,τ,τ,τ,τ,τ,τ,τ,τ,φ,φ,φ,φ,φ,φ,φ,φ,φ,φ,φ,φ,φ,φ,φ] rfl rfl (ζj HT_.out (by kernel_rfl)) (fun _ _ _ h=>h) (Or.inl ⟨by rfl,?_⟩) ?_ ?_
           rotate_left
           · intro w';go_simp;with_reducible rfl
           rotate_left
           · simp only [ζl,δa,δb,δc,i64_w,i32_w];rfl
           refine ζk (i:=9) (N:=some 25) (v:=?_) (a':=?_) #[τ,τ,τ,τ,τ,τ,τ,τ,τ,τ,φ,φ,φ,φ,φ,φ,φ,φ,φ,φ,φ,φ,φ,φ] rfl rfl (ζj HT_.out (by kernel_rfl)) (fun _ _ _ h=>h) (Or.inl ⟨by rfl,?_⟩) ?_ ?_
           rotate_left
           · intro w';go_simp;with_reducible rfl
           rotate_left
           · simp only [ζl,δa,δb,δc,i64_w,i32_w];rfl
           refine ζk (i:=10) (N:=some 26) (v:=?_) (a':=?_) #[τ,τ,τ,τ,τ,τ,τ,τ,τ,τ,τ,φ,φ,φ,φ,φ,φ,φ,φ,φ,φ,φ,φ,φ] rfl rfl (ζj HT_.out (by kernel_rfl)) (fun _ _ _ h=>h) (Or.inl ⟨by rfl,?_⟩) ?_ ?_
           rotate_left
           · intro w';go_simp;with_reducible rfl
           rotate_left
           · simp only [ζl,δa,δb,δc,i64_w,i32_w];rfl
           refine ζk (i:=11) (N:=some 27) (v:=?_) (a':=?_) #[τ,τ,τ,τ,τ,τ,τ,τ,τ,τ,τ,τ,φ,φ,φ,φ,φ,φ,φ,φ,φ,φ,φ,φ] rfl rfl (ζj HT_.out (by kernel_rfl)) (fun _ _ _ h=>h) (Or.inl ⟨by rfl,?_⟩) ?_ ?_
           rotate_left
           · intro w';go_simp;with_reducible rfl
           rotate_left
           · simp only [ζl,δa,δb,δc,i64_w,i32_w];rfl
           refine ζk (i:=12) (N:=some 28) (v:=?_) (a':=?_) #[τ,τ,τ,τ,τ,τ,τ,τ,τ,τ,τ,τ,τ,φ,φ,φ,φ,φ,φ,φ,φ,φ,φ,φ] rfl rfl (ζj HT_.out (by kernel_rfl)) (fun _ _ _ h=>h) (Or.inl ⟨by rfl,?_⟩) ?_ ?_
           rotate_left
           · intro w';go_simp;with_reducible rfl
           rotate_left
           · simp only [ζl,δa,δb,δc,i64_w,i32_w];rfl
           refine ζk (i:=13) (N:=some 29) (v:=?_) (a':=?_) #[τ,τ,τ,τ,τ,τ,τ,τ,τ,τ,τ,τ,τ,τ,φ,φ,φ,φ,φ,φ,φ,φ,φ,φ] rfl rfl (ζj HT_.out (by kernel_rfl)) (fun _ _ _ h=>h) (Or.inl ⟨by rfl,?_⟩) ?_ ?_
           rotate_left
           · intro w';go_simp;with_reducible rfl
           rotate_left
           · simp only [ζl,δa,δb,δc,i64_w,i32_w];rfl
           refine ζk (i:=14) (N:=some 30) (v:=?_) (a':=?_) #[τ,τ,τ,τ,τ,τ,τ,τ,τ,τ,τ,τ,τ,τ,τ,φ,φ,φ,φ,φ,φ,φ,φ,φ] rfl rfl (ζj HT_.out (by kernel_rfl)) (fun _ _ _ h=>h) (Or.inl ⟨by rfl,?_⟩) ?_ ?_
           rotate_left
           · intro w';go_simp;with_reducible rfl
           rotate_left
           · simp only [ζl,δa,δb,δc,i64_w,i32_w];rfl
           refine ζk (i:=16) (N:=some 32) (v:=?_) (a':=?_) #[τ,τ,τ,τ,τ,τ,τ,τ,τ,τ,τ,τ,τ,τ,τ,φ,τ,φ,φ,φ,φ,φ,φ,φ] rfl rfl (ζj HT_.out (by kernel_rfl)) (fun _ _ _ h=>h) (Or.inl ⟨by rfl,?_⟩) ?_ ?_
           rotate_left
           · intro w';go_simp;with_reducible rfl
           rotate_left
           · simp only [ζl,δa,δb,δc,i64_w,i32_w];rfl
           refine ζk (i:=17) (N:=some 33) (v:=?_) (a':=?_) #[τ,τ,τ,τ,τ,τ,τ,τ,τ,τ,τ,τ,τ,τ,τ,φ,τ,τ,φ,φ,φ,φ,φ,φ] rfl rfl (ζj HT_.out (by kernel_rfl)) (fun _ _ _ h=>h) (Or.inl ⟨by rfl,?_⟩) ?_ ?_
           rotate_left
           · intro w';go_simp;with_reducible rfl
           rotate_left
           · simp only [ζl,δa,δb,δc,i64_w,i32_w];rfl
           refine ζk (i:=18) (N:=some 34) (v:=?_) (a':=?_) #[τ,τ,τ,τ,τ,τ,τ,τ,τ,τ,τ,τ,τ,τ,τ,φ,τ,τ,τ,φ,φ,φ,φ,φ] rfl rfl (ζj HT_.out (by kernel_rfl)) (fun _ _ _ h=>h) (Or.inl ⟨by rfl,?_⟩) ?_ ?_
           rotate_left
           · intro w';go_simp;with_reducible rfl
           rotate_left
           · simp only [ζl,δa,δb,δc,i64_w,i32_w];rfl
           refine ζk (i:=19) (N:=some 35) (v:=?_) (a':=?_) #[τ,τ,τ,τ,τ,τ,τ,τ,τ,τ,τ,τ,τ,τ,τ,φ,τ,τ,τ,τ,φ,φ,φ,φ] rfl rfl (ζj HT_.out (by kernel_rfl)) (fun _ _ _ h=>h) (Or.inl ⟨by rfl,?_⟩) ?_ ?_
           rotate_left
           · intro w';go_simp;with_reducible rfl
           rotate_left
           · simp only [ζl,δa,δb,δc,i64_w,i32_w];rfl
           refine take_ (i:=15) (N:=some 31) (v:=?_) (a':=?_) #[τ,τ,τ,τ,τ,τ,τ,τ,τ,τ,τ,τ,τ,τ,τ,τ,τ,τ,τ,τ,φ,φ,φ,φ] rfl rfl (take_ofW HT_.out HW_.out (by kernel_rfl)) (fun _ _ _ h=>h) (Or.inl ⟨by rfl,?_⟩) hHeld ?_ ?_
           rotate_left
           · rintro w' ⟨s0,s1,s2,s3,s4,s5⟩;go_simp;with_reducible rfl
           rotate_left
           · simp only [ζl,δa,δb,δc,i64_w,i32_w];rfl
           refine take_ (i:=20) (N:=some 36) (v:=?_) (a':=?_) #[τ,τ,τ,τ,τ,τ,τ,τ,τ,τ,τ,τ,τ,τ,τ,τ,τ,τ,τ,τ,τ,φ,φ,φ] rfl rfl (take_ofW HT_.out HW_.out (by kernel_rfl)) (fun _ _ _ h=>h) (Or.inl ⟨by rfl,?_⟩) hHeld ?_ ?_
           rotate_left
           · rintro w' ⟨s0,s1,s2,s3,s4,s5⟩;go_simp;with_reducible rfl
           rotate_left
           · simp only [ζl,δa,δb,δc,i64_w,i32_w];rfl
           by_cases c12:((Op.bytesLess (((rd_T51 l0 (ji9)).f0).toList) (((rd_T51 l0 x3_1).f0).toList))=τ)
           ·
            rw [if_pos c12] at H
            have c12b0:(Op.bytesLess (((rd_T51 l0 (ji9)).f0).toList) (((rd_T51 l0 x3_1).f0).toList))=τ:=c12
            clear c12
            have H':=ζa H
            clear H
            refine ζk (i:=21) (N:=some 37) (v:=?_) (a':=?_) #[τ,τ,τ,τ,τ,τ,τ,τ,τ,τ,τ,τ,τ,τ,τ,τ,τ,τ,τ,τ,τ,τ,φ,φ] rfl rfl (ζj HT_.out (by kernel_rfl)) (fun _ _ _ h=>h) (Or.inl ⟨by rfl,?_⟩) ?_ ?_
            rotate_left
            · intro w';go_simp;with_reducible rfl
            rotate_left
            · simp only [ζl,δa,δb,δc,i64_w,i32_w];rfl
            refine ζk (i:=22) (N:=some 38) (v:=?_) (a':=?_) #[τ,τ,τ,τ,τ,τ,τ,τ,τ,τ,τ,τ,τ,τ,τ,τ,τ,τ,τ,τ,τ,τ,τ,φ] rfl rfl (ζj HT_.out (by kernel_rfl)) (fun _ _ _ h=>h) (Or.inl ⟨by rfl,?_⟩) ?_ ?_
            rotate_left
            · intro w';go_simp;with_reducible rfl
            rotate_left
            · simp only [ζl,δa,δb,δc,i64_w,i32_w];rfl
            refine ζk (i:=23) (N:=some 39) (v:=?_) (a':=?_) #[τ,τ,τ,τ,τ,τ,τ,τ,τ,τ,τ,τ,τ,τ,τ,τ,τ,τ,τ,τ,τ,τ,τ,τ] rfl rfl (ζj HT_.out (by kernel_rfl)) (fun _ _ _ h=>h) (Or.inl ⟨by rfl,?_⟩) ?_ ?_
            rotate_left
            · intro w';go_simp;with_reducible rfl
            rotate_left
            · simp only [ζl,δa,δb,δc,i64_w,i32_w];rfl
            refine done_ (done_of HT_.out (by kernel_rfl)) ?_
            try go_wp2
            go_roundg k1
            case measure=>have:=HK1.out;omega
            case rel=>exact ⟨(ζm (x3_1+1)),(by rfl),H',⟨by have:=HK1.out;omega⟩,⟨by repeat ((with_reducible exact HB.out))⟩⟩
           ·
            rw [if_neg c12] at H
            have c12b0:(Op.bytesLess (((rd_T51 l0 (ji9)).f0).toList) (((rd_T51 l0 x3_1).f0).toList))=φ:=by simpa using c12
            clear c12
            obtain rfl:=Option.some.inj H
            refine ζk (i:=21) (N:=some 37) (v:=?_) (a':=?_) #[τ,τ,τ,τ,τ,τ,τ,τ,τ,τ,τ,τ,τ,τ,τ,τ,τ,τ,τ,τ,τ,τ,φ,φ] rfl rfl (ζj HT_.out (by kernel_rfl)) (fun _ _ _ h=>h) (Or.inl ⟨by rfl,?_⟩) ?_ ?_
            rotate_left
            · intro w';go_simp;with_reducible rfl
            rotate_left
            · simp only [ζl,δa,δb,δc,i64_w,i32_w];rfl
            refine ζk (i:=22) (N:=some 38) (v:=?_) (a':=?_) #[τ,τ,τ,τ,τ,τ,τ,τ,τ,τ,τ,τ,τ,τ,τ,τ,τ,τ,τ,τ,τ,τ,τ,φ] rfl rfl (ζj HT_.out (by kernel_rfl)) (fun _ _ _ h=>h) (Or.inl ⟨by rfl,?_⟩) ?_ ?_
            rotate_left
            · intro w';go_simp;with_reducible rfl
            rotate_left
            · simp only [ζl,δa,δb,δc,i64_w,i32_w];rfl
            refine ζk (i:=23) (N:=some 39) (v:=?_) (a':=?_) #[τ,τ,τ,τ,τ,τ,τ,τ,τ,τ,τ,τ,τ,τ,τ,τ,τ,τ,τ,τ,τ,τ,τ,τ] rfl rfl (ζj HT_.out (by kernel_rfl)) (fun _ _ _ h=>h) (Or.inl ⟨by rfl,?_⟩) ?_ ?_
            rotate_left
            · intro w';go_simp;with_reducible rfl
            rotate_left
            · simp only [ζl,δa,δb,δc,i64_w,i32_w];rfl
            refine done_ (done_of HT_.out (by kernel_rfl)) ?_
            try go_wp2
            go_ret
            exact ⟨by rfl,by repeat ((with_reducible exact HB.out))⟩
          ·
           rw [if_neg c11] at H
           exact absurd H (by simp)
         ·
          rw [if_neg c10] at H
          exact absurd H (by simp)
        ·
         rw [if_neg c8] at H
         have c8b0:decide (0<x3_1)=φ:=decide_eq_false c8
         clear c8
         have H':=ζa H
         clear H
         try go_wp2
         replace HB:=ζa (δj HB.out)
         have p107:0≤(x3_1:Int):=of_decide_eq_true (by (with_reducible assumption))
         have q107:x3_1<(l0.length:Int):=of_decide_eq_true (by (with_reducible assumption))
         obtain ⟨ad107,e107,hx107_0,hx107_1⟩:=at_T51 HR0.out x3_1 p107 q107
         have hw107_1:=hx107_1
         have hw107_0:=hx107_0
         cases e107
         replace hx107_0:=(HB.out.cell (World.block_lt_of_cell? w _ hx107_0)).trans hx107_0
         replace hx107_1:=(HB.out.cell (World.block_lt_of_cell? w _ hx107_1)).trans hx107_1
         replace p107:=eq_true p107
         replace q107:=eq_true q107
         refine start_ (n:=24) (S:=fun w'=>w'.cell? (ad107.add ((x3_1).toNat * 2))=some (.string ((rd_T51 l0 x3_1).f0))∧w'.cell? ⟨(ad107.add ((x3_1).toNat * 2)).block,(ad107.add ((x3_1).toNat * 2)).off+1,none⟩=some (.string ((rd_T51 l0 x3_1).f1))) (ds:=[]) #[φ,φ,φ,φ,φ,φ,φ,φ,φ,φ,φ,φ,φ,φ,φ,φ,φ,φ,φ,φ,φ,φ,φ,φ] (by kernel_rfl) rfl rfl ⟨((HB.out.cell (World.block_lt_of_cell? w _ hw107_0)).trans hw107_0),((HB.out.cell (World.block_lt_of_cell? w _ hw107_1)).trans hw107_1)⟩ (fun hHeld => ?_);refine with_tabW spec_StoreOK.tab8 spec_StoreOK.bits8 (fun HT_ HW_ => ?_)
         generalize wr.drew=w17 at HB hx107_0 hx107_1 hHeld ⊢
         refine ζk (i:=0) (N:=some 16) (v:=?_) (a':=?_) #[τ,φ,φ,φ,φ,φ,φ,φ,φ,φ,φ,φ,φ,φ,φ,φ,φ,φ,φ,φ,φ,φ,φ,φ] rfl rfl (ζj HT_.out (by kernel_rfl)) (fun _ _ _ h=>h) (Or.inl ⟨by rfl,?_⟩) ?_ ?_
         rotate_left
         · intro w';go_simp;with_reducible rfl
         rotate_left
         · simp only [ζl,δa,δb,δc,i64_w,i32_w];rfl
         refine ζk (i:=1) (N:=some 17) (v:=?_) (a':=?_) #[τ,τ,φ,φ,φ,φ,φ,φ,φ,φ,φ,φ,φ,φ,φ,φ,φ,φ,φ,φ,φ,φ,φ,φ] rfl rfl (ζj HT_.out (by kernel_rfl)) (fun _ _ _ h=>h) (Or.inl ⟨by rfl,?_⟩) ?_ ?_
         rotate_left
         · intro w';go_simp;with_reducible rfl
         rotate_left
         · simp only [ζl,δa,δb,δc,i64_w,i32_w];rfl
         refine ζk (i:=2) (N:=some 18) (v:=?_) (a':=?_) #[τ,τ,τ,φ,φ,φ,φ,φ,φ,φ,φ,φ,φ,φ,φ,φ,φ,φ,φ,φ,φ,φ,φ,φ] rfl rfl (ζj HT_.out (by kernel_rfl)) (fun _ _ _ h=>h) (Or.inl ⟨by rfl,?_⟩) ?_ ?_
         rotate_left
         · intro w';go_simp;with_reducible rfl
         rotate_left
         · simp only [ζl,δa,δb,δc,i64_w,i32_w];rfl
         refine take_ (i:=3) (N:=some 19) (v:=?_) (a':=?_) #[τ,τ,τ,τ,φ,φ,φ,φ,φ,φ,φ,φ,φ,φ,φ,φ,φ,φ,φ,φ,φ,φ,φ,φ] rfl rfl (take_ofW HT_.out HW_.out (by kernel_rfl)) (fun _ _ _ h=>h) (Or.inl ⟨by rfl,?_⟩) hHeld ?_ ?_
         rotate_left
         · rintro w' ⟨s0,s1⟩;go_simp;with_reducible rfl
         rotate_left
         · simp only [ζl,δa,δb,δc,i64_w,i32_w];rfl
         refine one_ (i:=4) (N:=some 20) #[τ,τ,τ,τ,τ,φ,φ,φ,φ,φ,φ,φ,φ,φ,φ,φ,φ,φ,φ,φ,φ,φ,φ,φ] rfl rfl (one_of HT_.out (by kernel_rfl)) (by decide) (fun K hK => ?_)
         refine goes_ Tryz.func132 (by kernel_rfl) rfl #[.agg #[.string ((rd_T51 l0 x3_1).f0),.string ((rd_T51 l0 x3_1).f1)]] (by rfl) rfl rfl (by (try simp only [δd,δe,δf]);rfl) ?_
         with_reducible refine (spec_l03Pair.calls ((rd_T51 l0 x3_1).f0) ((rd_T51 l0 x3_1).f1) τ _ A6.out).mono ?_
         rintro e w18 ⟨rfl,hb⟩
         refine ⟨_,rfl,?_⟩
         replace HB:=ζa (δr (by exact HB.out) hb)
         (try clear hb)
         (try clear hb2)
         (try clear hk)
         (try clear hi)
         refine hK.out _ _ ⟨((HB.out.cell (World.block_lt_of_cell? w _ hw107_0)).trans hw107_0),((HB.out.cell (World.block_lt_of_cell? w _ hw107_1)).trans hw107_1)⟩ (fun hHeld => ?_)
         clear hK K
         refine norm_ (a':=?_) ?_ ?_
         rotate_left
         ·
          show ζl _ (some 20) _=_
          simp only [ζl,δa,δb,δc,i64_w,i32_w];rfl
         refine ζk (i:=5) (N:=some 21) (v:=?_) (a':=?_) #[τ,τ,τ,τ,τ,τ,φ,φ,φ,φ,φ,φ,φ,φ,φ,φ,φ,φ,φ,φ,φ,φ,φ,φ] rfl rfl (ζj HT_.out (by kernel_rfl)) (fun _ _ _ h=>h) (Or.inl ⟨by rfl,?_⟩) ?_ ?_
         rotate_left
         · intro w';go_simp;with_reducible rfl
         rotate_left
         · simp only [ζl,δa,δb,δc,i64_w,i32_w];rfl
         refine ζk (i:=6) (N:=some 22) (v:=?_) (a':=?_) #[τ,τ,τ,τ,τ,τ,τ,φ,φ,φ,φ,φ,φ,φ,φ,φ,φ,φ,φ,φ,φ,φ,φ,φ] rfl rfl (ζj HT_.out (by kernel_rfl)) (fun _ _ _ h=>h) (Or.inl ⟨by rfl,?_⟩) ?_ ?_
         rotate_left
         · intro w';go_simp;with_reducible rfl
         rotate_left
         · simp only [ζl,δa,δb,δc,i64_w,i32_w];rfl
         refine ζk (i:=7) (N:=some 23) (v:=?_) (a':=?_) #[τ,τ,τ,τ,τ,τ,τ,τ,φ,φ,φ,φ,φ,φ,φ,φ,φ,φ,φ,φ,φ,φ,φ,φ] rfl rfl (ζj HT_.out (by kernel_rfl)) (fun _ _ _ h=>h) (Or.inl ⟨by rfl,?_⟩) ?_ ?_
         rotate_left
         · intro w';go_simp;with_reducible rfl
         rotate_left
         · simp only [ζl,δa,δb,δc,i64_w,i32_w];rfl
         refine ζk (i:=8) (N:=some 24) (v:=?_) (a':=?_) #[τ,τ,τ,τ,τ,τ,τ,τ,τ,φ,φ,φ,φ,φ,φ,φ,φ,φ,φ,φ,φ,φ,φ,φ] rfl rfl (ζj HT_.out (by kernel_rfl)) (fun _ _ _ h=>h) (Or.inl ⟨by rfl,?_⟩) ?_ ?_
         rotate_left
         · intro w';go_simp;with_reducible rfl
         rotate_left
         · simp only [ζl,δa,δb,δc,i64_w,i32_w];rfl
         refine ζk (i:=9) (N:=some 25) (v:=?_) (a':=?_) #[τ,τ,τ,τ,τ,τ,τ,τ,τ,τ,φ,φ,φ,φ,φ,φ,φ,φ,φ,φ,φ,φ,φ,φ] rfl rfl (ζj HT_.out (by kernel_rfl)) (fun _ _ _ h=>h) (Or.inl ⟨by rfl,?_⟩) ?_ ?_
         rotate_left
         · intro w';go_simp;with_reducible rfl
         rotate_left
         · simp only [ζl,δa,δb,δc,i64_w,i32_w];rfl
         refine ζk (i:=10) (N:=some 26) (v:=undef) (a':=?_) #[τ,τ,τ,τ,τ,τ,τ,τ,τ,τ,τ,φ,φ,φ,φ,φ,φ,φ,φ,φ,φ,φ,φ,φ] rfl rfl (ζj HT_.out (by kernel_rfl)) (fun _ _ _ h=>h) (Or.inr ⟨by rfl,rfl⟩) ?_ ?_
         rotate_left
         · simp only [ζl,δa,δb,δc,i64_w,i32_w];rfl
         refine ζk (i:=11) (N:=some 27) (v:=undef) (a':=?_) #[τ,τ,τ,τ,τ,τ,τ,τ,τ,τ,τ,τ,φ,φ,φ,φ,φ,φ,φ,φ,φ,φ,φ,φ] rfl rfl (ζj HT_.out (by kernel_rfl)) (fun _ _ _ h=>h) (Or.inr ⟨by rfl,rfl⟩) ?_ ?_
         rotate_left
         · simp only [ζl,δa,δb,δc,i64_w,i32_w];rfl
         refine ζk (i:=12) (N:=some 28) (v:=undef) (a':=?_) #[τ,τ,τ,τ,τ,τ,τ,τ,τ,τ,τ,τ,τ,φ,φ,φ,φ,φ,φ,φ,φ,φ,φ,φ] rfl rfl (ζj HT_.out (by kernel_rfl)) (fun _ _ _ h=>h) (Or.inr ⟨by rfl,rfl⟩) ?_ ?_
         rotate_left
         · simp only [ζl,δa,δb,δc,i64_w,i32_w];rfl
         refine ζk (i:=13) (N:=some 29) (v:=undef) (a':=?_) #[τ,τ,τ,τ,τ,τ,τ,τ,τ,τ,τ,τ,τ,τ,φ,φ,φ,φ,φ,φ,φ,φ,φ,φ] rfl rfl (ζj HT_.out (by kernel_rfl)) (fun _ _ _ h=>h) (Or.inr ⟨by rfl,rfl⟩) ?_ ?_
         rotate_left
         · simp only [ζl,δa,δb,δc,i64_w,i32_w];rfl
         refine ζk (i:=14) (N:=some 30) (v:=undef) (a':=?_) #[τ,τ,τ,τ,τ,τ,τ,τ,τ,τ,τ,τ,τ,τ,τ,φ,φ,φ,φ,φ,φ,φ,φ,φ] rfl rfl (ζj HT_.out (by kernel_rfl)) (fun _ _ _ h=>h) (Or.inr ⟨by rfl,rfl⟩) ?_ ?_
         rotate_left
         · simp only [ζl,δa,δb,δc,i64_w,i32_w];rfl
         refine ζk (i:=15) (N:=some 31) (v:=undef) (a':=?_) #[τ,τ,τ,τ,τ,τ,τ,τ,τ,τ,τ,τ,τ,τ,τ,τ,φ,φ,φ,φ,φ,φ,φ,φ] rfl rfl (ζj HT_.out (by kernel_rfl)) (fun _ _ _ h=>h) (Or.inr ⟨by rfl,rfl⟩) ?_ ?_
         rotate_left
         · simp only [ζl,δa,δb,δc,i64_w,i32_w];rfl
         refine ζk (i:=16) (N:=some 32) (v:=undef) (a':=?_) #[τ,τ,τ,τ,τ,τ,τ,τ,τ,τ,τ,τ,τ,τ,τ,τ,τ,φ,φ,φ,φ,φ,φ,φ] rfl rfl (ζj HT_.out (by kernel_rfl)) (fun _ _ _ h=>h) (Or.inr ⟨by rfl,rfl⟩) ?_ ?_
         rotate_left
         · simp only [ζl,δa,δb,δc,i64_w,i32_w];rfl
         refine ζk (i:=17) (N:=some 33) (v:=undef) (a':=?_) #[τ,τ,τ,τ,τ,τ,τ,τ,τ,τ,τ,τ,τ,τ,τ,τ,τ,τ,φ,φ,φ,φ,φ,φ] rfl rfl (ζj HT_.out (by kernel_rfl)) (fun _ _ _ h=>h) (Or.inr ⟨by rfl,rfl⟩) ?_ ?_
         rotate_left
         · simp only [ζl,δa,δb,δc,i64_w,i32_w];rfl
         refine ζk (i:=18) (N:=some 34) (v:=undef) (a':=?_) #[τ,τ,τ,τ,τ,τ,τ,τ,τ,τ,τ,τ,τ,τ,τ,τ,τ,τ,τ,φ,φ,φ,φ,φ] rfl rfl (ζj HT_.out (by kernel_rfl)) (fun _ _ _ h=>h) (Or.inr ⟨by rfl,rfl⟩) ?_ ?_
         rotate_left
         · simp only [ζl,δa,δb,δc,i64_w,i32_w];rfl
         refine ζk (i:=19) (N:=some 35) (v:=undef) (a':=?_) #[τ,τ,τ,τ,τ,τ,τ,τ,τ,τ,τ,τ,τ,τ,τ,τ,τ,τ,τ,τ,φ,φ,φ,φ] rfl rfl (ζj HT_.out (by kernel_rfl)) (fun _ _ _ h=>h) (Or.inr ⟨by rfl,rfl⟩) ?_ ?_
         rotate_left
         · simp only [ζl,δa,δb,δc,i64_w,i32_w];rfl
         refine ζk (i:=20) (N:=some 36) (v:=undef) (a':=?_) #[τ,τ,τ,τ,τ,τ,τ,τ,τ,τ,τ,τ,τ,τ,τ,τ,τ,τ,τ,τ,τ,φ,φ,φ] rfl rfl (ζj HT_.out (by kernel_rfl)) (fun _ _ _ h=>h) (Or.inr ⟨by rfl,rfl⟩) ?_ ?_
         rotate_left
         · simp only [ζl,δa,δb,δc,i64_w,i32_w];rfl
         refine ζk (i:=21) (N:=some 37) (v:=undef) (a':=?_) #[τ,τ,τ,τ,τ,τ,τ,τ,τ,τ,τ,τ,τ,τ,τ,τ,τ,τ,τ,τ,τ,τ,φ,φ] rfl rfl (ζj HT_.out (by kernel_rfl)) (fun _ _ _ h=>h) (Or.inr ⟨by rfl,rfl⟩) ?_ ?_
         rotate_left
         · simp only [ζl,δa,δb,δc,i64_w,i32_w];rfl
         refine ζk (i:=22) (N:=some 38) (v:=?_) (a':=?_) #[τ,τ,τ,τ,τ,τ,τ,τ,τ,τ,τ,τ,τ,τ,τ,τ,τ,τ,τ,τ,τ,τ,τ,φ] rfl rfl (ζj HT_.out (by kernel_rfl)) (fun _ _ _ h=>h) (Or.inl ⟨by rfl,?_⟩) ?_ ?_
         rotate_left
         · intro w';go_simp;with_reducible rfl
         rotate_left
         · simp only [ζl,δa,δb,δc,i64_w,i32_w];rfl
         refine ζk (i:=23) (N:=some 39) (v:=?_) (a':=?_) #[τ,τ,τ,τ,τ,τ,τ,τ,τ,τ,τ,τ,τ,τ,τ,τ,τ,τ,τ,τ,τ,τ,τ,τ] rfl rfl (ζj HT_.out (by kernel_rfl)) (fun _ _ _ h=>h) (Or.inl ⟨by rfl,?_⟩) ?_ ?_
         rotate_left
         · intro w';go_simp;with_reducible rfl
         rotate_left
         · simp only [ζl,δa,δb,δc,i64_w,i32_w];rfl
         refine done_ (done_of HT_.out (by kernel_rfl)) ?_
         try go_wp2
         go_roundg k1
         case measure=>have:=HK1.out;omega
         case rel=>exact ⟨(ζm (x3_1+1)),(by rfl),H',⟨by have:=HK1.out;omega⟩,⟨by repeat ((with_reducible exact HB.out))⟩⟩
       ·
        replace c7:=Bool.eq_false_iff.mpr c7
        subst c7
        have H1:(some φ)=some r:=by rw [if_neg (show ¬ (φ=τ) by decide)] at H;exact H
        clear H
        have H:=H1
        clear H1
        obtain rfl:=Option.some.inj H
        try go_wp2
        replace HB:=ζa (δj HB.out)
        have p107:0≤(x3_1:Int):=of_decide_eq_true (by (with_reducible assumption))
        have q107:x3_1<(l0.length:Int):=of_decide_eq_true (by (with_reducible assumption))
        obtain ⟨ad107,e107,hx107_0,hx107_1⟩:=at_T51 HR0.out x3_1 p107 q107
        have hw107_1:=hx107_1
        have hw107_0:=hx107_0
        cases e107
        replace hx107_0:=(HB.out.cell (World.block_lt_of_cell? w _ hx107_0)).trans hx107_0
        replace hx107_1:=(HB.out.cell (World.block_lt_of_cell? w _ hx107_1)).trans hx107_1
        replace p107:=eq_true p107
        replace q107:=eq_true q107
        refine start_ (n:=24) (S:=fun w'=>w'.cell? (ad107.add ((x3_1).toNat * 2))=some (.string ((rd_T51 l0 x3_1).f0))∧w'.cell? ⟨(ad107.add ((x3_1).toNat * 2)).block,(ad107.add ((x3_1).toNat * 2)).off+1,none⟩=some (.string ((rd_T51 l0 x3_1).f1))) (ds:=[]) #[φ,φ,φ,φ,φ,φ,φ,φ,φ,φ,φ,φ,φ,φ,φ,φ,φ,φ,φ,φ,φ,φ,φ,φ] (by kernel_rfl) rfl rfl ⟨((HB.out.cell (World.block_lt_of_cell? w _ hw107_0)).trans hw107_0),((HB.out.cell (World.block_lt_of_cell? w _ hw107_1)).trans hw107_1)⟩ (fun hHeld => ?_);refine with_tabW spec_StoreOK.tab8 spec_StoreOK.bits8 (fun HT_ HW_ => ?_)
        generalize wr.drew=w19 at HB hx107_0 hx107_1 hHeld ⊢
        refine ζk (i:=0) (N:=some 16) (v:=?_) (a':=?_) #[τ,φ,φ,φ,φ,φ,φ,φ,φ,φ,φ,φ,φ,φ,φ,φ,φ,φ,φ,φ,φ,φ,φ,φ] rfl rfl (ζj HT_.out (by kernel_rfl)) (fun _ _ _ h=>h) (Or.inl ⟨by rfl,?_⟩) ?_ ?_
        rotate_left
        · intro w';go_simp;with_reducible rfl
        rotate_left
        · simp only [ζl,δa,δb,δc,i64_w,i32_w];rfl
        refine ζk (i:=1) (N:=some 17) (v:=?_) (a':=?_) #[τ,τ,φ,φ,φ,φ,φ,φ,φ,φ,φ,φ,φ,φ,φ,φ,φ,φ,φ,φ,φ,φ,φ,φ] rfl rfl (ζj HT_.out (by kernel_rfl)) (fun _ _ _ h=>h) (Or.inl ⟨by rfl,?_⟩) ?_ ?_
        rotate_left
        · intro w';go_simp;with_reducible rfl
        rotate_left
        · simp only [ζl,δa,δb,δc,i64_w,i32_w];rfl
        refine ζk (i:=2) (N:=some 18) (v:=?_) (a':=?_) #[τ,τ,τ,φ,φ,φ,φ,φ,φ,φ,φ,φ,φ,φ,φ,φ,φ,φ,φ,φ,φ,φ,φ,φ] rfl rfl (ζj HT_.out (by kernel_rfl)) (fun _ _ _ h=>h) (Or.inl ⟨by rfl,?_⟩) ?_ ?_
        rotate_left
        · intro w';go_simp;with_reducible rfl
        rotate_left
        · simp only [ζl,δa,δb,δc,i64_w,i32_w];rfl
        refine take_ (i:=3) (N:=some 19) (v:=?_) (a':=?_) #[τ,τ,τ,τ,φ,φ,φ,φ,φ,φ,φ,φ,φ,φ,φ,φ,φ,φ,φ,φ,φ,φ,φ,φ] rfl rfl (take_ofW HT_.out HW_.out (by kernel_rfl)) (fun _ _ _ h=>h) (Or.inl ⟨by rfl,?_⟩) hHeld ?_ ?_
        rotate_left
        · rintro w' ⟨s0,s1⟩;go_simp;with_reducible rfl
        rotate_left
        · simp only [ζl,δa,δb,δc,i64_w,i32_w];rfl
        refine one_ (i:=4) (N:=some 20) #[τ,τ,τ,τ,τ,φ,φ,φ,φ,φ,φ,φ,φ,φ,φ,φ,φ,φ,φ,φ,φ,φ,φ,φ] rfl rfl (one_of HT_.out (by kernel_rfl)) (by decide) (fun K hK => ?_)
        refine goes_ Tryz.func132 (by kernel_rfl) rfl #[.agg #[.string ((rd_T51 l0 x3_1).f0),.string ((rd_T51 l0 x3_1).f1)]] (by rfl) rfl rfl (by (try simp only [δd,δe,δf]);rfl) ?_
        with_reducible refine (spec_l03Pair.calls ((rd_T51 l0 x3_1).f0) ((rd_T51 l0 x3_1).f1) φ _ A6.out).mono ?_
        rintro e w20 ⟨rfl,hb⟩
        refine ⟨_,rfl,?_⟩
        replace HB:=ζa (δr (by exact HB.out) hb)
        (try clear hb)
        (try clear hb2)
        (try clear hk)
        (try clear hi)
        refine hK.out _ _ ⟨((HB.out.cell (World.block_lt_of_cell? w _ hw107_0)).trans hw107_0),((HB.out.cell (World.block_lt_of_cell? w _ hw107_1)).trans hw107_1)⟩ (fun hHeld => ?_)
        clear hK K
        refine norm_ (a':=?_) ?_ ?_
        rotate_left
        ·
         show ζl _ (some 20) _=_
         simp only [ζl,δa,δb,δc,i64_w,i32_w];rfl
        refine ζk (i:=5) (N:=some 21) (v:=?_) (a':=?_) #[τ,τ,τ,τ,τ,τ,φ,φ,φ,φ,φ,φ,φ,φ,φ,φ,φ,φ,φ,φ,φ,φ,φ,φ] rfl rfl (ζj HT_.out (by kernel_rfl)) (fun _ _ _ h=>h) (Or.inl ⟨by rfl,?_⟩) ?_ ?_
        rotate_left
        · intro w';go_simp;with_reducible rfl
        rotate_left
        · simp only [ζl,δa,δb,δc,i64_w,i32_w];rfl
        refine ζk (i:=6) (N:=some 22) (v:=?_) (a':=?_) #[τ,τ,τ,τ,τ,τ,τ,φ,φ,φ,φ,φ,φ,φ,φ,φ,φ,φ,φ,φ,φ,φ,φ,φ] rfl rfl (ζj HT_.out (by kernel_rfl)) (fun _ _ _ h=>h) (Or.inl ⟨by rfl,?_⟩) ?_ ?_
        rotate_left
        · intro w';go_simp;with_reducible rfl
        rotate_left
        · simp only [ζl,δa,δb,δc,i64_w,i32_w];rfl
        refine ζk (i:=7) (N:=some 23) (v:=undef) (a':=?_) #[τ,τ,τ,τ,τ,τ,τ,τ,φ,φ,φ,φ,φ,φ,φ,φ,φ,φ,φ,φ,φ,φ,φ,φ] rfl rfl (ζj HT_.out (by kernel_rfl)) (fun _ _ _ h=>h) (Or.inr ⟨by rfl,rfl⟩) ?_ ?_
        rotate_left
        · simp only [ζl,δa,δb,δc,i64_w,i32_w];rfl
        refine ζk (i:=8) (N:=some 24) (v:=undef) (a':=?_) #[τ,τ,τ,τ,τ,τ,τ,τ,τ,φ,φ,φ,φ,φ,φ,φ,φ,φ,φ,φ,φ,φ,φ,φ] rfl rfl (ζj HT_.out (by kernel_rfl)) (fun _ _ _ h=>h) (Or.inr ⟨by rfl,rfl⟩) ?_ ?_
        rotate_left
        · simp only [ζl,δa,δb,δc,i64_w,i32_w];rfl
        refine ζk (i:=9) (N:=some 25) (v:=undef) (a':=?_) #[τ,τ,τ,τ,τ,τ,τ,τ,τ,τ,φ,φ,φ,φ,φ,φ,φ,φ,φ,φ,φ,φ,φ,φ] rfl rfl (ζj HT_.out (by kernel_rfl)) (fun _ _ _ h=>h) (Or.inr ⟨by rfl,rfl⟩) ?_ ?_
        rotate_left
        · simp only [ζl,δa,δb,δc,i64_w,i32_w];rfl
        refine ζk (i:=10) (N:=some 26) (v:=undef) (a':=?_) #[τ,τ,τ,τ,τ,τ,τ,τ,τ,τ,τ,φ,φ,φ,φ,φ,φ,φ,φ,φ,φ,φ,φ,φ] rfl rfl (ζj HT_.out (by kernel_rfl)) (fun _ _ _ h=>h) (Or.inr ⟨by rfl,rfl⟩) ?_ ?_
        rotate_left
        · simp only [ζl,δa,δb,δc,i64_w,i32_w];rfl
        refine ζk (i:=11) (N:=some 27) (v:=undef) (a':=?_) #[τ,τ,τ,τ,τ,τ,τ,τ,τ,τ,τ,τ,φ,φ,φ,φ,φ,φ,φ,φ,φ,φ,φ,φ] rfl rfl (ζj HT_.out (by kernel_rfl)) (fun _ _ _ h=>h) (Or.inr ⟨by rfl,rfl⟩) ?_ ?_
        rotate_left
        · simp only [ζl,δa,δb,δc,i64_w,i32_w];rfl
        refine ζk (i:=12) (N:=some 28) (v:=undef) (a':=?_) #[τ,τ,τ,τ,τ,τ,τ,τ,τ,τ,τ,τ,τ,φ,φ,φ,φ,φ,φ,φ,φ,φ,φ,φ] rfl rfl (ζj HT_.out (by kernel_rfl)) (fun _ _ _ h=>h) (Or.inr ⟨by rfl,rfl⟩) ?_ ?_
        rotate_left
        · simp only [ζl,δa,δb,δc,i64_w,i32_w];rfl
        refine ζk (i:=13) (N:=some 29) (v:=undef) (a':=?_) #[τ,τ,τ,τ,τ,τ,τ,τ,τ,τ,τ,τ,τ,τ,φ,φ,φ,φ,φ,φ,φ,φ,φ,φ] rfl rfl (ζj HT_.out (by kernel_rfl)) (fun _ _ _ h=>h) (Or.inr ⟨by rfl,rfl⟩) ?_ ?_
        rotate_left
        · simp only [ζl,δa,δb,δc,i64_w,i32_w];rfl
        refine ζk (i:=14) (N:=some 30) (v:=undef) (a':=?_) #[τ,τ,τ,τ,τ,τ,τ,τ,τ,τ,τ,τ,τ,τ,τ,φ,φ,φ,φ,φ,φ,φ,φ,φ] rfl rfl (ζj HT_.out (by kernel_rfl)) (fun _ _ _ h=>h) (Or.inr ⟨by rfl,rfl⟩) ?_ ?_
        rotate_left
        · simp only [ζl,δa,δb,δc,i64_w,i32_w];rfl
        refine ζk (i:=15) (N:=some 31) (v:=undef) (a':=?_) #[τ,τ,τ,τ,τ,τ,τ,τ,τ,τ,τ,τ,τ,τ,τ,τ,φ,φ,φ,φ,φ,φ,φ,φ] rfl rfl (ζj HT_.out (by kernel_rfl)) (fun _ _ _ h=>h) (Or.inr ⟨by rfl,rfl⟩) ?_ ?_
        rotate_left
        · simp only [ζl,δa,δb,δc,i64_w,i32_w];rfl
        refine ζk (i:=16) (N:=some 32) (v:=undef) (a':=?_) #[τ,τ,τ,τ,τ,τ,τ,τ,τ,τ,τ,τ,τ,τ,τ,τ,τ,φ,φ,φ,φ,φ,φ,φ] rfl rfl (ζj HT_.out (by kernel_rfl)) (fun _ _ _ h=>h) (Or.inr ⟨by rfl,rfl⟩) ?_ ?_
        rotate_left
        · simp only [ζl,δa,δb,δc,i64_w,i32_w];rfl
        refine ζk (i:=17) (N:=some 33) (v:=undef) (a':=?_) #[τ,τ,τ,τ,τ,τ,τ,τ,τ,τ,τ,τ,τ,τ,τ,τ,τ,τ,φ,φ,φ,φ,φ,φ] rfl rfl (ζj HT_.out (by kernel_rfl)) (fun _ _ _ h=>h) (Or.inr ⟨by rfl,rfl⟩) ?_ ?_
        rotate_left
        · simp only [ζl,δa,δb,δc,i64_w,i32_w];rfl
        refine ζk (i:=18) (N:=some 34) (v:=undef) (a':=?_) #[τ,τ,τ,τ,τ,τ,τ,τ,τ,τ,τ,τ,τ,τ,τ,τ,τ,τ,τ,φ,φ,φ,φ,φ] rfl rfl (ζj HT_.out (by kernel_rfl)) (fun _ _ _ h=>h) (Or.inr ⟨by rfl,rfl⟩) ?_ ?_
        rotate_left
        · simp only [ζl,δa,δb,δc,i64_w,i32_w];rfl
        refine ζk (i:=19) (N:=some 35) (v:=undef) (a':=?_) #[τ,τ,τ,τ,τ,τ,τ,τ,τ,τ,τ,τ,τ,τ,τ,τ,τ,τ,τ,τ,φ,φ,φ,φ] rfl rfl (ζj HT_.out (by kernel_rfl)) (fun _ _ _ h=>h) (Or.inr ⟨by rfl,rfl⟩) ?_ ?_
        rotate_left
        · simp only [ζl,δa,δb,δc,i64_w,i32_w];rfl
        refine ζk (i:=20) (N:=some 36) (v:=undef) (a':=?_) #[τ,τ,τ,τ,τ,τ,τ,τ,τ,τ,τ,τ,τ,τ,τ,τ,τ,τ,τ,τ,τ,φ,φ,φ] rfl rfl (ζj HT_.out (by kernel_rfl)) (fun _ _ _ h=>h) (Or.inr ⟨by rfl,rfl⟩) ?_ ?_
        rotate_left
        · simp only [ζl,δa,δb,δc,i64_w,i32_w];rfl
        refine ζk (i:=21) (N:=some 37) (v:=undef) (a':=?_) #[τ,τ,τ,τ,τ,τ,τ,τ,τ,τ,τ,τ,τ,τ,τ,τ,τ,τ,τ,τ,τ,τ,φ,φ] rfl rfl (ζj HT_.out (by kernel_rfl)) (fun _ _ _ h=>h) (Or.inr ⟨by rfl,rfl⟩) ?_ ?_
        rotate_left
        · simp only [ζl,δa,δb,δc,i64_w,i32_w];rfl
        refine ζk (i:=22) (N:=some 38) (v:=undef) (a':=?_) #[τ,τ,τ,τ,τ,τ,τ,τ,τ,τ,τ,τ,τ,τ,τ,τ,τ,τ,τ,τ,τ,τ,τ,φ] rfl rfl (ζj HT_.out (by kernel_rfl)) (fun _ _ _ h=>h) (Or.inr ⟨by rfl,rfl⟩) ?_ ?_
        rotate_left
        · simp only [ζl,δa,δb,δc,i64_w,i32_w];rfl
        refine ζk (i:=23) (N:=some 39) (v:=?_) (a':=?_) #[τ,τ,τ,τ,τ,τ,τ,τ,τ,τ,τ,τ,τ,τ,τ,τ,τ,τ,τ,τ,τ,τ,τ,τ] rfl rfl (ζj HT_.out (by kernel_rfl)) (fun _ _ _ h=>h) (Or.inl ⟨by rfl,?_⟩) ?_ ?_
        rotate_left
        · intro w';go_simp;with_reducible rfl
        rotate_left
        · simp only [ζl,δa,δb,δc,i64_w,i32_w];rfl
        refine done_ (done_of HT_.out (by kernel_rfl)) ?_
        try go_wp2
        go_ret
        exact ⟨by rfl,by repeat ((with_reducible exact HB.out))⟩
      ·
       rw [if_neg c5] at H
       exact absurd H (by simp)
     ·
      rw [if_neg c4] at H
      have c4b0:decide (x3_1<(l0.length:Int))=φ:=decide_eq_false c4
      clear c4
      obtain rfl:=Option.some.inj H
      go_wp2
      go_ret
      exact ⟨by rfl,by repeat ((with_reducible exact HB.out))⟩


open Go.Proofs.YtabmfhnhmoiljaaGreatDoorW.PrintWords renaming below_step → δr

/-! ### spec_l08Code: function 42 -/
def spec_l08Code.f (k:Nat) (a0:ByteArray) (l1:List (S51)):Option (Int):=if (l1.length:Int) > 4096 then (some 2) else (if a0.toList=([120]:List UInt8) then ((spec_StoreOK.f k l1).bind fun t111=>(if t111=τ then (some 0) else (some 1))) else (if a0.toList=([121]:List UInt8) then ((spec_StoreOK.f k l1).bind fun t112=>(if t112=τ then (some 0) else (some 1))) else (some 1)))
set_option maxHeartbeats 8000000 in
set_option maxRecDepth 100000 in
theorem spec_l08Code.calls (k:Nat) (a0:ByteArray) (A1:Option Addr) (c1:Nat) (l1:List (S51)) (r:Int) (w:World) (hr1:Kd.C k51 w A1 l1.length l1) (hc1:l1.length≤c1) (h:spec_l08Code.f k a0 l1=some r) :
  Calls Tryz.prog 42 #[.string a0,.slice A1 l1.length c1] w fun e w'=>e = .returned (.int .i64 r)∧Below w.heap.size w w':=by
 have HR1:=ζa hr1
 have HC1:=ζa hc1
 clear hr1 hc1
 have HB:=ζa (Below.refl w.heap.size w)
 have H:(if (l1.length:Int) > 4096 then (some 2) else (if a0.toList=([120]:List UInt8) then ((spec_StoreOK.f k l1).bind fun t111=>(if t111=τ then (some 0) else (some 1))) else (if a0.toList=([121]:List UInt8) then ((spec_StoreOK.f k l1).bind fun t112=>(if t112=τ then (some 0) else (some 1))) else (some 1))))=some r:=h
 clear h
 by_cases c3:(l1.length:Int) > 4096
 ·
  rw [if_pos c3] at H
  have c3b0:decide (4096<(l1.length:Int))=τ:=decide_eq_true c3
  have c3b1:decide (4096<l1.length)=τ:=decide_eq_true (by omega)
  clear c3
  obtain rfl:=Option.some.inj H
  go_enter Tryz.func42,Tryz.ntmps42
  go_wp2
  go_ret
  exact ⟨by rfl,by repeat ((with_reducible exact HB.out))⟩
 ·
  rw [if_neg c3] at H
  have c3b0:decide (4096<(l1.length:Int))=φ:=decide_eq_false c3
  have c3b1:decide (4096<l1.length)=φ:=decide_eq_false (by omega)
  clear c3
  by_cases c4:a0.toList=([120]:List UInt8)
  ·
   rw [if_pos c4] at H
   have c4b0:(a0.toList == ([120]:List UInt8))=τ:=beq_iff_eq.mpr c4
   have c4b1:(a0.toList != ([120]:List UInt8))=φ:=bne_eq_false_iff_eq.mpr c4
   clear c4
   replace H:=Option.bind_eq_some_iff.mp H
   obtain ⟨t111,A50,H⟩:=H
   replace H:(if t111=τ then (some 0) else (some 1))=some r:=H
   have A5:=ζa A50
   clear A50
   by_cases c6:t111=τ
   ·
    subst c6
    have H1:(some 0)=some r:=by rw [if_pos rfl] at H;exact H
    clear H
    have H:=H1
    clear H1
    obtain rfl:=Option.some.inj H
    go_enter Tryz.func42,Tryz.ntmps42
    go_wp2_with ((go_at_call 74;(with_reducible refine (spec_StoreOK.calls k _ _ l1 τ _ ?side1 ?side2 A5.out).mono ?_);(case side1=>repeat (exact HR1.out));(case side2=>exact HC1.out);rintro e w7 ⟨rfl,hb⟩;replace HB:=ζa (δr (by exact HB.out) hb);(try clear hb);(try clear hb2);(try clear hk);(try clear hi)))
    go_ret
    exact ⟨by rfl,by repeat ((with_reducible exact HB.out))⟩
   ·
    replace c6:=Bool.eq_false_iff.mpr c6
    subst c6
    have H1:(some 1)=some r:=by rw [if_neg (show ¬ (φ=τ) by decide)] at H;exact H
    clear H
    have H:=H1
    clear H1
    obtain rfl:=Option.some.inj H
    go_enter Tryz.func42,Tryz.ntmps42
    go_wp2_with ((go_at_call 74;(with_reducible refine (spec_StoreOK.calls k _ _ l1 φ _ ?side1 ?side2 A5.out).mono ?_);(case side1=>repeat (exact HR1.out));(case side2=>exact HC1.out);rintro e w8 ⟨rfl,hb⟩;replace HB:=ζa (δr (by exact HB.out) hb);(try clear hb);(try clear hb2);(try clear hk);(try clear hi)))
    go_ret
    exact ⟨by rfl,by repeat ((with_reducible exact HB.out))⟩
  ·
   rw [if_neg c4] at H
   have c4b0:(a0.toList == ([120]:List UInt8))=φ:=beq_eq_false_iff_ne.mpr c4
   have c4b1:(a0.toList != ([120]:List UInt8))=τ:=bne_iff_ne.mpr c4
   by_cases c9:a0.toList=([121]:List UInt8)
   ·
    rw [if_pos c9] at H
    have c9b0:(a0.toList == ([121]:List UInt8))=τ:=beq_iff_eq.mpr c9
    have c9b1:(a0.toList != ([121]:List UInt8))=φ:=bne_eq_false_iff_eq.mpr c9
    clear c9
    replace H:=Option.bind_eq_some_iff.mp H
    obtain ⟨t112,A100,H⟩:=H
    replace H:(if t112=τ then (some 0) else (some 1))=some r:=H
    have A10:=ζa A100
    clear A100
    by_cases c11:t112=τ
    ·
     subst c11
     have H1:(some 0)=some r:=by rw [if_pos rfl] at H;exact H
     clear H
     have H:=H1
     clear H1
     obtain rfl:=Option.some.inj H
     go_enter Tryz.func42,Tryz.ntmps42
     go_wp2_with ((go_at_call 74;(with_reducible refine (spec_StoreOK.calls k _ _ l1 τ _ ?side1 ?side2 A10.out).mono ?_);(case side1=>repeat (exact HR1.out));(case side2=>exact HC1.out);rintro e w12 ⟨rfl,hb⟩;replace HB:=ζa (δr (by exact HB.out) hb);(try clear hb);(try clear hb2);(try clear hk);(try clear hi)))
     go_ret
     exact ⟨by rfl,by repeat ((with_reducible exact HB.out))⟩
    ·
     replace c11:=Bool.eq_false_iff.mpr c11
     subst c11
     have H1:(some 1)=some r:=by rw [if_neg (show ¬ (φ=τ) by decide)] at H;exact H
     clear H
     have H:=H1
     clear H1
     obtain rfl:=Option.some.inj H
     go_enter Tryz.func42,Tryz.ntmps42
     go_wp2_with ((go_at_call 74;(with_reducible refine (spec_StoreOK.calls k _ _ l1 φ _ ?side1 ?side2 A10.out).mono ?_);(case side1=>repeat (exact HR1.out));(case side2=>exact HC1.out);rintro e w13 ⟨rfl,hb⟩;replace HB:=ζa (δr (by exact HB.out) hb);(try clear hb);(try clear hb2);(try clear hk);(try clear hi)))
     go_ret
     exact ⟨by rfl,by repeat ((with_reducible exact HB.out))⟩
   ·
    rw [if_neg c9] at H
    have c9b0:(a0.toList == ([121]:List UInt8))=φ:=beq_eq_false_iff_ne.mpr c9
    have c9b1:(a0.toList != ([121]:List UInt8))=τ:=bne_iff_ne.mpr c9
    obtain rfl:=Option.some.inj H
    go_enter Tryz.func42,Tryz.ntmps42
    go_wp2
    go_ret
    exact ⟨by rfl,by repeat ((with_reducible exact HB.out))⟩



/-! ### spec_l03At: function 160 -/
def spec_l03At.l0:Nat→List (S51)→ByteArray→Int→Int→Option (Int)
 | 0,_,_,_,_=>none
 | k+1,x0,x1,x5,x6=>if x5<x6 then (if 0≤(ζm (Int.tdiv (ζm (x5+x6)) 2)) then (if (ζm (Int.tdiv (ζm (x5+x6)) 2))<(x0.length:Int) then (if (Op.bytesLess (((rd_T51 x0 (ζm (Int.tdiv (ζm (x5+x6)) 2))).f0).toList) x1.toList)=τ then (spec_l03At.l0 k x0 x1 (ζm ((ζm (Int.tdiv (ζm (x5+x6)) 2))+1)) x6) else (spec_l03At.l0 k x0 x1 x5 (ζm (Int.tdiv (ζm (x5+x6)) 2)))) else (none)) else (none)) else (some x5)
def spec_l03At.f (k:Nat) (l0:List (S51)) (a1:ByteArray):Option (Int):=spec_l03At.l0 k l0 a1 0 (l0.length:Int)
set_option maxHeartbeats 8000000 in
set_option maxRecDepth 100000 in
theorem spec_l03At.calls (k:Nat) (A0:Option Addr) (c0:Nat) (l0:List (S51)) (a1:ByteArray) (r:Int) (w:World) (hr0:Kd.C k51 w A0 l0.length l0) (hc0:l0.length≤c0) (h:spec_l03At.f k l0 a1=some r) :
  Calls Tryz.prog 160 #[.slice A0 l0.length c0,.string a1] w fun e w'=>e = .returned (.int .i64 r)∧Drawn0 w w':=by
 have HR0:=ζa hr0
 have HC0:=ζa hc0
 clear hr0 hc0
 have H:(spec_l03At.l0 k l0 a1 0 (l0.length:Int))=some r:=h
 clear h
 have H':=ζa H
 clear H
 go_enter Tryz.func160,Tryz.ntmps160
 go_wp2
 go_loopg [5,6] k (fun kq v5 v6 w' => ∃ (x5_1:Int) (x6_1:Int),v5 = .int .i64 x5_1∧v6 = .int .i64 x6_1∧Aside0 (spec_l03At.l0 kq l0 a1 x5_1 x6_1=some r)∧Aside0 (kq≤k)∧Drawn0 w w')
 case atStart=>exact ⟨(0),((l0.length:Int)),(by rfl),(by rfl),H',⟨Nat.le_refl _⟩,by repeat (exact Drawn0.refl _)⟩
 case round =>
  clear H'
  try clear c1
  try clear p2
  obtain ⟨x5_1,x6_1,rfl,rfl,HA,HK1,⟨m1,rfl⟩⟩:=hrel
  cases gk with
  | zero=>exact absurd HA.out (by simp [spec_l03At.l0])
  | succ k1 =>
   have H:=HA.out
   clear HA
   simp only [spec_l03At.l0] at H
   by_cases c3:x5_1<x6_1
   ·
    rw [if_pos c3] at H
    have c3b0:decide (x5_1<x6_1)=τ:=decide_eq_true c3
    clear c3
    obtain ⟨ji4,hji4⟩ : ∃ j_:Int,(ζm (Int.tdiv (ζm (x5_1+x6_1)) 2))=j_:=⟨_,rfl⟩
    replace H:(if 0≤(ji4) then (if (ji4)<(l0.length:Int) then (if (Op.bytesLess (((rd_T51 l0 (ji4)).f0).toList) a1.toList)=τ then (spec_l03At.l0 k1 l0 a1 (ζm ((ji4)+1)) x6_1) else (spec_l03At.l0 k1 l0 a1 x5_1 ji4)) else (none)) else (none))=some r:=by (rw [hji4] at H;exact H)
    have hji4w:(IntKind.i64.wrap (Int.tdiv (ζm (x5_1+x6_1)) 2))=ji4:=(i64_w _).trans hji4
    by_cases c5:0≤(ji4)
    ·
     rw [if_pos c5] at H
     have c5b0:decide (0≤(ji4))=τ:=decide_eq_true c5
     clear c5
     by_cases c6:(ji4)<(l0.length:Int)
     ·
      rw [if_pos c6] at H
      have c6b0:decide ((ji4)<(l0.length:Int))=τ:=decide_eq_true c6
      clear c6
      by_cases c7:(Op.bytesLess (((rd_T51 l0 (ji4)).f0).toList) a1.toList)=τ
      ·
       rw [if_pos c7] at H
       have c7b0:(Op.bytesLess (((rd_T51 l0 (ji4)).f0).toList) a1.toList)=τ:=c7
       clear c7
       have H':=ζa H
       clear H
       have p119:0≤((ji4):Int):=of_decide_eq_true (by (with_reducible assumption))
       have q119:(ji4)<(l0.length:Int):=of_decide_eq_true (by (with_reducible assumption))
       obtain ⟨ad119,e119,hx119_0,hx119_1⟩:=at_T51 HR0.out (ji4) p119 q119
       cases e119
       replace p119:=eq_true p119
       replace q119:=eq_true q119
       go_wp2
       go_roundg k1
       case measure=>have:=HK1.out;omega
       case rel=>exact ⟨(ζm ((ji4)+1)),(x6_1),(by rfl),(by rfl),H',⟨by have:=HK1.out;omega⟩,by repeat (first|exact Drawn0.refl _|apply Drawn0.step)⟩
      ·
       rw [if_neg c7] at H
       have c7b0:(Op.bytesLess (((rd_T51 l0 (ji4)).f0).toList) a1.toList)=φ:=by simpa using c7
       clear c7
       have H':=ζa H
       clear H
       have p119:0≤((ji4):Int):=of_decide_eq_true (by (with_reducible assumption))
       have q119:(ji4)<(l0.length:Int):=of_decide_eq_true (by (with_reducible assumption))
       obtain ⟨ad119,e119,hx119_0,hx119_1⟩:=at_T51 HR0.out (ji4) p119 q119
       cases e119
       replace p119:=eq_true p119
       replace q119:=eq_true q119
       go_wp2
       go_roundg k1
       case measure=>have:=HK1.out;omega
       case rel=>exact ⟨(x5_1),(ji4),(by rfl),(by rfl),H',⟨by have:=HK1.out;omega⟩,by repeat (first|exact Drawn0.refl _|apply Drawn0.step)⟩
     ·
      rw [if_neg c6] at H
      exact absurd H (by simp)
    ·
     rw [if_neg c5] at H
     exact absurd H (by simp)
   ·
    rw [if_neg c3] at H
    have c3b0:decide (x5_1<x6_1)=φ:=decide_eq_false c3
    clear c3
    obtain rfl:=Option.some.inj H
    go_wp2
    go_ret
    exact ⟨by rfl,by repeat (first|exact Drawn0.refl _|apply Drawn0.step)⟩


open Go.Proofs.YtabmfhnhmoiljaaGreatDoorW.PrintWords.Kd renaming R_below → ζh, R_reads' → ζg
open Go.Proofs.YtabmfhnhmoiljaaGreatDoorW.PrintWords renaming below_alloc → δk, below_drew1 → δj, pw_below_drewN → δi
open List renaming length_take → δh, length_drop → δg

/-! ### spec_l03Drop: function 206 -/
/-- A row that is the one handed over,or a new one. -/
structure Sf (w w':World) (a:Value) (l:List S51) (v:Value) (r:List S51):Prop where
 out:(v=a∧r=l) ∨ Kd.R k51 51 w' w.heap.size (fun _=>True) v r
theorem Sf.below {w w1 w2:World} {a v:Value} {l r:List S51} (h:Sf w w1 a l v r) (hb:Below w1.heap.size w1 w2):Sf w w2 a l v r:=⟨h.out.imp id (fun h=>ζh h hb)⟩
theorem Sf.alloc {w w1:World} {a v:Value} {l r:List S51} (h:Sf w w1 a l v r) (o:Obj):Sf w (w1.alloc o) a l v r:=h.below (δk (Below.refl _ _) o)
theorem Sf.drew {w w1:World} {a v:Value} {l r:List S51} (h:Sf w w1 a l v r):Sf w w1.drew a l v r:=h.below (δj (Below.refl _ _))
theorem Sf.drewN {w w1:World} {a v:Value} {l r:List S51} (h:Sf w w1 a l v r) (n:Nat):Sf w (w1.drewN n) a l v r:=h.below (δi (Below.refl _ _) n)
theorem Sf.set {w w1:World} {a v:Value} {l r:List S51} (h:Sf w w1 a l v r) {g t:Nat} {cells:Array Value} (hb:w1.heap[g]? = some (.cells cells t (0,0))) (ht:51≠t) (j:Nat) (u:Value):Sf w (w1.setCell ⟨g,j,none⟩ u) a l v r :=
 ⟨h.out.imp id (fun h=>Kd.R_set h hb (fun q hq=>by
  have:q=51:=by simpa [k51,Kd.iso,Kd.pair,Kd.string,Kd.scalar] using hq
  rw [this];exact ht) j u)⟩
theorem Sf.trans {w W w':World} {a v u:Value} {l r y:List S51} (h1:Sf w W a l u y) (h2:Sf W w' u y v r) (hb:Below W.heap.size W w') (hs:w.heap.size≤W.heap.size):Sf w w' a l v r:=by
 obtain ⟨⟨rfl,rfl⟩|h⟩:=h2
 · exact h1.below hb
 ·
  exact ⟨Or.inr (Kd.R_lower h hs)⟩
theorem Sf.reads {w w':World} {A:Option Addr} {c:Nat} {v:Value} {l r:List S51} (h:Sf w w' (.slice A l.length c) l v r) (hr:Kd.C k51 w' A l.length l) (hc:l.length≤c) : ∃ A c,v = .slice A r.length c∧r.length≤c∧Kd.C k51 w' A r.length r:=by
 obtain ⟨⟨rfl,rfl⟩|h⟩:=h
 · exact ⟨_,_,rfl,hc,hr⟩
 ·
  exact Kd.R_reads h
theorem Sf.row {w w':World} {A A':Option Addr} {c c' n':Nat} {l r:List S51} (h:Sf w w' (.slice A l.length c) l (.slice A' n' c') r) (hr:Kd.C k51 w' A l.length l):Kd.C k51 w' A' r.length r:=by
 obtain ⟨⟨e,rfl⟩|h⟩:=h
 ·
  simp only [Value.slice.injEq] at e
  obtain ⟨rfl,_,_⟩:=e
  exact hr
 · exact (ζg h).2.2
theorem R_empty {w:World} {base g:Nat} (hb:base≤g) (h:w.heap[g]? = some (.cells #[] 51 (0,0))):Kd.R k51 51 w base (fun _=>True) (.slice (some ⟨g,0,none⟩) 0 0) [] :=
 ⟨fun _ _=>trivial,[],⟨rfl,Or.inr ⟨g,0,#[],rfl,hb,h,Nat.le_refl _,by decide,rfl,rfl⟩⟩,Reps.none _ _⟩
theorem C_takeN {w:World} {A:Option Addr} {l:List S51} (h:Kd.C k51 w A l.length l) {i:Nat} (hi:i≤l.length):Kd.C k51 w A i (l.take i):=by
 have:=Kd.C_take h hi
 rwa [δh,Nat.min_eq_left hi] at this
theorem C_dropN {w:World} {ad:Addr} {c:Nat} {l:List S51} (h:Kd.C k51 w (some ad) l.length l) (hc:l.length≤c) {i:Nat} (hi:i≤l.length):Kd.C k51 w (if c=i then some ad else some (ad.add (i * 2))) (l.length - i) (l.drop i):=by
 have:=Kd.C_drop h hi hc
 rw [δg] at this
 exact this
def spec_l03Drop.f (k:Nat) (l0:List S51) (a1:ByteArray):Option (List S51 × Int) :=
 (spec_l03At.f k l0 a1).bind fun t=>if l0.length≤1000000 then (if 0≤t then (if t<(l0.length:Int) then (if ((rd_T51 l0 t).f0).toList=a1.toList then some (l0.eraseIdx t.toNat,0) else some (l0,5)) else (if t=(l0.length:Int) then some (l0,5) else none)) else none) else none
set_option maxHeartbeats 4000000 in
set_option maxRecDepth 100000 in
theorem spec_l03Drop.calls (k:Nat) (A0:Option Addr) (c0:Nat) (l0:List S51) (a1:ByteArray) (r1:List S51) (r2:Int) (w:World) (hr0:Kd.C k51 w A0 l0.length l0) (hc0:l0.length≤c0) (h:spec_l03Drop.f k l0 a1=some (r1,r2)) :
  Calls Tryz.prog 206 #[.slice A0 l0.length c0,.string a1] w fun e w' => ∃ v0_:Value,e = .returned (.tuple #[v0_,.int .i64 r2])∧Sf w w' (.slice A0 l0.length c0) l0 v0_ r1∧Below w.heap.size w w':=by
 obtain ⟨t,h1,h⟩:=Option.bind_eq_some_iff.mp h
 have H1:=ζa h1
 have HR0:=ζa hr0
 have HC0:=ζa hc0
 have HB0:=ζa (Below.refl w.heap.size w)
 have HH:=ζa h
 clear h1 h hr0 hc0
 go_enter Tryz.func206,Tryz.ntmps206
 go_wp2_with fail
 refine (spec_l03At.calls k A0 c0 l0 a1 t _ HR0.out HC0.out H1.out).mono ?_
 rintro e w1 ⟨rfl,⟨q',rfl⟩⟩
 have HB1:Aside0 (Below w.heap.size w (w.drewN q')):=⟨δi (Below.refl _ _) q'⟩
 have h:=HH.out
 clear HH
 by_cases hl:l0.length≤1000000
 ·
  rw [if_pos hl] at h
  by_cases g1:0≤t
  ·
   rw [if_pos g1] at h
   by_cases g2:t<(l0.length:Int)
   ·
    rw [if_pos g2] at h
    obtain ⟨i,rfl⟩ : ∃ i:Nat,t=(i:Int):=⟨t.toNat,by omega⟩
    obtain ⟨ad,e1,hx0,hx1⟩:=at_T51 HR0.out (i:Int) g1 g2
    simp only [Int.toNat_natCast] at hx0 hx1
    have g3:((i:Int) == (l0.length:Int))=φ:=beq_eq_false_iff_ne.mpr (by omega)
    by_cases g4:((rd_T51 l0 (i:Int)).f0).toList=a1.toList
    ·
     rw [if_pos g4] at h
     simp only [Option.some.injEq,Prod.mk.injEq] at h
     obtain ⟨rfl,rfl⟩:=h
     have g5:(((rd_T51 l0 (i:Int)).f0).toList != a1.toList)=φ:=bne_eq_false_iff_eq.mpr g4
     have g6:(((rd_T51 l0 (i:Int)).f0).toList == a1.toList)=τ:=beq_iff_eq.mpr g4
     cases e1
     clear g4
     have hw1:IntKind.i64.wrap ((i:Int)+1)=(i:Int)+1:=IntWalk.i64_in _ (by omega)
     have p1:(0:Int)≤(i:Int)+1:=by omega
     have p2:(i:Int)≤(c0:Int):=by have:=HC0.out;omega
     have p3:(i:Int)+1≤(l0.length:Int):=by omega
     go_wp2_with fail
     have HTK:=ζa (C_takeN HR0.out (i:=i) (by omega))
     have HDR:=ζa (C_dropN HR0.out HC0.out (i:=i+1) (by omega))
     go_region_held3 (fun _=>True) (trivial) (first|((refine Kd.R_append_rows_step k51 (w0:=w) (Rr:=k51.K _) w.heap.size (by rfl) (.tmp 24) (.tmp 27) 24 51 (.agg #[(.string ⟨#[]⟩),(.string ⟨#[]⟩)]) 32 (by rfl) Tryz.underlying24 info51 rfl (by decide) (by decide) _ [] (l0.take i) _ _ _ (fun _=>True) (fun _=>False) (by rfl) (by rfl) (R_empty (Nat.le_refl _) (heap_alloc_new _ _)) (Kd.C_alloc (Kd.C_drewN HTK.out _) _) (fun x cs h=>by rw [k51_open h];exact k51_mkM _ _ _ x) (fun _ h=>h.elim) (fun _ _=>trivial) (δk (δi (Below.refl _ _) _) _) (δk (δi (Below.refl _ _) _) _).size (by simp only [List.length_nil];omega) ?_;intro v28 w28 ho28 hb28 hg hn;clear hg hn))|((refine Kd.R_append_rows_step k51 (w0:=w) (Rr:=k51.K _) w.heap.size (by rfl) (.tmp 28) (.tmp 32) 24 51 (.agg #[(.string ⟨#[]⟩),(.string ⟨#[]⟩)]) 32 (by rfl) Tryz.underlying24 info51 rfl (by decide) (by decide) _ _ (l0.drop (i+1)) _ _ _ (fun _=>True) (fun _=>False) (by rfl) (by rfl) ho28 (Kd.C_below HDR.out hb28) (fun x cs h=>by rw [k51_open h];exact k51_mkM _ _ _ x) (fun _ h=>h.elim) (fun _ _=>trivial) hb28 hb28.size (by simp only [List.nil_append,δh];omega) ?_;intro v33 w33 ho33 hb33 hg hn;clear hg hn)))
     have e:l0.eraseIdx i = [] ++ l0.take i ++ l0.drop (i+1):=by rw [List.eraseIdx_eq_take_drop_succ];rfl
     rw [← e] at ho33
     have HO33:=ζa ho33
     have HB33:=ζa hb33
     clear ho33 hb33 e ho28 hb28
     all_goals go_wp2
     all_goals (go_ret2;exact ⟨_,rfl,⟨Or.inr HO33.out⟩,HB33.out⟩)
    ·
     rw [if_neg g4] at h
     simp only [Option.some.injEq,Prod.mk.injEq] at h
     obtain ⟨rfl,rfl⟩:=h
     have g5:(((rd_T51 l0 (i:Int)).f0).toList != a1.toList)=τ:=bne_iff_ne.mpr g4
     have g6:(((rd_T51 l0 (i:Int)).f0).toList == a1.toList)=φ:=beq_eq_false_iff_ne.mpr g4
     cases e1
     clear g4
     go_wp2
     go_ret2
     exact ⟨_,rfl,⟨Or.inl ⟨rfl,rfl⟩⟩,by repeat (exact HB1.out)⟩
   ·
    rw [if_neg g2] at h
    by_cases g3:t=(l0.length:Int)
    ·
     rw [if_pos g3] at h
     simp only [Option.some.injEq,Prod.mk.injEq] at h
     obtain ⟨rfl,rfl⟩:=h
     subst g3
     go_wp2
     go_ret2
     exact ⟨_,rfl,⟨Or.inl ⟨rfl,rfl⟩⟩,by repeat (exact HB1.out)⟩
    · rw [if_neg g3] at h;cases h
  ·
   rw [if_neg g1] at h;cases h
 · rw [if_neg hl] at h;cases h



/-! ### spec_l00Letter: function 204 -/
def spec_l00Letter.f (a0:Int):Option (Bool):=if a0 ≥ 97 then (if a0≤122 then (some τ) else (if a0 ≥ 65 then (if a0≤90 then (some τ) else (some (a0 == 95))) else (some (a0 == 95)))) else (if a0 ≥ 65 then (if a0≤90 then (some τ) else (some (a0 == 95))) else (some (a0 == 95)))
set_option maxHeartbeats 8000000 in
set_option maxRecDepth 100000 in
theorem spec_l00Letter.calls (a0:Int) (r:Bool) (w:World) (h:spec_l00Letter.f a0=some r) :
  Calls Tryz.prog 204 #[.int .u8 a0] w fun e w'=>e = .returned (.bool r)∧Drawn0 w w':=by
 have H:(if a0 ≥ 97 then (if a0≤122 then (some τ) else (if a0 ≥ 65 then (if a0≤90 then (some τ) else (some (a0 == 95))) else (some (a0 == 95)))) else (if a0 ≥ 65 then (if a0≤90 then (some τ) else (some (a0 == 95))) else (some (a0 == 95))))=some r:=h
 clear h
 by_cases c2:a0 ≥ 97
 ·
  rw [if_pos c2] at H
  have c2b0:decide (97≤a0)=τ:=decide_eq_true c2
  clear c2
  by_cases c3:a0≤122
  ·
   rw [if_pos c3] at H
   have c3b0:decide (a0≤122)=τ:=decide_eq_true c3
   clear c3
   obtain rfl:=Option.some.inj H
   go_enter Tryz.func204,Tryz.ntmps204
   go_wp2
   go_ret
   exact ⟨by rfl,by repeat (exact Drawn0.refl _)⟩
  ·
   rw [if_neg c3] at H
   have c3b0:decide (a0≤122)=φ:=decide_eq_false c3
   clear c3
   by_cases c4:a0 ≥ 65
   ·
    rw [if_pos c4] at H
    have c4b0:decide (65≤a0)=τ:=decide_eq_true c4
    clear c4
    by_cases c5:a0≤90
    ·
     rw [if_pos c5] at H
     have c5b0:decide (a0≤90)=τ:=decide_eq_true c5
     clear c5
     obtain rfl:=Option.some.inj H
     go_enter Tryz.func204,Tryz.ntmps204
     go_wp2
     go_ret
     exact ⟨by rfl,by repeat (exact Drawn0.refl _)⟩
    ·
     rw [if_neg c5] at H
     have c5b0:decide (a0≤90)=φ:=decide_eq_false c5
     clear c5
     obtain rfl:=Option.some.inj H
     go_enter Tryz.func204,Tryz.ntmps204
     go_wp2
     go_ret
     exact ⟨by rfl,by repeat (exact Drawn0.refl _)⟩
   ·
    rw [if_neg c4] at H
    have c4b0:decide (65≤a0)=φ:=decide_eq_false c4
    clear c4
    obtain rfl:=Option.some.inj H
    go_enter Tryz.func204,Tryz.ntmps204
    go_wp2
    go_ret
    exact ⟨by rfl,by repeat (exact Drawn0.refl _)⟩
 ·
  rw [if_neg c2] at H
  have c2b0:decide (97≤a0)=φ:=decide_eq_false c2
  clear c2
  by_cases c6:a0 ≥ 65
  ·
   rw [if_pos c6] at H
   have c6b0:decide (65≤a0)=τ:=decide_eq_true c6
   clear c6
   by_cases c7:a0≤90
   ·
    rw [if_pos c7] at H
    have c7b0:decide (a0≤90)=τ:=decide_eq_true c7
    clear c7
    obtain rfl:=Option.some.inj H
    go_enter Tryz.func204,Tryz.ntmps204
    go_wp2
    go_ret
    exact ⟨by rfl,by repeat (exact Drawn0.refl _)⟩
   ·
    rw [if_neg c7] at H
    have c7b0:decide (a0≤90)=φ:=decide_eq_false c7
    clear c7
    obtain rfl:=Option.some.inj H
    go_enter Tryz.func204,Tryz.ntmps204
    go_wp2
    go_ret
    exact ⟨by rfl,by repeat (exact Drawn0.refl _)⟩
  ·
   rw [if_neg c6] at H
   have c6b0:decide (65≤a0)=φ:=decide_eq_false c6
   clear c6
   obtain rfl:=Option.some.inj H
   go_enter Tryz.func204,Tryz.ntmps204
   go_wp2
   go_ret
   exact ⟨by rfl,by repeat (exact Drawn0.refl _)⟩



/-! ### spec_l00Digit: function 205 -/
def spec_l00Digit.f (a0:Int):Option (Bool):=if a0 ≥ 48 then (some (decide (a0≤57))) else (some φ)
set_option maxHeartbeats 8000000 in
set_option maxRecDepth 100000 in
theorem spec_l00Digit.calls (a0:Int) (r:Bool) (w:World) (h:spec_l00Digit.f a0=some r) :
  Calls Tryz.prog 205 #[.int .u8 a0] w fun e w'=>e = .returned (.bool r)∧Drawn0 w w':=by
 have H:(if a0 ≥ 48 then (some (decide (a0≤57))) else (some φ))=some r:=h
 clear h
 by_cases c2:a0 ≥ 48
 ·
  rw [if_pos c2] at H
  have c2b0:decide (48≤a0)=τ:=decide_eq_true c2
  clear c2
  obtain rfl:=Option.some.inj H
  go_enter Tryz.func205,Tryz.ntmps205
  go_wp2
  go_ret
  exact ⟨by rfl,by repeat (exact Drawn0.refl _)⟩
 ·
  rw [if_neg c2] at H
  have c2b0:decide (48≤a0)=φ:=decide_eq_false c2
  clear c2
  obtain rfl:=Option.some.inj H
  go_enter Tryz.func205,Tryz.ntmps205
  go_wp2
  go_ret
  exact ⟨by rfl,by repeat (exact Drawn0.refl _)⟩



/-! ### spec_l00Word: function 182 -/
mutual
def spec_l00Word.j0:Nat→ByteArray→Bool→Option (Bool)
 | 0,_,_=>none
 | k+1,x0,x17=>if x17=τ then (some φ) else (spec_l00Word.l0 k x0 1)
def spec_l00Word.l0:Nat→ByteArray→Int→Option (Bool)
 | 0,_,_=>none
 | k+1,x0,x3=>if x3<(x0.size:Int) then (if 0≤x3 then ((spec_l00Letter.f (bt x0 x3)).bind fun t114=>(if t114=τ then (spec_l00Word.l0 k x0 (ζm (x3+1))) else ((spec_l00Digit.f (bt x0 x3)).bind fun t115=>(if t115=τ then (spec_l00Word.l0 k x0 (ζm (x3+1))) else (some φ))))) else (none)) else (some τ)
end
def spec_l00Word.f (k:Nat) (a0:ByteArray):Option (Bool):=if (a0.size:Int)<1 then (spec_l00Word.j0 k a0 τ) else (if (a0.size:Int) > 40 then (spec_l00Word.j0 k a0 τ) else (if 0<(a0.size:Int) then ((spec_l00Letter.f (bt a0 0)).bind fun t113=>(spec_l00Word.j0 k a0 (!t113))) else (none)))
set_option maxHeartbeats 8000000 in
set_option maxRecDepth 100000 in
theorem spec_l00Word.calls (k:Nat) (a0:ByteArray) (r:Bool) (w:World) (h:spec_l00Word.f k a0=some r) :
  Calls Tryz.prog 182 #[.string a0] w fun e w'=>e = .returned (.bool r)∧Drawn0 w w':=by
 have H:(if (a0.size:Int)<1 then (spec_l00Word.j0 k a0 τ) else (if (a0.size:Int) > 40 then (spec_l00Word.j0 k a0 τ) else (if 0<(a0.size:Int) then ((spec_l00Letter.f (bt a0 0)).bind fun t113=>(spec_l00Word.j0 k a0 (!t113))) else (none))))=some r:=h
 clear h
 have HC2:=ζa H
 clear H
 go_enter Tryz.func182,Tryz.ntmps182
 go_upto_region 1 with (fail)
 go_cut [17] (fun v17 wc => ∃ (kq:Nat) (x17_1:Bool),v17 = .bool x17_1∧Aside0 (spec_l00Word.j0 kq a0 x17_1=some r)∧Aside0 (kq≤k)∧Drawn0 w wc)
 case first =>
  have H:=HC2.out
  clear HC2
  by_cases c3:(a0.size:Int)<1
  ·
   rw [if_pos c3] at H
   have c3b0:decide ((a0.size:Int)<1)=τ:=decide_eq_true c3
   have c3b1:decide (a0.size<1)=τ:=decide_eq_true (by omega)
   clear c3
   (skip)
   have H':=ζa H
   clear H
   go_wp2
   go_meet
   case rel=>exact ⟨_,(τ),(by rfl),H',⟨by omega⟩,by repeat (exact Drawn0.refl _)⟩
  ·
   rw [if_neg c3] at H
   have c3b0:decide ((a0.size:Int)<1)=φ:=decide_eq_false c3
   have c3b1:decide (a0.size<1)=φ:=decide_eq_false (by omega)
   clear c3
   (skip)
   by_cases c4:(a0.size:Int) > 40
   ·
    rw [if_pos c4] at H
    have c4b0:decide (40<(a0.size:Int))=τ:=decide_eq_true c4
    have c4b1:decide (40<a0.size)=τ:=decide_eq_true (by omega)
    clear c4
    have H':=ζa H
    clear H
    go_wp2
    go_meet
    case rel=>exact ⟨_,(τ),(by rfl),H',⟨by omega⟩,by repeat (exact Drawn0.refl _)⟩
   ·
    rw [if_neg c4] at H
    have c4b0:decide (40<(a0.size:Int))=φ:=decide_eq_false c4
    have c4b1:decide (40<a0.size)=φ:=decide_eq_false (by omega)
    clear c4
    by_cases c5:0<(a0.size:Int)
    ·
     rw [if_pos c5] at H
     have c5b0:decide (0<(a0.size:Int))=τ:=decide_eq_true c5
     have c5b1:decide (0<a0.size)=τ:=decide_eq_true (by omega)
     clear c5
     replace H:=Option.bind_eq_some_iff.mp H
     obtain ⟨t113,A70,H⟩:=H
     replace H:(spec_l00Word.j0 k a0 (!t113))=some r:=H
     have A7:=ζa A70
     clear A70
     have H':=ζa H
     clear H
     have p6:0≤(0:Int):=(by omega)
     have q6:0<a0.size:=(by have:(0:Int)<(a0.size:Int):=of_decide_eq_true (by (with_reducible assumption));omega)
     have hx6 : ∀ h:0<a0.size,((a0[0]'h).toNat:Int)=bt a0 0:=bt_at a0 0
     clear p6
     have qi6:(0<(a0.size:Int))=True:=eq_true (of_decide_eq_true (by (with_reducible assumption)))
     replace q6:=eq_true q6
     go_wp2_with ((go_at_call 204;(with_reducible refine (spec_l00Letter.calls (bt a0 0) t113 _ A7.out).mono ?_);rintro e w' ⟨rfl,⟨nd,rfl⟩⟩))
     go_meet
     case rel=>exact ⟨_,(!t113),(by rfl),H',⟨by omega⟩,by repeat (first|exact Drawn0.refl _|apply Drawn0.step)⟩
    ·
     rw [if_neg c5] at H
     exact absurd H (by simp)
 case rest =>
  clear HC2
  try clear c1
  try clear p2
  try clear c3
  try clear c3b0
  try clear c3b1
  try clear c4
  try clear c4b0
  try clear c4b1
  try clear c5
  try clear c5b0
  try clear c5b1
  try clear p6
  try clear q6
  try clear hx6
  try clear qi6
  try clear p6
  try clear q6
  obtain ⟨kq,x17_1,rfl,HA,HJ1,⟨mc1,rfl⟩⟩:=hcut
  cases kq with
  | zero=>exact absurd HA.out (by simp [spec_l00Word.j0])
  | succ kj1 =>
   have H:=HA.out
   clear HA
   simp only [spec_l00Word.j0] at H
   by_cases c8:x17_1=τ
   ·
    subst c8
    have H1:(some φ)=some r:=by rw [if_pos rfl] at H;exact H
    clear H
    have H:=H1
    clear H1
    obtain rfl:=Option.some.inj H
    go_wp2
    go_ret
    exact ⟨by rfl,by repeat (first|exact Drawn0.refl _|apply Drawn0.step)⟩
   ·
    replace c8:=Bool.eq_false_iff.mpr c8
    subst c8
    have H1:(spec_l00Word.l0 kj1 a0 1)=some r:=by rw [if_neg (show ¬ (φ=τ) by decide)] at H;exact H
    clear H
    have H:=H1
    clear H1
    have H':=ζa H
    clear H
    go_wp2
    go_loopg [3] kj1 (fun kq v3 w' => ∃ (x3_2:Int),v3 = .int .i64 x3_2∧Aside0 (spec_l00Word.l0 kq a0 x3_2=some r)∧Aside0 (kq≤kj1)∧Drawn0 w w')
    case atStart=>exact ⟨(1),(by rfl),H',⟨Nat.le_refl _⟩,by repeat (first|exact Drawn0.refl _|apply Drawn0.step)⟩
    case round =>
     clear H'
     try clear c1
     try clear p2
     try clear c3
     try clear c3b0
     try clear c3b1
     try clear c4
     try clear c4b0
     try clear c4b1
     try clear c5
     try clear c5b0
     try clear c5b1
     try clear p6
     try clear q6
     try clear hx6
     try clear qi6
     try clear c8
     try clear p2
     try clear p6
     try clear q6
     obtain ⟨x3_2,rfl,HA,HK2,⟨m2,rfl⟩⟩:=hrel
     cases gk with
     | zero=>exact absurd HA.out (by simp [spec_l00Word.l0])
     | succ k2 =>
      have H:=HA.out
      clear HA
      simp only [spec_l00Word.l0] at H
      by_cases c9:x3_2<(a0.size:Int)
      ·
       rw [if_pos c9] at H
       have c9b0:decide (x3_2<(a0.size:Int))=τ:=decide_eq_true c9
       clear c9
       by_cases c10:0≤x3_2
       ·
        rw [if_pos c10] at H
        have c10b0:decide (0≤x3_2)=τ:=decide_eq_true c10
        clear c10
        replace H:=Option.bind_eq_some_iff.mp H
        obtain ⟨t114,A120,H⟩:=H
        replace H:(if t114=τ then (spec_l00Word.l0 k2 a0 (ζm (x3_2+1))) else ((spec_l00Digit.f (bt a0 x3_2)).bind fun t115=>(if t115=τ then (spec_l00Word.l0 k2 a0 (ζm (x3_2+1))) else (some φ))))=some r:=H
        have A12:=ζa A120
        clear A120
        by_cases c13:t114=τ
        ·
         subst c13
         have H1:(spec_l00Word.l0 k2 a0 (ζm (x3_2+1)))=some r:=by rw [if_pos rfl] at H;exact H
         clear H
         have H:=H1
         clear H1
         have H':=ζa H
         clear H
         have p11:0≤(x3_2:Int):=of_decide_eq_true (by (with_reducible assumption))
         have q11:x3_2<(a0.size:Int):=of_decide_eq_true (by (with_reducible assumption))
         have hx11:=bt_at a0 x3_2
         replace p11:=eq_true p11
         replace q11:=eq_true q11
         go_wp2_with (((with_reducible refine δv (f:=204) rfl ?_);refine goesL_ (some 27) rfl rfl Tryz.func204 (by kernel_rfl) rfl #[.int .u8 (bt a0 x3_2)] rfl (by (try simp only [δd,δe,δf]);rfl) ?_;(with_reducible refine (spec_l00Letter.calls (bt a0 x3_2) τ _ A12.out).mono ?_);rintro e w' ⟨rfl,⟨nd,rfl⟩⟩;refine ⟨_,rfl,?_⟩))
         go_roundg k2
         case measure=>have:=HJ1.out;have:=HK2.out;omega
         case rel=>exact ⟨(ζm (x3_2+1)),(by rfl),H',⟨by have:=HJ1.out;have:=HK2.out;omega⟩,by repeat (first|exact Drawn0.refl _|apply Drawn0.step)⟩
        ·
         replace c13:=Bool.eq_false_iff.mpr c13
         subst c13
         have H1:((spec_l00Digit.f (bt a0 x3_2)).bind fun t115=>(if t115=τ then (spec_l00Word.l0 k2 a0 (ζm (x3_2+1))) else (some φ)))=some r:=by rw [if_neg (show ¬ (φ=τ) by decide)] at H;exact H
         clear H
         have H:=H1
         clear H1
         replace H:=Option.bind_eq_some_iff.mp H
         obtain ⟨t115,A150,H⟩:=H
         replace H:(if t115=τ then (spec_l00Word.l0 k2 a0 (ζm (x3_2+1))) else (some φ))=some r:=H
         have A15:=ζa A150
         clear A150
         by_cases c16:t115=τ
         ·
          subst c16
          have H1:(spec_l00Word.l0 k2 a0 (ζm (x3_2+1)))=some r:=by rw [if_pos rfl] at H;exact H
          clear H
          have H:=H1
          clear H1
          have H':=ζa H
          clear H
          have p11:0≤(x3_2:Int):=of_decide_eq_true (by (with_reducible assumption))
          have q11:x3_2<(a0.size:Int):=of_decide_eq_true (by (with_reducible assumption))
          have hx11:=bt_at a0 x3_2
          replace p11:=eq_true p11
          replace q11:=eq_true q11
          go_wp2_with (first|((with_reducible refine δv (f:=204) rfl ?_);refine goesL_ (some 27) rfl rfl Tryz.func204 (by kernel_rfl) rfl #[.int .u8 (bt a0 x3_2)] rfl (by (try simp only [δd,δe,δf]);rfl) ?_;(with_reducible refine (spec_l00Letter.calls (bt a0 x3_2) φ _ A12.out).mono ?_);rintro e w' ⟨rfl,⟨nd,rfl⟩⟩;refine ⟨_,rfl,?_⟩;have p14:0≤(x3_2:Int):=of_decide_eq_true (by (with_reducible assumption));have q14:x3_2<(a0.size:Int):=of_decide_eq_true (by (with_reducible assumption));have hx14:=bt_at a0 x3_2;replace p14:=eq_true p14;replace q14:=eq_true q14)|(go_at_call 205;(with_reducible refine (spec_l00Digit.calls (bt a0 x3_2) τ _ A15.out).mono ?_);rintro e w' ⟨rfl,⟨nd,rfl⟩⟩))
          go_roundg k2
          case measure=>have:=HJ1.out;have:=HK2.out;omega
          case rel=>exact ⟨(ζm (x3_2+1)),(by rfl),H',⟨by have:=HJ1.out;have:=HK2.out;omega⟩,by repeat (first|exact Drawn0.refl _|apply Drawn0.step)⟩
         ·
          replace c16:=Bool.eq_false_iff.mpr c16
          subst c16
          have H1:(some φ)=some r:=by rw [if_neg (show ¬ (φ=τ) by decide)] at H;exact H
          clear H
          have H:=H1
          clear H1
          obtain rfl:=Option.some.inj H
          have p11:0≤(x3_2:Int):=of_decide_eq_true (by (with_reducible assumption))
          have q11:x3_2<(a0.size:Int):=of_decide_eq_true (by (with_reducible assumption))
          have hx11:=bt_at a0 x3_2
          replace p11:=eq_true p11
          replace q11:=eq_true q11
          go_wp2_with (first|((with_reducible refine δv (f:=204) rfl ?_);refine goesL_ (some 27) rfl rfl Tryz.func204 (by kernel_rfl) rfl #[.int .u8 (bt a0 x3_2)] rfl (by (try simp only [δd,δe,δf]);rfl) ?_;(with_reducible refine (spec_l00Letter.calls (bt a0 x3_2) φ _ A12.out).mono ?_);rintro e w' ⟨rfl,⟨nd,rfl⟩⟩;refine ⟨_,rfl,?_⟩;have p14:0≤(x3_2:Int):=of_decide_eq_true (by (with_reducible assumption));have q14:x3_2<(a0.size:Int):=of_decide_eq_true (by (with_reducible assumption));have hx14:=bt_at a0 x3_2;replace p14:=eq_true p14;replace q14:=eq_true q14)|(go_at_call 205;(with_reducible refine (spec_l00Digit.calls (bt a0 x3_2) φ _ A15.out).mono ?_);rintro e w' ⟨rfl,⟨nd,rfl⟩⟩))
          go_ret
          exact ⟨by rfl,by repeat (first|exact Drawn0.refl _|apply Drawn0.step)⟩
       ·
        rw [if_neg c10] at H
        exact absurd H (by simp)
      ·
       rw [if_neg c9] at H
       have c9b0:decide (x3_2<(a0.size:Int))=φ:=decide_eq_false c9
       clear c9
       obtain rfl:=Option.some.inj H
       go_wp2
       go_ret
       exact ⟨by rfl,by repeat (first|exact Drawn0.refl _|apply Drawn0.step)⟩



/-! ### spec_NameOK: function 133 -/
def spec_NameOK.f (k:Nat) (a0:ByteArray):Option (Bool):=(spec_l00Word.f k a0).bind fun t116=>(some t116)
set_option maxHeartbeats 8000000 in
set_option maxRecDepth 100000 in
theorem spec_NameOK.calls (k:Nat) (a0:ByteArray) (r:Bool) (w:World) (h:spec_NameOK.f k a0=some r) :
  Calls Tryz.prog 133 #[.string a0] w fun e w'=>e = .returned (.bool r)∧Drawn0 w w':=by
 have H:((spec_l00Word.f k a0).bind fun t116=>(some t116))=some r:=h
 clear h
 replace H:=Option.bind_eq_some_iff.mp H
 obtain ⟨t116,A20,H⟩:=H
 replace H:(some t116)=some r:=H
 have A2:=ζa A20
 clear A20
 obtain rfl:=Option.some.inj H
 go_enter Tryz.func133,Tryz.ntmps133
 go_wp2_with (((with_reducible refine δv (f:=182) rfl ?_);refine goesL_ (some 4) rfl rfl Tryz.func182 (by kernel_rfl) rfl #[.string a0] rfl (by (try simp only [δd,δe,δf]);rfl) ?_;(with_reducible refine (spec_l00Word.calls k a0 t116 _ A2.out).mono ?_);rintro e w' ⟨rfl,⟨nd,rfl⟩⟩;refine ⟨_,rfl,?_⟩))
 go_ret
 exact ⟨by rfl,by repeat (first|exact Drawn0.refl _|apply Drawn0.step)⟩



/-! ### spec_l05Name: function 75 -/
def spec_l05Name.f (k:Nat) (a0:ByteArray):Option (Bool):=if (a0.size:Int)≤12 then ((spec_NameOK.f k a0).bind fun t117=>(some t117)) else (some φ)
set_option maxHeartbeats 8000000 in
set_option maxRecDepth 100000 in
theorem spec_l05Name.calls (k:Nat) (a0:ByteArray) (r:Bool) (w:World) (h:spec_l05Name.f k a0=some r) :
  Calls Tryz.prog 75 #[.string a0] w fun e w'=>e = .returned (.bool r)∧Drawn0 w w':=by
 have H:(if (a0.size:Int)≤12 then ((spec_NameOK.f k a0).bind fun t117=>(some t117)) else (some φ))=some r:=h
 clear h
 by_cases c2:(a0.size:Int)≤12
 ·
  rw [if_pos c2] at H
  have c2b0:decide ((a0.size:Int)≤12)=τ:=decide_eq_true c2
  have c2b1:decide (a0.size≤12)=τ:=decide_eq_true (by omega)
  clear c2
  replace H:=Option.bind_eq_some_iff.mp H
  obtain ⟨t117,A30,H⟩:=H
  replace H:(some t117)=some r:=H
  have A3:=ζa A30
  clear A30
  obtain rfl:=Option.some.inj H
  go_enter Tryz.func75,Tryz.ntmps75
  go_wp2_with ((go_at_call 133;(with_reducible refine (spec_NameOK.calls k a0 t117 _ A3.out).mono ?_);rintro e w' ⟨rfl,⟨nd,rfl⟩⟩))
  go_ret
  exact ⟨by rfl,by repeat (first|exact Drawn0.refl _|apply Drawn0.step)⟩
 ·
  rw [if_neg c2] at H
  have c2b0:decide ((a0.size:Int)≤12)=φ:=decide_eq_false c2
  have c2b1:decide (a0.size≤12)=φ:=decide_eq_false (by omega)
  clear c2
  obtain rfl:=Option.some.inj H
  go_enter Tryz.func75,Tryz.ntmps75
  go_wp2
  go_ret
  exact ⟨by rfl,by repeat (exact Drawn0.refl _)⟩



/-! ### spec_l08Name: function 76 -/
def spec_l08Name.f (k:Nat) (a0:ByteArray):Option (Bool):=(spec_l05Name.f k a0).bind fun t118=>(if t118=τ then (if a0.toList=([101,115,99,114,111,119]:List UInt8) then (some φ) else (if a0.toList=([111,114,100,101,114,115]:List UInt8) then (some φ) else (if a0.toList=([116,97,107,101,115]:List UInt8) then (some φ) else (some (a0.toList != ([112,111,111,108]:List UInt8)))))) else (some φ))
set_option maxHeartbeats 8000000 in
set_option maxRecDepth 100000 in
theorem spec_l08Name.calls (k:Nat) (a0:ByteArray) (r:Bool) (w:World) (h:spec_l08Name.f k a0=some r) :
  Calls Tryz.prog 76 #[.string a0] w fun e w'=>e = .returned (.bool r)∧Drawn0 w w':=by
 have H:((spec_l05Name.f k a0).bind fun t118=>(if t118=τ then (if a0.toList=([101,115,99,114,111,119]:List UInt8) then (some φ) else (if a0.toList=([111,114,100,101,114,115]:List UInt8) then (some φ) else (if a0.toList=([116,97,107,101,115]:List UInt8) then (some φ) else (some (a0.toList != ([112,111,111,108]:List UInt8)))))) else (some φ)))=some r:=h
 clear h
 replace H:=Option.bind_eq_some_iff.mp H
 obtain ⟨t118,A20,H⟩:=H
 replace H:(if t118=τ then (if a0.toList=([101,115,99,114,111,119]:List UInt8) then (some φ) else (if a0.toList=([111,114,100,101,114,115]:List UInt8) then (some φ) else (if a0.toList=([116,97,107,101,115]:List UInt8) then (some φ) else (some (a0.toList != ([112,111,111,108]:List UInt8)))))) else (some φ))=some r:=H
 have A2:=ζa A20
 clear A20
 by_cases c3:t118=τ
 ·
  subst c3
  have H1:(if a0.toList=([101,115,99,114,111,119]:List UInt8) then (some φ) else (if a0.toList=([111,114,100,101,114,115]:List UInt8) then (some φ) else (if a0.toList=([116,97,107,101,115]:List UInt8) then (some φ) else (some (a0.toList != ([112,111,111,108]:List UInt8))))))=some r:=by rw [if_pos rfl] at H;exact H
  clear H
  have H:=H1
  clear H1
  by_cases c4:a0.toList=([101,115,99,114,111,119]:List UInt8)
  ·
   rw [if_pos c4] at H
   have c4b0:(a0.toList == ([101,115,99,114,111,119]:List UInt8))=τ:=beq_iff_eq.mpr c4
   have c4b1:(a0.toList != ([101,115,99,114,111,119]:List UInt8))=φ:=bne_eq_false_iff_eq.mpr c4
   clear c4
   obtain rfl:=Option.some.inj H
   go_enter Tryz.func76,Tryz.ntmps76
   go_wp2_with (((with_reducible refine δv (f:=75) rfl ?_);refine goesL_ (some 4) rfl rfl Tryz.func75 (by kernel_rfl) rfl #[.string a0] rfl (by (try simp only [δd,δe,δf]);rfl) ?_;(with_reducible refine (spec_l05Name.calls k a0 τ _ A2.out).mono ?_);rintro e w' ⟨rfl,⟨nd,rfl⟩⟩;refine ⟨_,rfl,?_⟩))
   go_ret
   exact ⟨by rfl,by repeat (first|exact Drawn0.refl _|apply Drawn0.step)⟩
  ·
   rw [if_neg c4] at H
   have c4b0:(a0.toList == ([101,115,99,114,111,119]:List UInt8))=φ:=beq_eq_false_iff_ne.mpr c4
   have c4b1:(a0.toList != ([101,115,99,114,111,119]:List UInt8))=τ:=bne_iff_ne.mpr c4
   by_cases c5:a0.toList=([111,114,100,101,114,115]:List UInt8)
   ·
    rw [if_pos c5] at H
    have c5b0:(a0.toList == ([111,114,100,101,114,115]:List UInt8))=τ:=beq_iff_eq.mpr c5
    have c5b1:(a0.toList != ([111,114,100,101,114,115]:List UInt8))=φ:=bne_eq_false_iff_eq.mpr c5
    clear c5
    obtain rfl:=Option.some.inj H
    go_enter Tryz.func76,Tryz.ntmps76
    go_wp2_with (((with_reducible refine δv (f:=75) rfl ?_);refine goesL_ (some 4) rfl rfl Tryz.func75 (by kernel_rfl) rfl #[.string a0] rfl (by (try simp only [δd,δe,δf]);rfl) ?_;(with_reducible refine (spec_l05Name.calls k a0 τ _ A2.out).mono ?_);rintro e w' ⟨rfl,⟨nd,rfl⟩⟩;refine ⟨_,rfl,?_⟩))
    go_ret
    exact ⟨by rfl,by repeat (first|exact Drawn0.refl _|apply Drawn0.step)⟩
   ·
    rw [if_neg c5] at H
    have c5b0:(a0.toList == ([111,114,100,101,114,115]:List UInt8))=φ:=beq_eq_false_iff_ne.mpr c5
    have c5b1:(a0.toList != ([111,114,100,101,114,115]:List UInt8))=τ:=bne_iff_ne.mpr c5
    by_cases c6:a0.toList=([116,97,107,101,115]:List UInt8)
    ·
     rw [if_pos c6] at H
     have c6b0:(a0.toList == ([116,97,107,101,115]:List UInt8))=τ:=beq_iff_eq.mpr c6
     have c6b1:(a0.toList != ([116,97,107,101,115]:List UInt8))=φ:=bne_eq_false_iff_eq.mpr c6
     clear c6
     obtain rfl:=Option.some.inj H
     go_enter Tryz.func76,Tryz.ntmps76
     go_wp2_with (((with_reducible refine δv (f:=75) rfl ?_);refine goesL_ (some 4) rfl rfl Tryz.func75 (by kernel_rfl) rfl #[.string a0] rfl (by (try simp only [δd,δe,δf]);rfl) ?_;(with_reducible refine (spec_l05Name.calls k a0 τ _ A2.out).mono ?_);rintro e w' ⟨rfl,⟨nd,rfl⟩⟩;refine ⟨_,rfl,?_⟩))
     go_ret
     exact ⟨by rfl,by repeat (first|exact Drawn0.refl _|apply Drawn0.step)⟩
    ·
     rw [if_neg c6] at H
     have c6b0:(a0.toList == ([116,97,107,101,115]:List UInt8))=φ:=beq_eq_false_iff_ne.mpr c6
     have c6b1:(a0.toList != ([116,97,107,101,115]:List UInt8))=τ:=bne_iff_ne.mpr c6
     obtain rfl:=Option.some.inj H
     go_enter Tryz.func76,Tryz.ntmps76
     go_wp2_with (((with_reducible refine δv (f:=75) rfl ?_);refine goesL_ (some 4) rfl rfl Tryz.func75 (by kernel_rfl) rfl #[.string a0] rfl (by (try simp only [δd,δe,δf]);rfl) ?_;(with_reducible refine (spec_l05Name.calls k a0 τ _ A2.out).mono ?_);rintro e w' ⟨rfl,⟨nd,rfl⟩⟩;refine ⟨_,rfl,?_⟩))
     go_ret
     exact ⟨by rfl,by repeat (first|exact Drawn0.refl _|apply Drawn0.step)⟩
 ·
  replace c3:=Bool.eq_false_iff.mpr c3
  subst c3
  have H1:(some φ)=some r:=by rw [if_neg (show ¬ (φ=τ) by decide)] at H;exact H
  clear H
  have H:=H1
  clear H1
  obtain rfl:=Option.some.inj H
  go_enter Tryz.func76,Tryz.ntmps76
  go_wp2_with (((with_reducible refine δv (f:=75) rfl ?_);refine goesL_ (some 4) rfl rfl Tryz.func75 (by kernel_rfl) rfl #[.string a0] rfl (by (try simp only [δd,δe,δf]);rfl) ?_;(with_reducible refine (spec_l05Name.calls k a0 φ _ A2.out).mono ?_);rintro e w' ⟨rfl,⟨nd,rfl⟩⟩;refine ⟨_,rfl,?_⟩))
  go_ret
  exact ⟨by rfl,by repeat (first|exact Drawn0.refl _|apply Drawn0.step)⟩



/-! ### spec_l07Other: function 89 -/
def spec_l07Other.f (a0:ByteArray):Option (ByteArray):=if a0.toList=([120]:List UInt8) then (some (⟨#[121]⟩:ByteArray)) else (some (⟨#[120]⟩:ByteArray))
set_option maxHeartbeats 8000000 in
set_option maxRecDepth 100000 in
theorem spec_l07Other.calls (a0:ByteArray) (r:ByteArray) (w:World) (h:spec_l07Other.f a0=some r) :
  Calls Tryz.prog 89 #[.string a0] w fun e w'=>e = .returned (.string r)∧Drawn0 w w':=by
 have H:(if a0.toList=([120]:List UInt8) then (some (⟨#[121]⟩:ByteArray)) else (some (⟨#[120]⟩:ByteArray)))=some r:=h
 clear h
 by_cases c2:a0.toList=([120]:List UInt8)
 ·
  rw [if_pos c2] at H
  have c2b0:(a0.toList == ([120]:List UInt8))=τ:=beq_iff_eq.mpr c2
  have c2b1:(a0.toList != ([120]:List UInt8))=φ:=bne_eq_false_iff_eq.mpr c2
  clear c2
  obtain rfl:=Option.some.inj H
  go_enter Tryz.func89,Tryz.ntmps89
  go_wp2
  go_ret
  exact ⟨by rfl,by repeat (exact Drawn0.refl _)⟩
 ·
  rw [if_neg c2] at H
  have c2b0:(a0.toList == ([120]:List UInt8))=φ:=beq_eq_false_iff_ne.mpr c2
  have c2b1:(a0.toList != ([120]:List UInt8))=τ:=bne_iff_ne.mpr c2
  obtain rfl:=Option.some.inj H
  go_enter Tryz.func89,Tryz.ntmps89
  go_wp2
  go_ret
  exact ⟨by rfl,by repeat (exact Drawn0.refl _)⟩



/-! ### spec_l03Get: function 102 -/
def spec_l03Get.f (k:Nat) (l0:List (S51)) (a1:ByteArray):Option (ByteArray × Bool):=(spec_l03At.f k l0 a1).bind fun t120=>(if t120<(l0.length:Int) then (if 0≤t120 then (if ((rd_T51 l0 t120).f0).toList=a1.toList then (some ((rd_T51 l0 t120).f1,τ)) else (some ((⟨#[]⟩:ByteArray),φ))) else (none)) else (some ((⟨#[]⟩:ByteArray),φ)))
set_option maxHeartbeats 8000000 in
set_option maxRecDepth 100000 in
theorem spec_l03Get.calls (k:Nat) (A0:Option Addr) (c0:Nat) (l0:List (S51)) (a1:ByteArray) (r1:ByteArray) (r2:Bool) (w:World) (hr0:Kd.C k51 w A0 l0.length l0) (hc0:l0.length≤c0) (h:spec_l03Get.f k l0 a1=some (r1,r2)) :
  Calls Tryz.prog 102 #[.slice A0 l0.length c0,.string a1] w fun e w'=>e = .returned (.tuple #[.string r1,.bool r2])∧Drawn0 w w':=by
 have HR0:=ζa hr0
 have HC0:=ζa hc0
 clear hr0 hc0
 have H:((spec_l03At.f k l0 a1).bind fun t120=>(if t120<(l0.length:Int) then (if 0≤t120 then (if ((rd_T51 l0 t120).f0).toList=a1.toList then (some ((rd_T51 l0 t120).f1,τ)) else (some ((⟨#[]⟩:ByteArray),φ))) else (none)) else (some ((⟨#[]⟩:ByteArray),φ))))=some (r1,r2):=h
 clear h
 replace H:=Option.bind_eq_some_iff.mp H
 obtain ⟨t120,A30,H⟩:=H
 replace H:(if t120<(l0.length:Int) then (if 0≤t120 then (if ((rd_T51 l0 t120).f0).toList=a1.toList then (some ((rd_T51 l0 t120).f1,τ)) else (some ((⟨#[]⟩:ByteArray),φ))) else (none)) else (some ((⟨#[]⟩:ByteArray),φ)))=some (r1,r2):=H
 have A3:=ζa A30
 clear A30
 by_cases c4:t120<(l0.length:Int)
 ·
  rw [if_pos c4] at H
  have c4b0:decide (t120<(l0.length:Int))=τ:=decide_eq_true c4
  clear c4
  by_cases c5:0≤t120
  ·
   rw [if_pos c5] at H
   have c5b0:decide (0≤t120)=τ:=decide_eq_true c5
   clear c5
   by_cases c6:((rd_T51 l0 t120).f0).toList=a1.toList
   ·
    rw [if_pos c6] at H
    have c6b0:(((rd_T51 l0 t120).f0).toList == a1.toList)=τ:=beq_iff_eq.mpr c6
    have c6b1:(((rd_T51 l0 t120).f0).toList != a1.toList)=φ:=bne_eq_false_iff_eq.mpr c6
    clear c6
    simp only [Option.some.injEq,Prod.mk.injEq] at H
    obtain ⟨rfl,rfl⟩:=H
    go_enter Tryz.func102,Tryz.ntmps102
    go_wp2_with (((with_reducible refine δv (f:=160) rfl ?_);refine goesL_ (some 9) rfl rfl Tryz.func160 (by kernel_rfl) rfl #[.slice A0 l0.length c0,.string a1] rfl (by (try simp only [δd,δe,δf]);rfl) ?_;(with_reducible refine (spec_l03At.calls k _ _ l0 a1 t120 _ ?side1 ?side2 A3.out).mono ?_);(case side1=>repeat (exact HR0.out));(case side2=>exact HC0.out);rintro e w' ⟨rfl,⟨nd,rfl⟩⟩;refine ⟨_,rfl,?_⟩;have p121:0≤(t120:Int):=of_decide_eq_true (by (with_reducible assumption));have q121:t120<(l0.length:Int):=of_decide_eq_true (by (with_reducible assumption));obtain ⟨ad121,e121,hx121_0,hx121_1⟩:=at_T51 HR0.out t120 p121 q121;cases e121;replace p121:=eq_true p121;replace q121:=eq_true q121;have p122:0≤(t120:Int):=of_decide_eq_true (by (with_reducible assumption));have q122:t120<(l0.length:Int):=of_decide_eq_true (by (with_reducible assumption));obtain ⟨ad122,e122,hx122_0,hx122_1⟩:=at_T51 HR0.out t120 p122 q122;obtain rfl:ad121=ad122:=(by injection e122);replace p122:=eq_true p122;replace q122:=eq_true q122))
    go_ret2
    exact ⟨by rfl,by repeat (first|exact Drawn0.refl _|apply Drawn0.step)⟩
   ·
    rw [if_neg c6] at H
    have c6b0:(((rd_T51 l0 t120).f0).toList == a1.toList)=φ:=beq_eq_false_iff_ne.mpr c6
    have c6b1:(((rd_T51 l0 t120).f0).toList != a1.toList)=τ:=bne_iff_ne.mpr c6
    simp only [Option.some.injEq,Prod.mk.injEq] at H
    obtain ⟨rfl,rfl⟩:=H
    go_enter Tryz.func102,Tryz.ntmps102
    go_wp2_with (((with_reducible refine δv (f:=160) rfl ?_);refine goesL_ (some 9) rfl rfl Tryz.func160 (by kernel_rfl) rfl #[.slice A0 l0.length c0,.string a1] rfl (by (try simp only [δd,δe,δf]);rfl) ?_;(with_reducible refine (spec_l03At.calls k _ _ l0 a1 t120 _ ?side1 ?side2 A3.out).mono ?_);(case side1=>repeat (exact HR0.out));(case side2=>exact HC0.out);rintro e w' ⟨rfl,⟨nd,rfl⟩⟩;refine ⟨_,rfl,?_⟩;have p121:0≤(t120:Int):=of_decide_eq_true (by (with_reducible assumption));have q121:t120<(l0.length:Int):=of_decide_eq_true (by (with_reducible assumption));obtain ⟨ad121,e121,hx121_0,hx121_1⟩:=at_T51 HR0.out t120 p121 q121;cases e121;replace p121:=eq_true p121;replace q121:=eq_true q121))
    go_ret2
    exact ⟨by rfl,by repeat (first|exact Drawn0.refl _|apply Drawn0.step)⟩
  ·
   rw [if_neg c5] at H
   exact absurd H (by simp)
 ·
  rw [if_neg c4] at H
  have c4b0:decide (t120<(l0.length:Int))=φ:=decide_eq_false c4
  clear c4
  simp only [Option.some.injEq,Prod.mk.injEq] at H
  obtain ⟨rfl,rfl⟩:=H
  go_enter Tryz.func102,Tryz.ntmps102
  go_wp2_with (((with_reducible refine δv (f:=160) rfl ?_);refine goesL_ (some 9) rfl rfl Tryz.func160 (by kernel_rfl) rfl #[.slice A0 l0.length c0,.string a1] rfl (by (try simp only [δd,δe,δf]);rfl) ?_;(with_reducible refine (spec_l03At.calls k _ _ l0 a1 t120 _ ?side1 ?side2 A3.out).mono ?_);(case side1=>repeat (exact HR0.out));(case side2=>exact HC0.out);rintro e w' ⟨rfl,⟨nd,rfl⟩⟩;refine ⟨_,rfl,?_⟩))
  go_ret2
  exact ⟨by rfl,by repeat (first|exact Drawn0.refl _|apply Drawn0.step)⟩



/-! ### spec_l02Of: function 149 -/
mutual
def spec_l02Of.j0:Nat→ByteArray→Bool→Option (Int)
 | 0,_,_=>none
 | k+1,x0,x19=>if x19=τ then (some (-1)) else (spec_l02Of.l0 k x0 0 0)
def spec_l02Of.l0:Nat→ByteArray→Int→Int→Option (Int)
 | 0,_,_,_=>none
 | k+1,x0,x3,x4=>if x4<(x0.size:Int) then (if 0≤x4 then (if (bt x0 x4)<48 then (spec_l02Of.j2 k x0 x3 x4 τ) else (spec_l02Of.j2 k x0 x3 x4 (decide ((bt x0 x4) > 57)))) else (none)) else (some x3)
def spec_l02Of.j2:Nat→ByteArray→Int→Int→Bool→Option (Int)
 | 0,_,_,_,_=>none
 | k+1,x0,x3,x4,x35=>if x35=τ then (some (-1)) else (if 0≤x4 then (if x4<(x0.size:Int) then (if x3 > ((1000000000000000000 - (((bt x0 x4) - 48) % 256)) / 10) then (some (-1)) else (spec_l02Of.l0 k x0 (ζm ((ζm (x3 * 10))+(((bt x0 x4) - 48) % 256))) (ζm (x4+1)))) else (none)) else (none))
end
def spec_l02Of.f (k:Nat) (a0:ByteArray):Option (Int):=(spec_l01In.f (a0.size:Int) 1 19).bind fun t123=>(if t123=τ then (if (a0.size:Int) > 1 then (if 0<(a0.size:Int) then (spec_l02Of.j0 k a0 ((bt a0 0) == 48)) else (none)) else (spec_l02Of.j0 k a0 φ)) else (spec_l02Of.j0 k a0 τ))
set_option maxHeartbeats 8000000 in
set_option maxRecDepth 100000 in
theorem spec_l02Of.calls (k:Nat) (a0:ByteArray) (r:Int) (w:World) (h:spec_l02Of.f k a0=some r) :
  Calls Tryz.prog 149 #[.string a0] w fun e w'=>e = .returned (.int .i64 r)∧Drawn0 w w':=by
 have H:((spec_l01In.f (a0.size:Int) 1 19).bind fun t123=>(if t123=τ then (if (a0.size:Int) > 1 then (if 0<(a0.size:Int) then (spec_l02Of.j0 k a0 ((bt a0 0) == 48)) else (none)) else (spec_l02Of.j0 k a0 φ)) else (spec_l02Of.j0 k a0 τ)))=some r:=h
 clear h
 have HC2:=ζa H
 clear H
 go_enter Tryz.func149,Tryz.ntmps149
 go_upto_region 1 with (fail)
 go_cut [19] (fun v19 wc => ∃ (kq:Nat) (x19_1:Bool),v19 = .bool x19_1∧Aside0 (spec_l02Of.j0 kq a0 x19_1=some r)∧Aside0 (kq≤k)∧Drawn0 w wc)
 case first =>
  have H:=HC2.out
  clear HC2
  replace H:=Option.bind_eq_some_iff.mp H
  obtain ⟨t123,A30,H⟩:=H
  replace H:(if t123=τ then (if (a0.size:Int) > 1 then (if 0<(a0.size:Int) then (spec_l02Of.j0 k a0 ((bt a0 0) == 48)) else (none)) else (spec_l02Of.j0 k a0 φ)) else (spec_l02Of.j0 k a0 τ))=some r:=H
  have A3:=ζa A30
  clear A30
  by_cases c4:t123=τ
  ·
   subst c4
   have H1:(if (a0.size:Int) > 1 then (if 0<(a0.size:Int) then (spec_l02Of.j0 k a0 ((bt a0 0) == 48)) else (none)) else (spec_l02Of.j0 k a0 φ))=some r:=by rw [if_pos rfl] at H;exact H
   clear H
   have H:=H1
   clear H1
   by_cases c5:(a0.size:Int) > 1
   ·
    rw [if_pos c5] at H
    have c5b0:decide (1<(a0.size:Int))=τ:=decide_eq_true c5
    have c5b1:decide (1<a0.size)=τ:=decide_eq_true (by omega)
    clear c5
    (skip)
    by_cases c6:0<(a0.size:Int)
    ·
     rw [if_pos c6] at H
     have c6b0:decide (0<(a0.size:Int))=τ:=decide_eq_true c6
     have c6b1:decide (0<a0.size)=τ:=decide_eq_true (by omega)
     clear c6
     have H':=ζa H
     clear H
     go_wp2_with (((with_reducible refine δv (f:=77) rfl ?_);refine goesL_ (some 8) rfl rfl Tryz.func77 (by kernel_rfl) rfl #[.int .i64 (a0.size:Int),.int .i64 1,.int .i64 19] rfl (by (try simp only [δd,δe,δf]);rfl) ?_;(with_reducible refine (spec_l01In.calls (a0.size:Int) 1 19 τ _ A3.out).mono ?_);rintro e w' ⟨rfl,⟨nd,rfl⟩⟩;refine ⟨_,rfl,?_⟩;have p7:0≤(0:Int):=(by omega);have q7:0<a0.size:=(by have:(0:Int)<(a0.size:Int):=of_decide_eq_true (by (with_reducible assumption));omega);have hx7 : ∀ h:0<a0.size,((a0[0]'h).toNat:Int)=bt a0 0:=bt_at a0 0;clear p7;have qi7:(0<(a0.size:Int))=True:=eq_true (of_decide_eq_true (by (with_reducible assumption)));replace q7:=eq_true q7))
     go_meet
     case rel=>exact ⟨_,(((bt a0 0) == 48)),(by rfl),H',⟨by omega⟩,by repeat (first|exact Drawn0.refl _|apply Drawn0.step)⟩
    ·
     rw [if_neg c6] at H
     exact absurd H (by simp)
   ·
    rw [if_neg c5] at H
    have c5b0:decide (1<(a0.size:Int))=φ:=decide_eq_false c5
    have c5b1:decide (1<a0.size)=φ:=decide_eq_false (by omega)
    clear c5
    (skip)
    have H':=ζa H
    clear H
    go_wp2_with (((with_reducible refine δv (f:=77) rfl ?_);refine goesL_ (some 8) rfl rfl Tryz.func77 (by kernel_rfl) rfl #[.int .i64 (a0.size:Int),.int .i64 1,.int .i64 19] rfl (by (try simp only [δd,δe,δf]);rfl) ?_;(with_reducible refine (spec_l01In.calls (a0.size:Int) 1 19 τ _ A3.out).mono ?_);rintro e w' ⟨rfl,⟨nd,rfl⟩⟩;refine ⟨_,rfl,?_⟩))
    go_meet
    case rel=>exact ⟨_,(φ),(by rfl),H',⟨by omega⟩,by repeat (first|exact Drawn0.refl _|apply Drawn0.step)⟩
  ·
   replace c4:=Bool.eq_false_iff.mpr c4
   subst c4
   have H1:(spec_l02Of.j0 k a0 τ)=some r:=by rw [if_neg (show ¬ (φ=τ) by decide)] at H;exact H
   clear H
   have H:=H1
   clear H1
   have H':=ζa H
   clear H
   go_wp2_with (((with_reducible refine δv (f:=77) rfl ?_);refine goesL_ (some 8) rfl rfl Tryz.func77 (by kernel_rfl) rfl #[.int .i64 (a0.size:Int),.int .i64 1,.int .i64 19] rfl (by (try simp only [δd,δe,δf]);rfl) ?_;(with_reducible refine (spec_l01In.calls (a0.size:Int) 1 19 φ _ A3.out).mono ?_);rintro e w' ⟨rfl,⟨nd,rfl⟩⟩;refine ⟨_,rfl,?_⟩))
   go_meet
   case rel=>exact ⟨_,(τ),(by rfl),H',⟨by omega⟩,by repeat (first|exact Drawn0.refl _|apply Drawn0.step)⟩
 case rest =>
  clear HC2
  try clear c1
  try clear p2
  try clear c4
  try clear c5
  try clear c5b0
  try clear c5b1
  try clear c6
  try clear c6b0
  try clear c6b1
  try clear c7
  try clear p7
  try clear q7
  try clear hx7
  try clear qi7
  try clear p7
  try clear q7
  obtain ⟨kq,x19_1,rfl,HA,HJ1,⟨mc1,rfl⟩⟩:=hcut
  cases kq with
  | zero=>exact absurd HA.out (by simp [spec_l02Of.j0])
  | succ kj1 =>
   have H:=HA.out
   clear HA
   simp only [spec_l02Of.j0] at H
   by_cases c8:x19_1=τ
   ·
    subst c8
    have H1:(some (-1))=some r:=by rw [if_pos rfl] at H;exact H
    clear H
    have H:=H1
    clear H1
    obtain rfl:=Option.some.inj H
    go_wp2
    go_ret
    exact ⟨by rfl,by repeat (first|exact Drawn0.refl _|apply Drawn0.step)⟩
   ·
    replace c8:=Bool.eq_false_iff.mpr c8
    subst c8
    have H1:(spec_l02Of.l0 kj1 a0 0 0)=some r:=by rw [if_neg (show ¬ (φ=τ) by decide)] at H;exact H
    clear H
    have H:=H1
    clear H1
    have H':=ζa H
    clear H
    go_wp2
    go_loopg [3,4] kj1 (fun kq v3 v4 w' => ∃ (x3_2:Int) (x4_2:Int),v3 = .int .i64 x3_2∧v4 = .int .i64 x4_2∧Aside0 (spec_l02Of.l0 kq a0 x3_2 x4_2=some r)∧Aside0 (kq≤kj1)∧Drawn0 w w')
    case atStart=>exact ⟨(0),(0),(by rfl),(by rfl),H',⟨Nat.le_refl _⟩,by repeat (first|exact Drawn0.refl _|apply Drawn0.step)⟩
    case round =>
     clear H'
     try clear c1
     try clear p2
     try clear c4
     try clear c5
     try clear c5b0
     try clear c5b1
     try clear c6
     try clear c6b0
     try clear c6b1
     try clear c7
     try clear p7
     try clear q7
     try clear hx7
     try clear qi7
     try clear c8
     try clear p2
     try clear p7
     try clear q7
     obtain ⟨x3_2,x4_2,rfl,rfl,HA,HK2,⟨m2,rfl⟩⟩:=hrel
     cases gk with
     | zero=>exact absurd HA.out (by simp [spec_l02Of.l0])
     | succ k2 =>
      have H:=HA.out
      clear HA
      simp only [spec_l02Of.l0] at H
      by_cases c9:x4_2<(a0.size:Int)
      ·
       rw [if_pos c9] at H
       have c9b0:decide (x4_2<(a0.size:Int))=τ:=decide_eq_true c9
       clear c9
       have HC10:=ζa H
       clear H
       go_upto_region 7 with (fail)
       go_cut [35] (fun v35 wc => ∃ (kq:Nat) (x35_9:Bool),v35 = .bool x35_9∧Aside0 (spec_l02Of.j2 kq a0 x3_2 x4_2 x35_9=some r)∧Aside0 (kq≤k2)∧Drawn0 w wc)
       case first =>
        have H:=HC10.out
        clear HC10
        by_cases c11:0≤x4_2
        ·
         rw [if_pos c11] at H
         have c11b0:decide (0≤x4_2)=τ:=decide_eq_true c11
         clear c11
         (skip)
         by_cases c13:(bt a0 x4_2)<48
         ·
          rw [if_pos c13] at H
          have c13b0:decide ((bt a0 x4_2)<48)=τ:=decide_eq_true c13
          clear c13
          have H':=ζa H
          clear H
          have p12:0≤(x4_2:Int):=of_decide_eq_true (by (with_reducible assumption))
          have q12:x4_2<(a0.size:Int):=of_decide_eq_true (by (with_reducible assumption))
          have hx12:=bt_at a0 x4_2
          replace p12:=eq_true p12
          replace q12:=eq_true q12
          go_wp2
          go_meet
          case rel=>exact ⟨_,(τ),(by rfl),H',⟨by have:=HJ1.out;have:=HK2.out;omega⟩,by repeat (first|exact Drawn0.refl _|apply Drawn0.step)⟩
         ·
          rw [if_neg c13] at H
          have c13b0:decide ((bt a0 x4_2)<48)=φ:=decide_eq_false c13
          clear c13
          have H':=ζa H
          clear H
          have p12:0≤(x4_2:Int):=of_decide_eq_true (by (with_reducible assumption))
          have q12:x4_2<(a0.size:Int):=of_decide_eq_true (by (with_reducible assumption))
          have hx12:=bt_at a0 x4_2
          replace p12:=eq_true p12
          replace q12:=eq_true q12
          have p14:0≤(x4_2:Int):=of_decide_eq_true (by (with_reducible assumption))
          have q14:x4_2<(a0.size:Int):=of_decide_eq_true (by (with_reducible assumption))
          have hx14:=bt_at a0 x4_2
          replace p14:=eq_true p14
          replace q14:=eq_true q14
          go_wp2
          go_meet
          case rel=>exact ⟨_,(decide ((bt a0 x4_2) > 57)),(by rfl),H',⟨by have:=HJ1.out;have:=HK2.out;omega⟩,by repeat (first|exact Drawn0.refl _|apply Drawn0.step)⟩
        ·
         rw [if_neg c11] at H
         exact absurd H (by simp)
       case rest =>
        clear HC10
        try clear c1
        try clear p1
        try clear q1
        try clear hx1
        try clear p2
        try clear c4
        try clear c5
        try clear c5b0
        try clear c5b1
        try clear c6
        try clear c6b0
        try clear c6b1
        try clear c7
        try clear p7
        try clear q7
        try clear hx7
        try clear qi7
        try clear c8
        try clear c9
        try clear c9b0
        try clear c11
        try clear c11b0
        try clear p12
        try clear q12
        try clear hx12
        try clear c13
        try clear c13b0
        try clear c14
        try clear p14
        try clear q14
        try clear hx14
        try clear p12
        try clear p14
        try clear p2
        try clear p7
        try clear q12
        try clear q14
        try clear q7
        obtain ⟨kq,x35_9,rfl,HA,HJ9,⟨mc9,rfl⟩⟩:=hcut
        cases kq with
        | zero=>exact absurd HA.out (by simp [spec_l02Of.j2])
        | succ kj9 =>
         have H:=HA.out
         clear HA
         simp only [spec_l02Of.j2] at H
         by_cases c15:x35_9=τ
         ·
          subst c15
          have H1:(some (-1))=some r:=by rw [if_pos rfl] at H;exact H
          clear H
          have H:=H1
          clear H1
          obtain rfl:=Option.some.inj H
          go_wp2
          go_ret
          exact ⟨by rfl,by repeat (first|exact Drawn0.refl _|apply Drawn0.step)⟩
         ·
          replace c15:=Bool.eq_false_iff.mpr c15
          subst c15
          have H1:(if 0≤x4_2 then (if x4_2<(a0.size:Int) then (if x3_2 > ((1000000000000000000 - (((bt a0 x4_2) - 48) % 256)) / 10) then (some (-1)) else (spec_l02Of.l0 kj9 a0 (ζm ((ζm (x3_2 * 10))+(((bt a0 x4_2) - 48) % 256))) (ζm (x4_2+1)))) else (none)) else (none))=some r:=by rw [if_neg (show ¬ (φ=τ) by decide)] at H;exact H
          clear H
          have H:=H1
          clear H1
          by_cases c16:0≤x4_2
          ·
           rw [if_pos c16] at H
           have c16b0:decide (0≤x4_2)=τ:=decide_eq_true c16
           clear c16
           by_cases c17:x4_2<(a0.size:Int)
           ·
            rw [if_pos c17] at H
            have c17b0:decide (x4_2<(a0.size:Int))=τ:=decide_eq_true c17
            clear c17
            by_cases c19:x3_2 > ((1000000000000000000 - (((bt a0 x4_2) - 48) % 256)) / 10)
            ·
             rw [if_pos c19] at H
             have c19b0:decide (((1000000000000000000 - (((bt a0 x4_2) - 48) % 256)) / 10)<x3_2)=τ:=decide_eq_true c19
             clear c19
             obtain rfl:=Option.some.inj H
             have p18:0≤(x4_2:Int):=of_decide_eq_true (by (with_reducible assumption))
             have q18:x4_2<(a0.size:Int):=of_decide_eq_true (by (with_reducible assumption))
             have hx18:=bt_at a0 x4_2
             replace p18:=eq_true p18
             replace q18:=eq_true q18
             go_wp2
             go_ret
             exact ⟨by rfl,by repeat (first|exact Drawn0.refl _|apply Drawn0.step)⟩
            ·
             rw [if_neg c19] at H
             have c19b0:decide (((1000000000000000000 - (((bt a0 x4_2) - 48) % 256)) / 10)<x3_2)=φ:=decide_eq_false c19
             clear c19
             have H':=ζa H
             clear H
             have p18:0≤(x4_2:Int):=of_decide_eq_true (by (with_reducible assumption))
             have q18:x4_2<(a0.size:Int):=of_decide_eq_true (by (with_reducible assumption))
             have hx18:=bt_at a0 x4_2
             replace p18:=eq_true p18
             replace q18:=eq_true q18
             go_wp2
             go_roundg kj9
             case measure=>have:=HJ1.out;have:=HK2.out;have:=HJ9.out;omega
             case rel=>exact ⟨(ζm ((ζm (x3_2 * 10))+(((bt a0 x4_2) - 48) % 256))),(ζm (x4_2+1)),(by rfl),(by rfl),H',⟨by have:=HJ1.out;have:=HK2.out;have:=HJ9.out;omega⟩,by repeat (first|exact Drawn0.refl _|apply Drawn0.step)⟩
           ·
            rw [if_neg c17] at H
            exact absurd H (by simp)
          ·
           rw [if_neg c16] at H
           exact absurd H (by simp)
      ·
       rw [if_neg c9] at H
       have c9b0:decide (x4_2<(a0.size:Int))=φ:=decide_eq_false c9
       clear c9
       obtain rfl:=Option.some.inj H
       go_wp2
       go_ret
       exact ⟨by rfl,by repeat (first|exact Drawn0.refl _|apply Drawn0.step)⟩

end Go.Proofs.YtabmfhnhmoiljaaGreatDoor.Q
