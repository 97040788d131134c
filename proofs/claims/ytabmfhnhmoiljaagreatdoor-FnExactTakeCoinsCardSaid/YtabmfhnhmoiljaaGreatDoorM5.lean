/- Parts of the proof: what single Go functions compute, each with its walk, and plain laws over these. -/
import Derived.Test.YtabmfhnhmoiljaaGreatDoorM0
import Derived.Test.YtabmfhnhmoiljaaGreatDoorM2
import Derived.Test.YtabmfhnhmoiljaaGreatDoorM4
import Derived.Test.YtabmfhnhmoiljaaGreatDoorM3
import Derived.Test.YtabmfhnhmoiljaaGreatDoorM1
import Derived.WalkKit
import Derived.ProofKit
import Derived.OpenShut
import Derived.ShutString
import Derived.ChangeOld
import Derived.Below
import Derived.ChangeArms
import Derived.DataReads
import Derived.Test.YtabmfhnhmoiljaaGreatDoorVWords
/- Rows of pairs that are marked and read again; what a name's code is. -/
namespace Go.Proofs.YtabmfhnhmoiljaaGreatDoor.U
open Go Go.RowKit Go.Proofs.YtabmfhnhmoiljaaGreatDoor.Q Go.Proofs.YtabmfhnhmoiljaaGreatDoorW.PrintWords Go.Proofs.YtabmfhnhmoiljaaGreatDoorW.PrintLast Go.Proofs.YtabmfhnhmoiljaaGreatDoorW.PrintMore
set_option linter.unusedVariables false
set_option linter.unusedSimpArgs false

theorem wsP (m m' : Nat) (h : m ≤ 9000000000000000000) (e : m' = m + 1) : wrap64 ((m : Int) + 1) = (m' : Int) := by subst e; rw [wid (by omega) (by omega)]; omega
theorem heldPairS_go (l : List IP) (n : Nat) (hN : l.length ≤ 1048576) (hn : n ≤ 1000000) : ∀ (d i : Nat), i + d = l.length →
    Ev (fun k => laws_heldPairS.l0 k (markPs n l) ((n + 2 * i : Nat) : Int) (i : Int)) ((n + 2 * l.length : Nat) : Int) := by
  intro d
  have hlen : (markPs n l).length = l.length := by unfold markPs; simp
  induction d with
  | zero =>
    intro i hi
    refine Ev.step (fun k => ?_) (Ev.now _)
    rw [laws_heldPairS.l0, if_neg (by omega), show i = l.length by omega]
  | succ d ih =>
    intro i hi
    have hlt : i < (markPs n l).length := by omega
    have er : rd_T51 (markPs n l) (i : Int) = markP n i := by
      rw [rdI' _ i hlt]
      simp [markPs]
    refine Ev.step (fun k => by rw [laws_heldPairS.l0, if_pos (by omega), if_pos (by omega), er, wsP (n + 2 * i) (n + 2 * i + 1) (by omega) rfl, wsP (n + 2 * i + 1) (n + 2 * (i + 1)) (by omega) (by omega), wsP i (i + 1) (by omega) rfl]) (Ev.bind (markText_ev _ (by omega)) ?_)
    simp only [markP, if_true]
    refine Ev.bind (markText_ev _ (by omega)) ?_
    simp only [if_true]
    exact ih (i + 1) (by omega)
theorem heldPairS_ev (l : List IP) (n : Nat) (hN : l.length ≤ 1048576) (hn : n ≤ 1000000) : Ev (fun k => laws_heldPairS.f k (markPs n l) (n : Int)) ((n + 2 * l.length : Nat) : Int) := by
  unfold laws_heldPairS.f
  have := heldPairS_go l n hN hn l.length 0 (by omega)
  simpa using this
def chainB (a : ByteArray) : Bool := a.toList == ([120] : List UInt8) || a.toList == ([121] : List UInt8)
theorem chain_size {a : ByteArray} (h : chainB a = true) : a.size = 1 := by
  unfold chainB at h
  rw [Bool.or_eq_true, beq_iff_eq, beq_iff_eq] at h
  have e : a.toList.length = a.size := by rw [Lib.toList_data]; exact size_data a
  rcases h with h | h <;> (rw [h] at e; exact e.symm)
theorem isChain_eq (a : ByteArray) : impl_isChain.f a = some (chainB a) := by
  unfold impl_isChain.f chainB
  by_cases h1 : a.toList = ([120] : List UInt8)
  · rw [if_pos h1]; simp [h1]
  · rw [if_neg h1, beq_eq_false_iff_ne.2 h1, Bool.false_or]
/-- The code of a chain's name, of its store and of texts. -/
def nameC (a : ByteArray) (l : List IP) (ts : List ByteArray) : Int := if a.size ≤ 65536 ∧ l.length ≤ 4096 ∧ (∀ t ∈ ts, t.size ≤ 65536) then (if (chainB a && storeB l) = true then 0 else 1) else 2
theorem isText_eq (l : List ByteArray) : impl_isText.f l = some (decide (∀ t ∈ l, t.size ≤ 65536)) := by
  unfold impl_isText.f
  simp only [Option.bind_some, Option.some.injEq]
  rw [Bool.eq_iff_iff]
  simp only [Bool.not_eq_true', List.any_eq_false, decide_eq_true_eq]
  constructor
  · intro h t ht; have := h t ht; omega
  · intro h t ht; have := h t ht; omega
theorem nameCode_ev (a : ByteArray) (l : List IP) (ts : List ByteArray) (hl : l.length ≤ 1048576) : Ev (fun k => impl_nameCode.f k a l ts) (nameC a l ts) := by
  unfold impl_nameCode.f nameC
  have e : (∀ t ∈ [a], t.size ≤ 65536) ↔ a.size ≤ 65536 := by simp
  simp only [isText_eq, e, Option.bind_some]
  have bad : Ev (fun k => impl_nameCode.j0 k a l true) 2 := Ev.step (f := fun _ => some 2) (fun k => by rw [impl_nameCode.j0, if_pos rfl]) (Ev.now _)
  by_cases h1 : a.size ≤ 65536
  · rw [decide_eq_true h1]
    simp only [if_true, impl_isList_impl_Pair.f, Option.bind_some]
    by_cases h2 : l.length ≤ 4096
    · have e2 : (decide ((l.length : Int) ≤ 4096)) = true := decide_eq_true (by omega)
      simp only [e2, if_true]
      by_cases h3 : ∀ t ∈ ts, t.size ≤ 65536
      · rw [decide_eq_true h3]
        rw [if_pos ⟨h1, h2, h3⟩]
        refine Ev.step (fun k => by rw [impl_nameCode.j0, if_neg (by decide), isChain_eq]) ?_
        simp only [Option.bind_some]
        cases chainB a with
        | false => exact Ev.now _
        | true =>
          simp only [if_true, Bool.true_and]
          refine Ev.bind (implStoreOK_ev l hl) ?_
          cases storeB l with
          | true => exact Ev.now _
          | false => exact Ev.now _
      · rw [decide_eq_false h3, if_neg (fun e => h3 e.2.2)]; exact bad
    · have e2 : (decide ((l.length : Int) ≤ 4096)) = false := decide_eq_false (by omega)
      simp only [e2, Bool.false_eq_true, if_false]
      rw [if_neg (fun e => h2 e.2.1)]; exact bad
  · rw [decide_eq_false h1, if_neg (fun e => h1 e.1)]
    simp only [Bool.false_eq_true, if_false]; exact bad
theorem l08Code_ev (a : ByteArray) (l : List IP) (hl : l.length ≤ 1048576) (h4 : l.length ≤ 4096) : Ev (fun k => spec_l08Code.f k a l) (if (chainB a && storeB l) = true then 0 else 1) := by
  unfold spec_l08Code.f chainB
  simp only [if_neg (show ¬ (l.length : Int) > 4096 by omega)]
  have hs : Ev (fun k => (spec_StoreOK.f k l).bind fun t => if t = true then some 0 else some 1) (if storeB l = true then (0 : Int) else 1) := by
    refine Ev.bind (specStoreOK_ev l hl) ?_
    cases storeB l with
    | true => exact Ev.now _
    | false => exact Ev.now _
  by_cases h1 : a.toList = ([120] : List UInt8)
  · simp only [if_pos h1, h1, beq_self_eq_true, Bool.true_or, Bool.true_and]; exact hs
  · simp only [if_neg h1, beq_eq_false_iff_ne.2 h1, Bool.false_or]
    by_cases h2 : a.toList = ([121] : List UInt8)
    · simp only [if_pos h2, h2, beq_self_eq_true, Bool.true_and]; exact hs
    · simp only [if_neg h2, beq_eq_false_iff_ne.2 h2, Bool.false_and, Bool.false_eq_true, if_false]; exact Ev.now _
theorem rt_of {l : List IP} (h : storeB l = true) : Rt l := rt_store h (fun x hx => ⟨(storeB_key h x hx).1, (storeB_key h x hx).2⟩)
theorem name_small {a : ByteArray} (h : nameB a = true) : a.size ≤ 12 := by unfold nameB at h; rw [decide_eq_true_iff] at h; exact h.2
theorem people_small {a : ByteArray} (h : peopleB a = true) : a.size ≤ 12 := by unfold peopleB at h; rw [Bool.and_eq_true] at h; exact name_small h.1
/-- The exported functions' own tests. -/
theorem nameC_cases (a : ByteArray) (l : List IP) (ts : List ByteArray) : nameC a l ts = 0 → chainB a = true ∧ storeB l = true ∧ (∀ t ∈ ts, t.size ≤ 65536) := by
  unfold nameC
  intro h
  split at h
  · rename_i h1
    split at h
    · rename_i h2
      rw [Bool.and_eq_true] at h2
      exact ⟨h2.1, h2.2, h1.2.2⟩
    · cases h
  · cases h
end Go.Proofs.YtabmfhnhmoiljaaGreatDoor.U

namespace Go.Proofs.YtabmfhnhmoiljaaGreatDoor.Q
open Go.RowKit Go.Proofs.YtabmfhnhmoiljaaGreatDoorW.PrintWords Go.Proofs.YtabmfhnhmoiljaaGreatDoorW.PrintLast Go.Proofs.YtabmfhnhmoiljaaGreatDoorW.PrintMore
open Go.RowKit renaming wrap64 → ζm
open List renaming map_toArray → δd, map_cons → δe, map_nil → δf, setIfInBounds_toArray → δa, set_cons_zero → δb, set_cons_succ → δc
open Go.Proofs.YtabmfhnhmoiljaaGreatDoorW.PrintWords.Aside0 renaming mk → ζa
open Go.Proofs.YtabmfhnhmoiljaaGreatDoorW.PrintWords renaming gate_dst → δx, below_step → δr, below_drew1 → δj
open Go.Proofs.YtabmfhnhmoiljaaGreatDoorW.PrintWords.Kd renaming R_drew → ζe, R_below → ζh
open Go.Proofs.YtabmfhnhmoiljaaGreatDoorW.PrintLast renaming pure_ → ζk
open Go.Act renaming put → ζl
open Bool renaming true → τ, false → φ
attribute [local go_sem] max2_int min2_int max_two min_two max_three min_three max_four min_four   -- for this text's walks alone
set_option linter.unusedVariables false
set_option linter.unusedSimpArgs false

/-! ### spec_l02Fields: function 136 -/
def spec_l02Fields.l0:Nat→List ByteArray→List Int→Int→Option (List Int)
 | 0,_,_,_=>none
 | k+1,l,out,i=>if i<(l.length:Int) then (if 0≤i then (if out.length+2+(rdOf ByteArray.empty l i).size≤140737488355328 then spec_l02Fields.l0 k l (out ++ [((rdOf ByteArray.empty l i).size:Int) / 256 % 256,((rdOf ByteArray.empty l i).size:Int) % 256] ++ bytesOf (rdOf ByteArray.empty l i)) (ζm (i+1)) else none) else none) else some out
def spec_l02Fields.f (k:Nat) (l0:List ByteArray):Option (List Int):=spec_l02Fields.l0 k l0 [(l0.length:Int) % 256] 0
theorem spec_l02Fields.str_step {P:Program} {ops:Array Oper} {o:Oper} {a:Act} {Q:Exit→Act→World→Prop} {Kc:Act→World→Prop} {w0 W:World} (base:Nat)
  (hw:Region.wanted o (yielded ops a.tmps)=τ) (s x:Operand) (t u e:TypeId)
  (ho:o.op = .call { callee:=.builtin .append,args:=#[s,x],argTypes:=#[t,u] })
  (ht:P.underlying t=some (.slice e)) (hu:P.underlying u=some .string) (hinfo:(P.info? e).map (fun i=>(i.zero,i.size,i.bytes))=some (some (.int .u8 0),1,1))
  (v:Value) (xs:List Int) (y:ByteArray) (hs:a.eval s=v) (hx:a.eval x = .string y)
  (HO:W.ownsRow base e 1 v xs.length (nums .u8 xs)) (HB:Below base w0 W) (hbase:base≤W.heap.size) (hl:xs.length+y.size≤140737488355328)
  (h : ∀ v1 w1,w1.ownsRow base e 1 v1 (xs ++ bytesOf y).length (nums .u8 (xs ++ bytesOf y))→Below base w0 w1→W.grownBy w1 v.ownBlock→Kc (a.put o.dst v1) w1) :
  if Region.wanted o (yielded ops a.tmps)=τ then Oper.wp P o a W Kc Q else Kc (a.put o.dst undef) W:=by
 rw [if_pos hw]
 obtain ⟨i0,hi,hzz⟩:=Option.map_eq_some_iff.1 hinfo
 simp only [Prod.mk.injEq] at hzz
 obtain ⟨hz0,hz1,hz2⟩:=hzz
 obtain ⟨v1,w1,hr,h2,h3,h4⟩:=Lib.run_append_own_string (P:=P) (w:=W) base t u o.type e i0 ht hu hi hz0 hz1 hz2 v xs.length (nums .u8 xs) HO y (by simp only [maxLen];omega) hl hbase
 have hl2:(xs ++ bytesOf y).length=xs.length+y.size:=by rw [List.length_append,bytesOf_length]
 have hc:nums .u8 (xs ++ bytesOf y)=nums .u8 xs ++ Lib.strCells y:=by
  rw [nums_append]
  congr 1
  simp [nums,bytesOf,Lib.strCells]
 unfold Oper.wp execOp
 simp only [ho,resolve,invoke,builtin,Sem.run_bind,Sem.run_pure,Result.andThen_ok,δd,δe,δf,hs,hx,hr]
 exact h v1 w1 (by rw [hl2,hc];exact h2) (HB.grown h3 hbase (own_base HO)) h3
set_option maxHeartbeats 8000000 in
set_option maxRecDepth 100000 in
theorem spec_l02Fields.calls (k:Nat) (A0:Option Addr) (c0:Nat) (l0:List ByteArray) (r:List Int) (w:World) (hr0:Kd.C Kd.string w A0 l0.length l0) (hc0:l0.length≤c0) (h:spec_l02Fields.f k l0=some r) :
  Calls Tryz.prog 136 #[.slice A0 l0.length c0] w fun e w' => ∃ v0_:Value,e = .returned (v0_)∧Kd.R (Kd.int .u8) 5 w' w.heap.size (fun _=>True) v0_ r∧Below w.heap.size w w':=by
 have HR0:=ζa hr0
 clear hr0 hc0
 have HB:=ζa (Below.refl w.heap.size w)
 have H':=ζa (show spec_l02Fields.l0 k l0 [(l0.length:Int) % 256] 0=some r from h)
 clear h
 go_enter Tryz.func136,Tryz.ntmps136
 go_wp2_with (first|((with_reducible refine δx (N:=8) rfl ?_);refine Kd.R_lit (Kd.int .u8) _ 5 ?hg (N:=8) ?hd (xs:=([(l0.length:Int) % 256]:List Int)) (inner:=[.int .u8 ((l0.length:Int) % 256)]) (ok:=fun _=>True) (okp:=fun _=>True) ?hr ?hp (fun _ hk=>hk) trivial (Below.refl _ _) (Nat.le_refl _) (by simp) ?_;(case hd=>rfl);(case hg=>rfl);(case hr=>first|(go_simp;done)|(go_simp;rfl));(case hp=>exact (Reps.one (show Kd.M (Kd.int .u8) _ _ _ ((l0.length:Int) % 256) [.int .u8 ((l0.length:Int) % 256)] from rfl) (Reps.none _ _)));intro v8 w8 ho8 hb8 hg_ hnew_;clear hg_ hnew_;have HO:=ζa ho8;have n1_:=ζa (δr HB.out hb8);clear HB;have HB:=n1_;clear n1_ hb8 ho8))
 go_loopg [3,4] k (fun kq v3 v4 w' => ∃ (out:List Int) (i:Int),v4 = .int .i64 i∧Aside0 (spec_l02Fields.l0 kq l0 out i=some r)∧Aside0 (kq≤k)∧Aside0 (Kd.R (Kd.int .u8) 5 w' w.heap.size (fun _=>True) v3 out)∧Aside0 (Below w.heap.size w w'))
 case atStart=>exact ⟨_,0,rfl,H',⟨Nat.le_refl _⟩,HO,HB⟩
 case round =>
  clear H' HO HB
  obtain ⟨out,i,rfl,HA,HK1,HO,HB⟩:=hrel
  cases gk with
  | zero=>exact absurd HA.out (by simp [spec_l02Fields.l0])
  | succ k1 =>
   have H:=HA.out
   clear HA
   simp only [spec_l02Fields.l0] at H
   by_cases c2:i<(l0.length:Int)
   ·
    rw [if_pos c2] at H
    by_cases c3:0≤i
    ·
     rw [if_pos c3] at H
     by_cases c4:out.length+2+(rdOf ByteArray.empty l0 i).size≤140737488355328
     ·
      rw [if_pos c4] at H
      have HN:=ζa H
      clear H
      obtain ⟨ad,e1,hx0⟩:=Kd.at_string HR0.out i c3 c2
      cases e1
      have hxw:=hx0
      replace hx0:=(HB.out.cell (World.block_lt_of_cell? w _ hx0)).trans hx0
      have c2b0:decide (i<(l0.length:Int))=τ:=decide_eq_true c2
      generalize ht:rdOf ByteArray.empty l0 i=t at *
      go_wp2
      have c3b:decide (0≤i)=τ:=decide_eq_true c3
      have HB1:=ζa (δj HB.out)
      have HO1:=ζa (ζe HO.out)
      clear HB HO
      refine start_ (n:=22) (S:=fun w'=>w'.cell? (ad.add i.toNat)=some (.string t)) (ds:=[]) #[φ,φ,φ,φ,φ,φ,φ,φ,φ,φ,φ,φ,φ,φ,φ,φ,φ,φ,φ,φ,φ,φ] (by kernel_rfl) rfl rfl (show wr.drew.cell? (ad.add i.toNat)=some (.string t) from hx0) (fun hHeld => ?_)
      generalize wr.drew=w13 at HB1 HO1 hHeld ⊢
      refine ζk (i:=0) (N:=some 15) (v:=?_) (a':=?_) #[τ,φ,φ,φ,φ,φ,φ,φ,φ,φ,φ,φ,φ,φ,φ,φ,φ,φ,φ,φ,φ,φ] rfl rfl (by kernel_rfl) (fun _ _ _ h=>h) (Or.inl ⟨by rfl,?_⟩) ?_ ?_
      rotate_left
      · intro w';go_simp;with_reducible rfl
      rotate_left
      · simp only [ζl,δa,δb,δc,i64_w,i32_w];rfl
      refine ζk (i:=1) (N:=some 16) (v:=?_) (a':=?_) #[τ,τ,φ,φ,φ,φ,φ,φ,φ,φ,φ,φ,φ,φ,φ,φ,φ,φ,φ,φ,φ,φ] rfl rfl (by kernel_rfl) (fun _ _ _ h=>h) (Or.inl ⟨by rfl,?_⟩) ?_ ?_
      rotate_left
      · intro w';go_simp;with_reducible rfl
      rotate_left
      · simp only [ζl,δa,δb,δc,i64_w,i32_w];rfl
      refine ζk (i:=2) (N:=some 17) (v:=?_) (a':=?_) #[τ,τ,τ,φ,φ,φ,φ,φ,φ,φ,φ,φ,φ,φ,φ,φ,φ,φ,φ,φ,φ,φ] rfl rfl (by kernel_rfl) (fun _ _ _ h=>h) (Or.inl ⟨by rfl,?_⟩) ?_ ?_
      rotate_left
      · intro w';go_simp;with_reducible rfl
      rotate_left
      · simp only [ζl,δa,δb,δc,i64_w,i32_w];rfl
      refine ζk (i:=3) (N:=some 18) (v:=?_) (a':=?_) #[τ,τ,τ,τ,φ,φ,φ,φ,φ,φ,φ,φ,φ,φ,φ,φ,φ,φ,φ,φ,φ,φ] rfl rfl (by kernel_rfl) (fun _ _ _ h=>h) (Or.inl ⟨by rfl,?_⟩) ?_ ?_
      rotate_left
      · intro w';go_simp;with_reducible rfl
      rotate_left
      · simp only [ζl,δa,δb,δc,i64_w,i32_w];rfl
      refine take_ (i:=4) (N:=some 19) (v:=?_) (a':=?_) #[τ,τ,τ,τ,τ,φ,φ,φ,φ,φ,φ,φ,φ,φ,φ,φ,φ,φ,φ,φ,φ,φ] rfl rfl (by kernel_rfl) (fun _ _ _ h=>h) (Or.inl ⟨by rfl,?_⟩) hHeld ?_ ?_
      rotate_left
      ·
       intro w' s0
       go_simp
       with_reducible rfl
      rotate_left
      · simp only [ζl,δa,δb,δc,i64_w,i32_w];rfl
      refine ζk (i:=5) (N:=some 20) (v:=?_) (a':=?_) #[τ,τ,τ,τ,τ,τ,φ,φ,φ,φ,φ,φ,φ,φ,φ,φ,φ,φ,φ,φ,φ,φ] rfl rfl (by kernel_rfl) (fun _ _ _ h=>h) (Or.inl ⟨by rfl,?_⟩) ?_ ?_
      rotate_left
      · intro w';go_simp;with_reducible rfl
      rotate_left
      · simp only [ζl,δa,δb,δc,i64_w,i32_w];rfl
      refine ζk (i:=6) (N:=some 21) (v:=?_) (a':=?_) #[τ,τ,τ,τ,τ,τ,τ,φ,φ,φ,φ,φ,φ,φ,φ,φ,φ,φ,φ,φ,φ,φ] rfl rfl (by kernel_rfl) (fun _ _ _ h=>h) (Or.inl ⟨by rfl,?_⟩) ?_ ?_
      rotate_left
      · intro w';go_simp;with_reducible rfl
      rotate_left
      · simp only [ζl,δa,δb,δc,i64_w,i32_w];rfl
      refine ζk (i:=7) (N:=some 22) (v:=?_) (a':=?_) #[τ,τ,τ,τ,τ,τ,τ,τ,φ,φ,φ,φ,φ,φ,φ,φ,φ,φ,φ,φ,φ,φ] rfl rfl (by kernel_rfl) (fun _ _ _ h=>h) (Or.inl ⟨by rfl,?_⟩) ?_ ?_
      rotate_left
      · intro w';go_simp;with_reducible rfl
      rotate_left
      · simp only [ζl,δa,δb,δc,i64_w,i32_w];rfl
      refine ζk (i:=8) (N:=some 23) (v:=?_) (a':=?_) #[τ,τ,τ,τ,τ,τ,τ,τ,τ,φ,φ,φ,φ,φ,φ,φ,φ,φ,φ,φ,φ,φ] rfl rfl (by kernel_rfl) (fun _ _ _ h=>h) (Or.inl ⟨by rfl,?_⟩) ?_ ?_
      rotate_left
      · intro w';go_simp;with_reducible rfl
      rotate_left
      · simp only [ζl,δa,δb,δc,i64_w,i32_w];rfl
      refine ζk (i:=9) (N:=some 24) (v:=?_) (a':=?_) #[τ,τ,τ,τ,τ,τ,τ,τ,τ,τ,φ,φ,φ,φ,φ,φ,φ,φ,φ,φ,φ,φ] rfl rfl (by kernel_rfl) (fun _ _ _ h=>h) (Or.inl ⟨by rfl,?_⟩) ?_ ?_
      rotate_left
      · intro w';go_simp;with_reducible rfl
      rotate_left
      · simp only [ζl,δa,δb,δc,i64_w,i32_w];rfl
      refine ζk (i:=10) (N:=some 25) (v:=?_) (a':=?_) #[τ,τ,τ,τ,τ,τ,τ,τ,τ,τ,τ,φ,φ,φ,φ,φ,φ,φ,φ,φ,φ,φ] rfl rfl (by kernel_rfl) (fun _ _ _ h=>h) (Or.inl ⟨by rfl,?_⟩) ?_ ?_
      rotate_left
      · intro w';go_simp;with_reducible rfl
      rotate_left
      · simp only [ζl,δa,δb,δc,i64_w,i32_w];rfl
      refine take_ (i:=11) (N:=some 26) (v:=?_) (a':=?_) #[τ,τ,τ,τ,τ,τ,τ,τ,τ,τ,τ,τ,φ,φ,φ,φ,φ,φ,φ,φ,φ,φ] rfl rfl (by kernel_rfl) (fun _ _ _ h=>h) (Or.inl ⟨by rfl,?_⟩) hHeld ?_ ?_
      rotate_left
      ·
       intro w' s0
       go_simp
       with_reducible rfl
      rotate_left
      · simp only [ζl,δa,δb,δc,i64_w,i32_w];rfl
      refine ζk (i:=12) (N:=some 27) (v:=?_) (a':=?_) #[τ,τ,τ,τ,τ,τ,τ,τ,τ,τ,τ,τ,τ,φ,φ,φ,φ,φ,φ,φ,φ,φ] rfl rfl (by kernel_rfl) (fun _ _ _ h=>h) (Or.inl ⟨by rfl,?_⟩) ?_ ?_
      rotate_left
      · intro w';go_simp;with_reducible rfl
      rotate_left
      · simp only [ζl,δa,δb,δc,i64_w,i32_w];rfl
      refine ζk (i:=13) (N:=some 28) (v:=?_) (a':=?_) #[τ,τ,τ,τ,τ,τ,τ,τ,τ,τ,τ,τ,τ,τ,φ,φ,φ,φ,φ,φ,φ,φ] rfl rfl (by kernel_rfl) (fun _ _ _ h=>h) (Or.inl ⟨by rfl,?_⟩) ?_ ?_
      rotate_left
      · intro w';go_simp;with_reducible rfl
      rotate_left
      · simp only [ζl,δa,δb,δc,i64_w,i32_w];rfl
      refine ζk (i:=16) (N:=some 31) (v:=?_) (a':=?_) #[τ,τ,τ,τ,τ,τ,τ,τ,τ,τ,τ,τ,τ,τ,φ,φ,τ,φ,φ,φ,φ,φ] rfl rfl (by kernel_rfl) (fun _ _ _ h=>h) (Or.inl ⟨by rfl,?_⟩) ?_ ?_
      rotate_left
      · intro w';go_simp;with_reducible rfl
      rotate_left
      · simp only [ζl,δa,δb,δc,i64_w,i32_w];rfl
      refine ζk (i:=17) (N:=some 32) (v:=?_) (a':=?_) #[τ,τ,τ,τ,τ,τ,τ,τ,τ,τ,τ,τ,τ,τ,φ,φ,τ,τ,φ,φ,φ,φ] rfl rfl (by kernel_rfl) (fun _ _ _ h=>h) (Or.inl ⟨by rfl,?_⟩) ?_ ?_
      rotate_left
      · intro w';go_simp;with_reducible rfl
      rotate_left
      · simp only [ζl,δa,δb,δc,i64_w,i32_w];rfl
      refine ζk (i:=18) (N:=some 33) (v:=?_) (a':=?_) #[τ,τ,τ,τ,τ,τ,τ,τ,τ,τ,τ,τ,τ,τ,φ,φ,τ,τ,τ,φ,φ,φ] rfl rfl (by kernel_rfl) (fun _ _ _ h=>h) (Or.inl ⟨by rfl,?_⟩) ?_ ?_
      rotate_left
      · intro w';go_simp;with_reducible rfl
      rotate_left
      · simp only [ζl,δa,δb,δc,i64_w,i32_w];rfl
      refine take_ (i:=19) (N:=some 34) (v:=?_) (a':=?_) #[τ,τ,τ,τ,τ,τ,τ,τ,τ,τ,τ,τ,τ,τ,φ,φ,τ,τ,τ,τ,φ,φ] rfl rfl (by kernel_rfl) (fun _ _ _ h=>h) (Or.inl ⟨by rfl,?_⟩) hHeld ?_ ?_
      rotate_left
      ·
       intro w' s0
       go_simp
       with_reducible rfl
      rotate_left
      · simp only [ζl,δa,δb,δc,i64_w,i32_w];rfl
      have e1:IntKind.u8.wrap (ζm ((t.size:Int) / 256))=(t.size:Int) / 256 % 256:=by rw [IntWalk.wrap64_in _ (by omega)];simp [IntKind.wrap,IntKind.bits,IntKind.signed]
      have e2:IntKind.u8.wrap (t.size:Int)=(t.size:Int) % 256:=by simp [IntKind.wrap,IntKind.bits,IntKind.signed]
      rw [e1,e2]
      generalize (t.size:Int) / 256 % 256=pa at *
      generalize (t.size:Int) % 256=pb at *
      refine one_ (i:=14) (N:=some 29) #[τ,τ,τ,τ,τ,τ,τ,τ,τ,τ,τ,τ,τ,τ,τ,φ,τ,τ,τ,τ,φ,φ] rfl rfl (by kernel_rfl) (by decide) (fun K hK => ?_)
      refine Kd.R_lit_step (Kd.int .u8) _ 5 ?hg (N:=29) ?hd (xs:=([pa,pb]:List Int)) (inner:=[.int .u8 pa,.int .u8 pb]) (ok:=fun _=>True) (okp:=fun _=>False) ?hr ?hp (fun _ hk=>trivial) trivial (Below.refl _ _) (Nat.le_refl _) (by simp) ?_
      case hd=>rfl
      case hg=>rfl
      case hr=>first|(go_simp;done)|(go_simp;rfl)
      case hp=>exact Reps.one (show Kd.M (Kd.int .u8) _ _ _ pa [.int .u8 pa] from rfl) (Reps.one (show Kd.M (Kd.int .u8) _ _ _ pb [.int .u8 pb] from rfl) (Reps.none _ _))
      intro v29 w29 ho29 hb29 hg29 _
      obtain ⟨A2,c29,rfl,_,HR2⟩:=Kd.R_reads ho29
      have HO2:=ζa (ζh HO1.out hb29)
      have HB2:=ζa (δr HB1.out hb29)
      have hs2:w29.cell? (ad.add i.toNat)=some (.string t):=(hb29.cell (World.block_lt_of_cell? w13 _ hHeld)).trans hHeld
      clear HO1 HB1 hHeld hg29
      refine hK.out _ _ hs2 (fun hHeld => ?_)
      clear hK K hs2
      refine norm_ (a':=?_) ?_ ?_
      rotate_left
      ·
       show ζl _ (some 29) _=_
       simp only [ζl,δa,δb,δc,i64_w,i32_w];rfl
      refine one_ (i:=15) (N:=some 30) #[τ,τ,τ,τ,τ,τ,τ,τ,τ,τ,τ,τ,τ,τ,τ,τ,τ,τ,τ,τ,φ,φ] rfl rfl (by kernel_rfl) (by decide) (fun K hK => ?_)
      refine Kd.R_append_rows_step (Kd.int .u8) (w0:=w) w.heap.size (by rfl) (.tmp 15) (.tmp 29) 82 5 (.int .u8 0) 1 rfl Tryz.underlying82 (by kernel_rfl) rfl (by decide) (by decide) u3 out [pa,pb] A2 2 c29 (fun _=>True) (fun _=>False) rfl rfl HO2.out HR2 (fun _ _ h=>h) (fun _ h=>h.elim) (fun _ _=>trivial) HB2.out HB2.out.size (by omega) ?_
      intro v30 w30 ho30 hb30 hg30 _
      have hs3:w30.cell? (ad.add i.toNat)=some (.string t):=(hb30.cell (World.block_lt_of_cell? w _ hxw)).trans hxw
      clear HO2 HB2 hHeld HR2
      refine hK.out _ _ hs3 (fun hHeld => ?_)
      clear hK K hs3
      refine norm_ (a':=?_) ?_ ?_
      rotate_left
      ·
       show ζl _ (some 30) _=_
       simp only [ζl,δa,δb,δc,i64_w,i32_w];rfl
      refine one_ (i:=20) (N:=some 35) #[τ,τ,τ,τ,τ,τ,τ,τ,τ,τ,τ,τ,τ,τ,τ,τ,τ,τ,τ,τ,τ,φ] rfl rfl (by kernel_rfl) (by decide) (fun K hK => ?_)
      have hl3:(out ++ [pa,pb]).length+t.size≤140737488355328:=by rw [List.length_append];exact c4
      refine spec_l02Fields.str_step (w0:=w) w.heap.size (by rfl) (.tmp 30) (.tmp 34) 82 9 5 rfl Tryz.underlying82 Tryz.underlying9 (by kernel_rfl) v30 (out ++ [pa,pb]) t rfl rfl (Kd.own_of_R ho30) hb30 hb30.size hl3 ?_
      intro v35 w35 ho35 hb35 hg35
      have hs4:w35.cell? (ad.add i.toNat)=some (.string t):=(hb35.cell (World.block_lt_of_cell? w _ hxw)).trans hxw
      clear ho30 hb30 hHeld hg35
      refine hK.out _ _ hs4 (fun hHeld => ?_)
      clear hK K hs4
      refine norm_ (a':=?_) ?_ ?_
      rotate_left
      ·
       show ζl _ (some 35) _=_
       simp only [ζl,δa,δb,δc,i64_w,i32_w];rfl
      refine ζk (i:=21) (N:=some 3) (v:=?_) (a':=?_) #[τ,τ,τ,τ,τ,τ,τ,τ,τ,τ,τ,τ,τ,τ,τ,τ,τ,τ,τ,τ,τ,τ] rfl rfl (by kernel_rfl) (fun _ _ _ h=>h) (Or.inl ⟨by rfl,?_⟩) ?_ ?_
      rotate_left
      · intro w';go_simp;with_reducible rfl
      rotate_left
      · simp only [ζl,δa,δb,δc,i64_w,i32_w];rfl
      refine done_ (by kernel_rfl) ?_
      try go_wp2
      go_roundg k1
      case measure=>omega
      case rel=>exact ⟨_,_,rfl,HN,⟨by have:=HK1.out;omega⟩,⟨Kd.R_of_own ho35 (fun _ _=>trivial)⟩,⟨hb35⟩⟩
     · rw [if_neg c4] at H;cases H
    ·
     rw [if_neg c3] at H;cases H
   ·
    rw [if_neg c2] at H
    have c2b0:decide (i<(l0.length:Int))=φ:=decide_eq_false c2
    clear c2
    obtain rfl:=Option.some.inj H
    go_wp2
    go_ret
    exact ⟨_,rfl,HO.out,HB.out⟩

end Go.Proofs.YtabmfhnhmoiljaaGreatDoor.Q

/- Fields: the reference's bytes are the program's text. -/
namespace Go.Proofs.YtabmfhnhmoiljaaGreatDoor.U
open Go Go.RowKit Go.Proofs.YtabmfhnhmoiljaaGreatDoor.Q Go.Proofs.YtabmfhnhmoiljaaGreatDoorW.PrintWords Go.Proofs.YtabmfhnhmoiljaaGreatDoorW.PrintLast Go.Proofs.YtabmfhnhmoiljaaGreatDoorW.PrintMore
set_option linter.unusedVariables false
set_option linter.unusedSimpArgs false

theorem nums_append_str (a b : List Int) : strOfNums (a ++ b) = strOfNums a ++ strOfNums b := by
  apply ByteArray.ext
  simp [strOfNums]
theorem nums_bytesOf (s : ByteArray) : strOfNums (bytesOf s) = s := by
  apply ByteArray.ext
  apply Array.toList_inj.mp
  simp only [strOfNums, bytesOf, List.map_map]
  have : (fun x : UInt8 => (UInt8.ofNat ((x.toNat : Int)).toNat)) = id := by funext x; simp
  first
  | (simp [Function.comp_def, this]; done)
  | (conv => rhs; rw [← List.map_id s.data.toList]
     apply List.map_congr_left
     intro x _
     simp)
/-- One text behind its length, and all of them, as numbers. -/
def fieldN (t : ByteArray) : List Int := [(t.size : Int) / 256 % 256, (t.size : Int) % 256] ++ bytesOf t
def restN : List ByteArray → List Int
  | [] => []
  | t :: ts => fieldN t ++ restN ts
def fieldsN (l : List ByteArray) : List Int := [(l.length : Int) % 256] ++ restN l
theorem fieldN_str (t : ByteArray) : strOfNums (fieldN t) = fieldV t := by unfold fieldN fieldV; rw [nums_append_str, nums_bytesOf]
theorem restN_str : ∀ l : List ByteArray, strOfNums (restN l) = restV l
  | [] => rfl
  | t :: ts => by rw [restN, restV, nums_append_str, fieldN_str, restN_str ts]
theorem fieldsN_str (l : List ByteArray) : strOfNums (fieldsN l) = fieldsV l := by unfold fieldsN fieldsV; rw [nums_append_str, restN_str]
theorem l02Fields_go (l : List ByteArray) (hl : l.length ≤ 1000) (hx : ∀ x ∈ l, x.size ≤ 1048576) : ∀ (d i : Nat) (o : List Int), i + d = l.length → o.length ≤ i * 1048580 + 1048580 →
    Ev (fun k => spec_l02Fields.l0 k l o (i : Int)) (o ++ restN (l.drop i)) := by
  intro d
  induction d with
  | zero =>
    intro i o hi ho
    refine Ev.step (fun k => ?_) (Ev.now _)
    rw [spec_l02Fields.l0, if_neg (by omega), List.drop_of_length_le (by omega), restN, List.append_nil]
  | succ d ih =>
    intro i o hi ho
    have hlt : i < l.length := by omega
    have hr : rdOf ByteArray.empty l (i : Int) = l[i] := by simp [rdOf, List.getD_eq_getElem?_getD, List.getElem?_eq_getElem hlt]
    have hs := hx _ (List.getElem_mem hlt)
    have h3 := ih (i + 1) (o ++ fieldN l[i]) (by omega) (by rw [List.length_append, fieldN, List.length_append, bytesOf_length]; simp only [List.length_cons, List.length_nil]; omega)
    refine Ev.step (f := fun k => spec_l02Fields.l0 k l (o ++ fieldN l[i]) ((i + 1 : Nat) : Int)) (fun k => ?_) ?_
    · rw [spec_l02Fields.l0, if_pos (by omega), if_pos (by omega), hr, if_pos (by omega), wid (n := (i : Int) + 1) (by omega) (by omega), List.append_assoc]
      rfl
    · rw [List.drop_eq_getElem_cons hlt, restN]
      rw [List.append_assoc] at h3
      exact h3
theorem l02Fields_ev (l : List ByteArray) (hl : l.length ≤ 1000) (hx : ∀ x ∈ l, x.size ≤ 1048576) : Ev (fun k => spec_l02Fields.f k l) (fieldsN l) := by
  unfold spec_l02Fields.f fieldsN
  have := l02Fields_go l hl hx l.length 0 [(l.length : Int) % 256] (by omega) (by simp)
  simpa using this
end Go.Proofs.YtabmfhnhmoiljaaGreatDoor.U

/- Coins: denominations, vouchers, what is right of a transfer. -/
namespace Go.Proofs.YtabmfhnhmoiljaaGreatDoor.U
open Go Go.RowKit Go.Proofs.YtabmfhnhmoiljaaGreatDoor.Q Go.Proofs.YtabmfhnhmoiljaaGreatDoorW.PrintWords Go.Proofs.YtabmfhnhmoiljaaGreatDoorW.PrintLast Go.Proofs.YtabmfhnhmoiljaaGreatDoorW.PrintMore
set_option linter.unusedVariables false
set_option linter.unusedSimpArgs false

abbrev nilB : ByteArray := ⟨#[]⟩
abbrev escB : ByteArray := ⟨#[101, 115, 99, 114, 111, 119]⟩
def denomB (a : ByteArray) : Bool := a.toList == ([120] : List UInt8) || (a.toList == ([121] : List UInt8) || (a.toList == ([118, 120] : List UInt8) || a.toList == ([118, 121] : List UInt8)))
noncomputable def xferB (a : ByteArray) (n : Int) (f t : ByteArray) : Bool := denomB a && (someB n && (peopleB f && peopleB t))
def xferL (a : ByteArray) (n : Int) (f t : ByteArray) : List ByteArray := [(⟨#[116]⟩ : ByteArray), a, digV n.toNat, f, t]
theorem denom_small {a : ByteArray} (h : denomB a = true) : a.size ≤ 2 := by
  have e : a.toList.length = a.size := by rw [Lib.toList_data]; exact size_data a
  unfold denomB at h
  simp only [Bool.or_eq_true, beq_iff_eq] at h
  rcases h with h | h | h | h <;> (rw [h] at e; simp at e; omega)
theorem xferB_parts {a : ByteArray} {n : Int} {f t : ByteArray} (h : xferB a n f t = true) : denomB a = true ∧ 1 ≤ n ∧ n ≤ 1000000000000000000 ∧ peopleB f = true ∧ peopleB t = true := by
  unfold xferB someB at h
  simp only [Bool.and_eq_true, decide_eq_true_iff] at h
  exact ⟨h.1, h.2.1.1, h.2.1.2, h.2.2.1, h.2.2.2⟩
theorem xferL_small {a : ByteArray} {n : Int} {f t : ByteArray} (h : xferB a n f t = true) : ∀ x ∈ xferL a n f t, x.size ≤ 1048576 := by
  obtain ⟨h1, h2, h3, h4, h5⟩ := xferB_parts h
  have a1 := denom_small h1
  have a2 := people_small h4
  have a3 := people_small h5
  have a4 := digV_size n.toNat (by omega)
  intro x hx
  simp only [xferL, List.mem_cons, List.mem_nil_iff, or_false] at hx
  rcases hx with rfl | rfl | rfl | rfl | rfl
  · decide
  all_goals omega
theorem denom_eq (a : ByteArray) : spec_l08Denom.f a = some (denomB a) := by
  unfold spec_l08Denom.f denomB
  by_cases h1 : a.toList = ([120] : List UInt8)
  · rw [if_pos h1]; simp [h1]
  rw [if_neg h1, beq_eq_false_iff_ne.2 h1, Bool.false_or]
  by_cases h2 : a.toList = ([121] : List UInt8)
  · rw [if_pos h2]; simp [h2]
  rw [if_neg h2, beq_eq_false_iff_ne.2 h2, Bool.false_or]
  by_cases h3 : a.toList = ([118, 120] : List UInt8)
  · rw [if_pos h3]; simp [h3]
  rw [if_neg h3, beq_eq_false_iff_ne.2 h3, Bool.false_or]
theorem xferRight_ev (a : ByteArray) (n : Int) (b c : ByteArray) (hb : b.size ≤ 1048576) (hc : c.size ≤ 1048576) : Ev (fun k => impl_transfer_isRight.f k a n b c) (xferB a n b c) := by
  have hp : Ev (fun k => impl_isPeople.f k [b, c]) (peopleB b && peopleB c) := by
    have := isPeople_ev [b, c] (by simp) (by
      intro x hx
      simp only [List.mem_cons, List.mem_nil_iff, or_false] at hx
      rcases hx with rfl | rfl <;> omega)
    simpa using this
  have hq : Ev (fun k => if someB n = true then (impl_isPeople.f k [b, c]).bind (fun t => some t) else some false) (someB n && (peopleB b && peopleB c)) := by
    cases someB n with
    | false => exact Ev.now _
    | true => simp only [if_true, Bool.true_and]; exact Ev.bind hp (Ev.now _)
  unfold impl_transfer_isRight.f
  simp only [isSome_eq, isChain_eq, Option.bind_some]
  unfold xferB denomB chainB
  by_cases h1 : a.toList = ([120] : List UInt8)
  · simp only [h1, beq_self_eq_true, Bool.true_or, if_true, Bool.true_and]; exact hq
  simp only [beq_eq_false_iff_ne.2 h1, Bool.false_or]
  by_cases h2 : a.toList = ([121] : List UInt8)
  · simp only [h2, beq_self_eq_true, if_true, Bool.true_or, Bool.true_and]; exact hq
  simp only [beq_eq_false_iff_ne.2 h2, Bool.false_eq_true, if_false, Bool.false_or]
  by_cases h3 : a.toList = ([118, 120] : List UInt8)
  · simp only [if_pos h3, h3, beq_self_eq_true, Bool.true_or, Bool.true_and]; exact hq
  simp only [if_neg h3, beq_eq_false_iff_ne.2 h3, Bool.false_or]
  by_cases h4 : a.toList = ([118, 121] : List UInt8)
  · simp only [if_pos h4, h4, beq_self_eq_true, Bool.true_and]; exact hq
  simp only [if_neg h4, beq_eq_false_iff_ne.2 h4, Bool.false_and]
  exact Ev.now _
theorem implSup_eq (d : ByteArray) (h : d.size ≤ 1000) : impl_supplyKey.f d = some (sKey d) := by unfold impl_supplyKey.f sKey; rw [if_pos (by omega)]
theorem specSup_eq (d : ByteArray) (h : d.size ≤ 1000) : spec_l05Supply.f d = some (sKey d) := by unfold spec_l05Supply.f sKey; rw [if_pos (by omega)]
theorem thenV_bad {l : List IP} {a : List IP × Int} {f : List IP → List IP × Int} (h : ¬ (thenV l a f).2 = 0) : (thenV l a f).1 = l := by
  unfold thenV at *
  split at h
  · split at h
    · exact absurd rfl h
    · rename_i h1 h2; rw [if_pos h1, if_neg h2]
  · rename_i h1; rw [if_neg h1]
def otherV (a : ByteArray) : ByteArray := if a.toList = ([120] : List UInt8) then (⟨#[121]⟩ : ByteArray) else (⟨#[120]⟩ : ByteArray)
def vouV (a : ByteArray) : ByteArray := (⟨#[118]⟩ : ByteArray) ++ a
theorem other_size (a : ByteArray) : (otherV a).size = 1 := by unfold otherV; split <;> rfl
theorem vou_size (a : ByteArray) : (vouV a).size = 1 + a.size := by
  unfold vouV
  rw [ByteArray.size_append]
  rfl
theorem implOther_eq (a : ByteArray) : impl_otherName.f a = some (otherV a) := by unfold impl_otherName.f otherV; split <;> rfl
theorem specOther_eq (a : ByteArray) : spec_l07Other.f a = some (otherV a) := by unfold spec_l07Other.f otherV; split <;> rfl
theorem implVou_eq (a : ByteArray) (h : a.size ≤ 1000000) : impl_voucherOf.f a = some (vouV a) := by unfold impl_voucherOf.f vouV; rw [if_pos (by omega)]
theorem clone_ev (l : List IP) (h : Rt l) : slices_Clone_impl_Pair_impl_Pair.f l = some l := by unfold slices_Clone_impl_Pair_impl_Pair.f; rw [if_pos (by have := h.1; omega)]
end Go.Proofs.YtabmfhnhmoiljaaGreatDoor.U

/- What a transfer's data tell, and coins that are minted: the program's and the reference's. -/
namespace Go.Proofs.YtabmfhnhmoiljaaGreatDoor.U
open Go Go.RowKit Go.Proofs.YtabmfhnhmoiljaaGreatDoor.Q Go.Proofs.YtabmfhnhmoiljaaGreatDoorW.PrintWords Go.Proofs.YtabmfhnhmoiljaaGreatDoorW.PrintLast Go.Proofs.YtabmfhnhmoiljaaGreatDoorW.PrintMore
set_option linter.unusedVariables false
set_option linter.unusedSimpArgs false

theorem take_five {α : Type} (l : List α) (h : l.length = 5) : ∃ x y z u v, l = [x, y, z, u, v] := by
  match l, h with
  | [x, y, z, u, v], _ => exact ⟨x, y, z, u, v, rfl⟩
theorem someB_max0 (n : Int) : someB (max0 n) = someB n := by
  unfold someB max0
  by_cases h : 0 ≤ n
  · rw [if_pos h]
  · rw [if_neg h, decide_eq_false (by omega), decide_eq_false (by omega)]
theorem xferB_max0 (a : ByteArray) (n : Int) (f t : ByteArray) : xferB a (max0 n) f t = xferB a n f t := by unfold xferB; rw [someB_max0]
abbrev Xf := ByteArray × Int × ByteArray × ByteArray
noncomputable def xferO (a : ByteArray) : Option Xf :=
  match readV a with
  | some [h, d, n, f, t] => if (h.toList == ([116] : List UInt8) && xferB d (amtV n) f t) = true then some (d, amtV n, f, t) else none
  | _ => none
def xfR (x : Xf) : Option Xf → ByteArray × Int × ByteArray × ByteArray × Bool
  | some (a, b, c, d) => (a, b, c, d, true)
  | none => (x.1, x.2.1, x.2.2.1, x.2.2.2, false)
theorem xfR_some {x : Xf} {o : Option Xf} {r : ByteArray × Int × ByteArray × ByteArray × Bool} (h : xfR x o = r) : (r.2.2.2.2 = true → o = some (r.1, r.2.1, r.2.2.1, r.2.2.2.1)) ∧ (r.2.2.2.2 = false → o = none) := by
  subst h
  cases o with
  | none => exact ⟨fun h => by simp [xfR] at h, fun _ => rfl⟩
  | some y => obtain ⟨a, b, c, d⟩ := y; exact ⟨fun _ => rfl, fun h => by simp [xfR] at h⟩
theorem xferO_ne (a : ByteArray) (l : List ByteArray) (h : readV a = some l) (hl : l.length ≠ 5) : xferO a = none := by
  unfold xferO
  rw [h]
  match l with
  | [] => rfl
  | [_] => rfl
  | [_, _] => rfl
  | [_, _, _] => rfl
  | [_, _, _, _] => rfl
  | [_, _, _, _, _] => exact absurd rfl hl
  | _ :: _ :: _ :: _ :: _ :: _ :: _ => rfl
theorem implTransferOf_ev (a : ByteArray) (ha : a.size ≤ 1048576) : ∃ x, Ev (fun k => impl_transferOf.f k a) (xfR x (xferO a)) := by
  unfold impl_transferOf.f
  obtain ⟨x, hx⟩ := readFields_ev a (by omega)
  have hbad : ∀ x4, Ev (fun k => impl_transferOf.j0 k x4 true) ((⟨#[]⟩ : ByteArray), 0, (⟨#[]⟩ : ByteArray), (⟨#[]⟩ : ByteArray), false) := fun x4 => Ev.step (fun k => by rw [impl_transferOf.j0, if_pos rfl]) (Ev.now _)
  have hbad2 : xferO a = none → ∀ x4, ∃ x, Ev (fun k => impl_transferOf.j0 k x4 true) (xfR x (xferO a)) := fun e x4 => ⟨((⟨#[]⟩ : ByteArray), 0, (⟨#[]⟩ : ByteArray), (⟨#[]⟩ : ByteArray)), by rw [e]; exact hbad x4⟩
  cases hr : readV a with
  | none =>
    have e : xferO a = none := by unfold xferO; rw [hr]
    obtain ⟨y, hy⟩ := hbad2 e x
    refine ⟨y, Ev.bind hx ?_⟩
    rw [hr]
    simp only [readR, Bool.false_eq_true, if_false]
    exact hy
  | some fs =>
    obtain ⟨hv1, _, hfs⟩ := readV_of hr
    by_cases h5 : fs.length = 5
    · obtain ⟨h, d, n, f, t, rfl⟩ := take_five fs h5
      have hd := hfs d (by simp)
      have hf := hfs f (by simp)
      have ht := hfs t (by simp)
      have hn := hfs n (by simp)
      have L5 : ((([h, d, n, f, t] : List ByteArray).length : Nat) : Int) = 5 := rfl
      have e2 : xferO a = if (h.toList == ([116] : List UInt8) && xferB d (amtV n) f t) = true then some (d, amtV n, f, t) else none := by unfold xferO; rw [hr]
      have d0 : rdOf ByteArray.empty [h, d, n, f, t] 0 = h := rfl
      have d1 : rdOf ByteArray.empty [h, d, n, f, t] 1 = d := rfl
      have d2 : rdOf ByteArray.empty [h, d, n, f, t] 2 = n := rfl
      have d3 : rdOf ByteArray.empty [h, d, n, f, t] 3 = f := rfl
      have d4 : rdOf ByteArray.empty [h, d, n, f, t] 4 = t := rfl
      by_cases hk : h.toList = ([116] : List UInt8)
      · obtain ⟨b, hb⟩ := readAmount_fst n (by omega)
        refine ⟨(d, max0 (amtV n), f, t), Ev.bind hx ?_⟩
        rw [hr]
        simp only [readR, List.nil_append, if_true, L5, if_pos (show (0 : Int) < 5 by decide), d0, hk, bne_self_eq_false]
        refine Ev.step (f := fun k => (impl_transfer_isRight.f k d (max0 (amtV n)) f t).bind fun q => some (d, max0 (amtV n), f, t, q)) (fun k => by
          rw [impl_transferOf.j0, if_neg (by decide), L5, d1, d2, d3, d4, if_pos (show (2 : Int) < 5 by decide), hb]
          simp only [Option.bind_some, if_pos (show (1 : Int) < 5 by decide), if_pos (show (3 : Int) < 5 by decide), if_pos (show (4 : Int) < 5 by decide)]) ?_
        refine Ev.bind (xferRight_ev d _ f t (by omega) (by omega)) ?_
        rw [xferB_max0, e2, hk]
        simp only [beq_self_eq_true, Bool.true_and]
        cases hT : xferB d (amtV n) f t with
        | false => exact Ev.now _
        | true =>
          have := (xferB_parts hT).2.1
          have e3 : max0 (amtV n) = amtV n := by unfold max0; rw [if_pos (by omega)]
          rw [e3]
          exact Ev.now _
      · have e : xferO a = none := by rw [e2, beq_eq_false_iff_ne.2 hk]; rfl
        obtain ⟨y, hy⟩ := hbad2 e [h, d, n, f, t]
        refine ⟨y, Ev.bind hx ?_⟩
        rw [hr]
        simp only [readR, List.nil_append, if_true, L5, if_pos (show (0 : Int) < 5 by decide), d0, bne_iff_ne.2 hk]
        exact hy
    · have e : xferO a = none := xferO_ne a fs hr h5
      obtain ⟨y, hy⟩ := hbad2 e fs
      refine ⟨y, Ev.bind hx ?_⟩
      rw [hr]
      have hne : ¬ (((readR x [] (some fs)).1.length : Nat) : Int) = 5 := by simp only [readR, List.nil_append]; omega
      simp only [if_neg hne]
      simp only [readR, List.nil_append, if_true]
      exact hy
theorem l08Read_ev (a : ByteArray) (ha : a.size ≤ 1048576) : ∃ x, Ev (fun k => spec_l08Read.f k a) (xfR x (xferO a)) := by
  unfold spec_l08Read.f
  obtain ⟨x, hx⟩ := l02Read_ev a (by omega)
  have hb : xferO a = none → ∃ x, Ev (fun _ => some ((⟨#[]⟩ : ByteArray), (0 : Int), (⟨#[]⟩ : ByteArray), (⟨#[]⟩ : ByteArray), false)) (xfR x (xferO a)) := fun e => ⟨((⟨#[]⟩ : ByteArray), 0, (⟨#[]⟩ : ByteArray), (⟨#[]⟩ : ByteArray)), by rw [e]; exact Ev.now _⟩
  cases hr : readV a with
  | none =>
    have e : xferO a = none := by unfold xferO; rw [hr]
    obtain ⟨y, hy⟩ := hb e
    refine ⟨y, Ev.bind hx ?_⟩
    rw [hr]
    simp only [readR, Bool.false_eq_true, if_false]
    exact hy
  | some fs =>
    obtain ⟨hv1, _, hfs⟩ := readV_of hr
    by_cases h5 : fs.length = 5
    · obtain ⟨h, d, n, f, t, rfl⟩ := take_five fs h5
      have hn := hfs n (by simp)
      have L5 : ((([h, d, n, f, t] : List ByteArray).length : Nat) : Int) = 5 := rfl
      have e2 : xferO a = if (h.toList == ([116] : List UInt8) && xferB d (amtV n) f t) = true then some (d, amtV n, f, t) else none := by unfold xferO; rw [hr]
      have d0 : rdOf ByteArray.empty [h, d, n, f, t] 0 = h := rfl
      have d1 : rdOf ByteArray.empty [h, d, n, f, t] 1 = d := rfl
      have d2 : rdOf ByteArray.empty [h, d, n, f, t] 2 = n := rfl
      have d3 : rdOf ByteArray.empty [h, d, n, f, t] 3 = f := rfl
      have d4 : rdOf ByteArray.empty [h, d, n, f, t] 4 = t := rfl
      have bad : (h.toList == ([116] : List UInt8) && xferB d (amtV n) f t) = false → xferO a = none := fun e => by rw [e2, e]; rfl
      have go : ∃ x, Ev (fun k => if h.toList = ([116] : List UInt8) then ((spec_l08Denom.f d).bind fun t497 => (if t497 = true then ((spec_l08Name.f k f).bind fun t499 => (if t499 = true then ((spec_l08Name.f k t).bind fun t501 => (if t501 = true then ((spec_l02Of.f k n).bind fun t503 => (some (d, t503, f, t, decide (t503 > 0)))) else (some ((⟨#[]⟩ : ByteArray), (0 : Int), (⟨#[]⟩ : ByteArray), (⟨#[]⟩ : ByteArray), false)))) else (some ((⟨#[]⟩ : ByteArray), 0, (⟨#[]⟩ : ByteArray), (⟨#[]⟩ : ByteArray), false)))) else (some ((⟨#[]⟩ : ByteArray), 0, (⟨#[]⟩ : ByteArray), (⟨#[]⟩ : ByteArray), false)))) else (some ((⟨#[]⟩ : ByteArray), 0, (⟨#[]⟩ : ByteArray), (⟨#[]⟩ : ByteArray), false))) (xfR x (xferO a)) := by
        by_cases hk : h.toList = ([116] : List UInt8)
        · simp only [if_pos hk, denom_eq, Option.bind_some]
          cases h1 : denomB d with
          | false =>
            simp only [Bool.false_eq_true, if_false]
            exact hb (bad (by unfold xferB; rw [h1]; simp))
          | true =>
            simp only [if_true]
            cases h2 : peopleB f with
            | false =>
              obtain ⟨y, hy⟩ := hb (bad (by unfold xferB; rw [h1, h2]; simp))
              refine ⟨y, Ev.bind (l08Name_ev f) ?_⟩
              rw [h2]
              simp only [Bool.false_eq_true, if_false]
              exact hy
            | true =>
              cases h3 : peopleB t with
              | false =>
                obtain ⟨y, hy⟩ := hb (bad (by unfold xferB; rw [h1, h2, h3]; simp))
                refine ⟨y, Ev.bind (l08Name_ev f) ?_⟩
                rw [h2]
                simp only [if_true]
                refine Ev.bind (l08Name_ev t) ?_
                rw [h3]
                simp only [Bool.false_eq_true, if_false]
                exact hy
              | true =>
                refine ⟨(d, amtV n, f, t), Ev.bind (l08Name_ev f) ?_⟩
                rw [h2]
                simp only [if_true]
                refine Ev.bind (l08Name_ev t) ?_
                rw [h3]
                simp only [if_true]
                refine Ev.bind (l02Of_ev n (by omega)) ?_
                have e3 : xferB d (amtV n) f t = decide (amtV n > 0) := by
                  unfold xferB someB
                  rw [h1, h2, h3, Bool.true_and, Bool.true_and, Bool.and_true, decide_eq_decide]
                  constructor
                  · rintro ⟨a1, a2⟩; omega
                  · intro a1; exact ⟨by omega, (amtV_eq (a := n) (by omega)).2⟩
                rw [e2, e3, hk]
                simp only [beq_self_eq_true, Bool.true_and]
                cases decide (amtV n > 0) with
                | false => exact Ev.now _
                | true => exact Ev.now _
        · simp only [if_neg hk]
          exact hb (bad (by rw [beq_eq_false_iff_ne.2 hk]; rfl))
      obtain ⟨y, hy⟩ := go
      refine ⟨y, Ev.bind hx ?_⟩
      rw [hr]
      simp only [readR, List.nil_append, if_true, L5, d0, d1, d2, d3, d4, if_pos (show (0 : Int) < 5 by decide), if_pos (show (1 : Int) < 5 by decide), if_pos (show (2 : Int) < 5 by decide), if_pos (show (3 : Int) < 5 by decide), if_pos (show (4 : Int) < 5 by decide)]
      exact hy
    · obtain ⟨y, hy⟩ := hb (xferO_ne a fs hr h5)
      refine ⟨y, Ev.bind hx ?_⟩
      rw [hr]
      have hne : ¬ (((readR x [] (some fs)).1.length : Nat) : Int) = 5 := by simp only [readR, List.nil_append]; omega
      simp only [if_neg hne]
      simp only [readR, List.nil_append, if_true]
      exact hy
theorem xferO_parts {a : ByteArray} {y : Xf} (h : xferO a = some y) : xferB y.1 y.2.1 y.2.2.1 y.2.2.2 = true := by
  unfold xferO at h
  split at h
  · split at h
    · rename_i h2
      rw [Bool.and_eq_true] at h2
      injection h with h
      subst h
      exact h2.2
    · cases h
  · cases h
theorem mint_ev (l : List IP) (a d : ByteArray) (n : Int) (h : Rt l) (ha : a.size ≤ 100) (hd : d.size ≤ 100) (h0 : 0 ≤ n) (h1 : n ≤ 1000000000000000000) : Ev (fun k => impl_mint.F k a d n l) (mintV l a d n) := by
  unfold impl_mint.F mintV
  rw [← seq_two l (fun m => addV m (sKey d) n) (fun m => addV m (bKey d a) n)]
  refine all_ev l h [fun k m => (impl_supplyKey.f d).bind fun key => impl_more.f k m key n, fun k m => (impl_balanceKey.f d a).bind fun key => impl_more.f k m key n] _ rfl (two_cases (fun m hm => ⟨?_, ?_⟩) (fun m hm => ⟨?_, ?_⟩))
  · rw [implSup_eq d (by omega)]; exact more_ev m _ n hm h0 h1
  · exact addV_rt hm (by rw [sKey_size]; omega) (by rw [sKey_size]; omega)
  · rw [implKey05_eq d a (by omega)]; exact more_ev m _ n hm h0 h1
  · exact addV_rt hm (by rw [bKey_size]; omega) (by rw [bKey_size]; omega)
theorem mintV_rt {l : List IP} {a d : ByteArray} {n : Int} (h : Rt l) (ha : a.size ≤ 100) (hd : d.size ≤ 100) : Rt (mintV l a d n).1 :=
  thenV_rt h (addV_rt (addV_rt h (by rw [sKey_size]; omega) (by rw [sKey_size]; omega)) (by rw [bKey_size]; omega) (by rw [bKey_size]; omega))
theorem l05Mint_ev (l : List IP) (a d : ByteArray) (n : Int) (h : Rt l) (ha : a.size ≤ 100) (hd : d.size ≤ 100) (h0 : 0 ≤ n) (h1 : n ≤ 1000000000000000000) : Ev (fun k => spec_l05Mint.f k l a d n) (mintV l a d n) := by
  unfold spec_l05Mint.f mintV thenV
  rw [specSup_eq d (by omega)]
  simp only [Option.bind_some]
  refine Ev.bind (l05Add_ev l _ n h (by omega) (by omega)) ?_
  by_cases hc : (addV l (sKey d) n).2 = 0
  · simp only [if_pos hc, specKey05_eq a d (by omega), Option.bind_some]
    refine Ev.bind (l05Add_ev _ _ n (addV_rt h (by rw [sKey_size]; omega) (by rw [sKey_size]; omega)) (by omega) (by omega)) ?_
    split
    · exact Ev.now _
    · exact Ev.now _
  · simp only [if_neg hc]; exact Ev.now _
theorem list_inj {a b : ByteArray} (h : a.toList = b.toList) : a = b := (toList_eq_iff a b).1 h
end Go.Proofs.YtabmfhnhmoiljaaGreatDoor.U

/- Coins that come: what the program and the reference answer. -/
namespace Go.Proofs.YtabmfhnhmoiljaaGreatDoor.U
open Go Go.RowKit Go.Proofs.YtabmfhnhmoiljaaGreatDoor.Q Go.Proofs.YtabmfhnhmoiljaaGreatDoorW.PrintWords Go.Proofs.YtabmfhnhmoiljaaGreatDoorW.PrintLast Go.Proofs.YtabmfhnhmoiljaaGreatDoorW.PrintMore
set_option linter.unusedVariables false
set_option linter.unusedSimpArgs false

noncomputable def comeV (name : ByteArray) (l : List IP) (data : ByteArray) : List IP × Bool :=
  match xferO data with
  | some y => if y.1.toList = (vouV name).toList then ((moveV l escB y.2.2.2 name y.2.1).1, decide ((moveV l escB y.2.2.2 name y.2.1).2 = 0)) else if y.1.toList = (otherV name).toList then ((mintV l y.2.2.2 (vouV y.1) y.2.1).1, decide ((mintV l y.2.2.2 (vouV y.1) y.2.1).2 = 0)) else (l, false)
  | none => (l, false)
theorem implTakeCoins_ev (name : ByteArray) (l : List IP) (data : ByteArray) (hr : Rt l) (hn : name.size ≤ 50) (hd : data.size ≤ 1048576) : Ev (fun k => impl_takeCoins.f k name l data) (comeV name l data) := by
  unfold impl_takeCoins.f comeV
  obtain ⟨x, hx⟩ := implTransferOf_ev data hd
  obtain ⟨g1, g2⟩ := xfR_some (x := x) (o := xferO data) rfl
  refine Ev.bind hx ?_
  generalize xfR x (xferO data) = r at *
  cases hb : r.2.2.2.2 with
  | false => rw [g2 hb]; simp only [Bool.false_eq_true, if_false, clone_ev l hr]; exact Ev.now _
  | true =>
    obtain ⟨p1, p2, p3, p4, p5⟩ := xferB_parts (xferO_parts (g1 hb))
    have a1 := denom_small p1
    have a2 := people_small p5
    simp only at a1 a2 p2 p3
    rw [g1 hb]
    simp only [if_true, implVou_eq name (by omega), Option.bind_some]
    by_cases h1 : r.1.toList = (vouV name).toList
    · simp only [if_pos h1]
      refine Ev.bind (move_ev l escB r.2.2.2.1 name r.2.1 hr (by decide) (by omega) (by omega) (by omega) p3) ?_
      by_cases hc : (moveV l escB r.2.2.2.1 name r.2.1).2 = 0
      · simp only [if_pos hc, decide_eq_true hc]; exact Ev.now _
      · simp only [if_neg hc, decide_eq_false hc]; exact Ev.now _
    · simp only [if_neg h1, implOther_eq, Option.bind_some]
      by_cases h2 : r.1.toList = (otherV name).toList
      · simp only [if_pos h2, implVou_eq r.1 (by omega), Option.bind_some]
        refine Ev.bind (mint_ev l r.2.2.2.1 (vouV r.1) r.2.1 hr (by omega) (by rw [vou_size]; omega) (by omega) p3) ?_
        by_cases hc : (mintV l r.2.2.2.1 (vouV r.1) r.2.1).2 = 0
        · simp only [if_pos hc, decide_eq_true hc]; exact Ev.now _
        · simp only [if_neg hc, decide_eq_false hc]; exact Ev.now _
      · simp only [if_neg h2, clone_ev l hr]; exact Ev.now _
theorem l08Take_ev (name : ByteArray) (l : List IP) (data : ByteArray) (hr : Rt l) (hn : name.size ≤ 50) (hd : data.size ≤ 1048576) : Ev (fun k => spec_l08Take.f k name l data) (comeV name l data) := by
  unfold spec_l08Take.f comeV
  obtain ⟨x, hx⟩ := l08Read_ev data hd
  obtain ⟨g1, g2⟩ := xfR_some (x := x) (o := xferO data) rfl
  refine Ev.bind hx ?_
  generalize xfR x (xferO data) = r at *
  cases hb : r.2.2.2.2 with
  | false => rw [g2 hb]; simp only [Bool.false_eq_true, if_false]; exact Ev.now _
  | true =>
    obtain ⟨p1, p2, p3, p4, p5⟩ := xferB_parts (xferO_parts (g1 hb))
    have a1 := denom_small p1
    have a2 := people_small p5
    simp only at a1 a2 p2 p3
    rw [g1 hb]
    simp only [if_true, if_pos (show name.size ≤ 1000000 by omega), show (⟨#[118]⟩ : ByteArray) ++ name = vouV name from rfl]
    by_cases h1 : r.1.toList = (vouV name).toList
    · simp only [if_pos h1]
      refine Ev.bind (l05Move_ev l escB r.2.2.2.1 name r.2.1 hr (by decide) (by omega) (by omega) (by omega) p3) ?_
      by_cases hc : (moveV l escB r.2.2.2.1 name r.2.1).2 = 0
      · simp only [if_pos hc, decide_eq_true hc]; exact Ev.now _
      · simp only [if_neg hc, decide_eq_false hc, show (moveV l escB r.2.2.2.1 name r.2.1).1 = l from thenV_bad hc]; exact Ev.now _
    · simp only [if_neg h1, specOther_eq, Option.bind_some]
      by_cases h2 : r.1.toList = (otherV name).toList
      · simp only [if_pos h2, if_pos (show r.1.size ≤ 1000000 by omega), show (⟨#[118]⟩ : ByteArray) ++ r.1 = vouV r.1 from rfl]
        refine Ev.bind (l05Mint_ev l r.2.2.2.1 (vouV r.1) r.2.1 hr (by omega) (by rw [vou_size]; omega) (by omega) p3) ?_
        by_cases hc : (mintV l r.2.2.2.1 (vouV r.1) r.2.1).2 = 0
        · simp only [if_pos hc, decide_eq_true hc]; exact Ev.now _
        · simp only [if_neg hc, decide_eq_false hc, show (mintV l r.2.2.2.1 (vouV r.1) r.2.1).1 = l from thenV_bad hc]; exact Ev.now _
      · simp only [if_neg h2]; exact Ev.now _
theorem comeV_rt {name : ByteArray} {l : List IP} {data : ByteArray} (hr : Rt l) (hn : name.size ≤ 50) : Rt (comeV name l data).1 := by
  unfold comeV
  split
  · rename_i y hy
    obtain ⟨p1, p2, p3, p4, p5⟩ := xferB_parts (xferO_parts hy)
    have a1 := denom_small p1
    have a2 := people_small p5
    split
    · exact moveV_rt hr (by decide) (by omega) (by omega)
    · split
      · exact mintV_rt hr (by omega) (by rw [vou_size]; omega)
      · exact hr
  · exact hr
noncomputable def comeX (name : ByteArray) (l : List IP) (data : ByteArray) : List IP × Bool × Int :=
  if nameC name l [data] = 0 then ((comeV name l data).1, (comeV name l data).2, 0) else ([], false, nameC name l [data])
theorem comeX_len (name : ByteArray) (l : List IP) (data : ByteArray) : (comeX name l data).1.length ≤ 400 := by
  unfold comeX
  split
  · rename_i h
    obtain ⟨hc, hs, ht⟩ := nameC_cases _ _ _ h
    exact (comeV_rt (rt_of hs) (by rw [chain_size hc]; decide)).1
  · exact Nat.zero_le _
theorem TakeCoinsX_ev (name : ByteArray) (l : List IP) (data : ByteArray) (hl : l.length ≤ 1048576) (h_data : data.size ≤ 1048576) : Ev (fun k => impl_TakeCoins.f k name l data) (comeX name l data) := by
  unfold impl_TakeCoins.f comeX
  refine Ev.bind (nameCode_ev name l [data] hl) ?_
  by_cases h : nameC name l [data] = 0
  · obtain ⟨hc, hs, ht⟩ := nameC_cases _ _ _ h
    simp only [if_pos h]
    exact Ev.bind (implTakeCoins_ev name l data (rt_of hs) (by rw [chain_size hc]; decide) h_data) (Ev.now _)
  · simp only [if_neg h]; exact Ev.now _
theorem specTakeCoinsX_ev (name : ByteArray) (l : List IP) (data : ByteArray) (hl : l.length ≤ 1048576) (h_data : data.size ≤ 1048576) : Ev (fun k => spec_TakeCoins.f k name l data) (comeX name l data) := by
  unfold spec_TakeCoins.f comeX
  have two : ¬ (name.size ≤ 65536 ∧ l.length ≤ 4096 ∧ (∀ z ∈ [data], z.size ≤ 65536)) → Ev (fun _ => some (([] : List IP), false, (2 : Int))) (if nameC name l [data] = 0 then ((comeV name l data).1, (comeV name l data).2, 0) else ([], false, nameC name l [data])) := fun e => by
    have : nameC name l [data] = 2 := by unfold nameC; rw [if_neg e]
    rw [this]; exact Ev.now _
  by_cases h1 : (65536 : Int) < (name.size : Int)
  · simp only [if_pos h1]; exact two (fun e => by have := e.1; omega)
  simp only [if_neg h1]
  by_cases h2 : (4096 : Int) < (l.length : Int)
  · simp only [if_pos h2]; exact two (fun e => by have := e.2.1; omega)
  simp only [if_neg h2]
  by_cases g0 : (65536 : Int) < (data.size : Int)
  · simp only [if_pos g0]; exact two (fun e => by have := e.2.2 data (by simp); omega)
  simp only [if_neg g0]
  have hn : nameC name l [data] = if (chainB name && storeB l) = true then 0 else 1 := by
    unfold nameC
    rw [if_pos]
    refine ⟨by omega, by omega, fun z hz => ?_⟩
    simp only [List.mem_singleton] at hz
    subst hz
    omega
  refine Ev.bind (l08Code_ev name l hl (by omega)) ?_
  rw [← hn]
  by_cases h : nameC name l [data] = 0
  · obtain ⟨hc, hs, ht⟩ := nameC_cases _ _ _ h
    have hlen : (comeV name l data).1.length ≤ 400 := (comeV_rt (rt_of hs) (by rw [chain_size hc]; decide)).1
    simp only [if_pos h]
    refine Ev.bind (l08Take_ev name l data (rt_of hs) (by rw [chain_size hc]; decide) h_data) ?_
    simp only [if_pos (show (comeV name l data).1.length ≤ 1000000 by omega)]
    exact Ev.now _
  · simp only [if_neg h]; exact Ev.now _
end Go.Proofs.YtabmfhnhmoiljaaGreatDoor.U

/- TakeCoins of the program answers what the reference's answers: for every name, store and text. -/
namespace Go.Proofs.YtabmfhnhmoiljaaGreatDoor.Pure
open Go Go.RowKit Go.Proofs.YtabmfhnhmoiljaaGreatDoor.Q Go.Proofs.YtabmfhnhmoiljaaGreatDoor.U Go.Proofs.YtabmfhnhmoiljaaGreatDoorW.PrintWords Go.Proofs.YtabmfhnhmoiljaaGreatDoorW.PrintLast Go.Proofs.YtabmfhnhmoiljaaGreatDoorW.PrintMore
set_option linter.unusedVariables false
set_option linter.unusedSimpArgs false
theorem FnExactTakeCoins (aName : ByteArray) (h_aName : aName.size ≤ maxLen) (aList : List LP) (h_aList : aList.length ≤ maxLen ∧ ∀ x ∈ aList, (x.f0.size ≤ maxLen ∧ x.f1.size ≤ maxLen)) (aData : ByteArray) (h_aData : aData.size ≤ maxLen) : ∃ k, laws_FnExactTakeCoins.f k aName aList aData = some true := by
  refine Ev.rounds (?_ : Ev (fun k => laws_FnExactTakeCoins.f k aName aList aData) true)
  have hm : maxLen = 9223372036854775807 := rfl
  rw [hm] at h_aList
  unfold laws_FnExactTakeCoins.f
  by_cases q0 : (aName.size : Int) > 1048576
  · simp only [if_pos q0]; exact Ev.now _
  simp only [if_neg q0]
  by_cases q1 : (aData.size : Int) > 1048576
  · simp only [if_pos q1]; exact Ev.now _
  simp only [if_neg q1]
  obtain ⟨z, e, hz⟩ := szPairS_ev aList 1048576 h_aList.1 h_aList.2 (by decide) (by decide)
  refine Ev.bind e ?_
  by_cases hneg : z < 0
  · simp only [if_pos hneg]; exact Ev.now _
  simp only [if_neg hneg]
  rcases hz with hz | ⟨_, _, hs⟩
  · exact absurd hz hneg
  have hl : (aList.map toP).length ≤ 1048576 := by rw [List.length_map]; exact hs.1
  have hlen := comeX_len aName (aList.map toP) aData
  have ti := TakeCoinsX_ev aName (aList.map toP) aData hl (by omega)
  have ts := specTakeCoinsX_ev aName (aList.map toP) aData hl (by omega)
  generalize hX : comeX aName (aList.map toP) aData = r at hlen ti ts
  clear hX
  obtain ⟨r0, r1, r2⟩ := r
  simp only at hlen
  have tp := toPairS_ev aList hs.1
  have e0 := eqPairS_ev r0 (by omega)
  have e1 := eqPairS_ev (aList.map toP) hl
  have m1 := markPairS_ev (aList.map toP) 1 hl (by decide)
  have m2 := markPairS_ev r0 1 (by omega) (by decide)
  have hd := heldPairS_ev r0 1 (by omega) (by decide)
  have one : ((1 : Nat) : Int) = 1 := rfl
  rw [one] at m1 m2 hd
  refine Ev.bind tp (Ev.bind ts (Ev.bind tp (Ev.bind ti (Ev.bind e0 ?_))))
  simp only [if_true, bne_self_eq_false, Bool.false_eq_true, if_false]
  refine Ev.step (fun k => by rw [laws_FnExactTakeCoins.j0, if_neg (by decide)]) (Ev.bind tp (Ev.bind e1 ?_))
  simp only [if_true]
  refine Ev.bind m1 ?_
  simp only [if_neg (show ¬ ((1 + 2 * (aList.map toP).length : Nat) : Int) < 0 by omega)]
  refine Ev.bind e0 ?_
  simp only [if_true, bne_self_eq_false, Bool.false_eq_true, if_false]
  refine Ev.step (fun k => by rw [laws_FnExactTakeCoins.j1, if_neg (by decide)]) (Ev.bind m2 (Ev.bind hd ?_))
  simp only [if_neg (show ¬ ((1 + 2 * r0.length : Nat) : Int) < 0 by omega), if_true]
  refine Ev.bind tp (Ev.bind ti (Ev.bind e0 ?_))
  simp only [if_true, bne_self_eq_false, Bool.false_eq_true, if_false]
  refine Ev.step (fun k => by rw [laws_FnExactTakeCoins.j2, if_neg (by decide)]) (Ev.bind hd ?_)
  simp only [if_neg (show ¬ ((1 + 2 * r0.length : Nat) : Int) < 0 by omega), if_true]
  exact Ev.now _
end Go.Proofs.YtabmfhnhmoiljaaGreatDoor.Pure

/- An argument of a law, whatever its type: read whole from what was handed over. -/
namespace Go.Proofs.YtabmfhnhmoiljaaGreatDoor.U
open Go Go.ChangeShapes Go.WideShapes Go.ChangeAt Go.RowKit Go.Proofs.YtabmfhnhmoiljaaGreatDoorW.PrintWords
set_option linter.unusedVariables false
set_option linter.unusedSimpArgs false

theorem addr_add_add (a : Addr) (i j : Nat) : (a.add i).add j = a.add (i + j) := by
  unfold Addr.add
  by_cases h0 : i = 0
  · subst h0; simp
  by_cases h1 : j = 0
  · subst h1; simp
  rw [if_neg h0, if_neg h1, if_neg (by omega)]
  simp only [Nat.add_assoc]
/-- What is handed over as a t can be read as a d. -/
structure Opens {α : Type} (P : Program) (t : TypeId) (d : Kd α) (wf : α → Prop) : Prop where
  out : ∀ {H : Type} (enc : TypeId × Value → H) (w : World) (base : Nat) (sp : Nat → Bool) (held : Bool) (n : Nat) (cs : List Value) (x : DataW H × List MemPlace),
    DataW.trod enc P w base sp held n t cs = some x → ∃ a, d.K w a cs ∧ wf a
theorem Opens.int {P : Program} {t : TypeId} {k : IntKind} (ht : P.underlying t = some (.int k)) : Opens P t (Kd.int k) (fun n => (Lit.int k n).wf = true) := by
  constructor
  intro H enc w base sp held n cs x h
  obtain ⟨m, rfl, rfl, hw⟩ := DataW.trod_int ht h
  exact ⟨m, rfl, hw⟩
theorem Opens.bool {P : Program} {t : TypeId} (ht : P.underlying t = some .bool) : Opens P t Kd.bool (fun _ => True) := by
  constructor
  intro H enc w base sp held n cs x h
  obtain ⟨m, rfl, rfl⟩ := DataW.trod_bool ht h
  exact ⟨m, rfl, trivial⟩
theorem Opens.string {P : Program} {t : TypeId} (ht : P.underlying t = some .string) : Opens P t Kd.string (fun s => s.size ≤ maxLen) := by
  constructor
  intro H enc w base sp held n cs x h
  obtain ⟨m, rfl, rfl, hw⟩ := DataW.trod_string ht h
  exact ⟨m, rfl, hw⟩
theorem all_of_each {α : Type} : ∀ (n : Nat) (p : Nat → α → Prop), (∀ i, i < n → ∃ a, p i a) → ∃ xs : List α, xs.length = n ∧ ∀ i a, xs[i]? = some a → p i a
  | 0, _, _ => ⟨[], rfl, fun i a h => by simp at h⟩
  | n + 1, p, h => by
    obtain ⟨a, ha⟩ := h 0 (by omega)
    obtain ⟨xs, hl, hx⟩ := all_of_each n (fun i => p (i + 1)) (fun i hi => h (i + 1) (by omega))
    refine ⟨a :: xs, by simp [hl], fun i b hb => ?_⟩
    cases i with
    | zero => simp at hb; subst hb; exact ha
    | succ j => exact hx j b (by simpa using hb)
theorem Opens.slice {α : Type} {P : Program} {t e : TypeId} {d : Kd α} {wf : α → Prop} (ht : P.underlying t = some (.slice e)) (hs : P.cellsOf e = d.sz) (hd : Opens P e d wf) :
    Opens P t (Kd.slice e d) (fun xs => xs.length ≤ maxLen ∧ ∀ x ∈ xs, wf x) := by
  constructor
  intro H enc w base sp held n cs x h
  rcases DataW.trod_slice ht h with ⟨rfl, rfl⟩ | ⟨a, len, cap, elems, rest, m, rfl, rfl, rfl, hb, hl, hm, hlen, hel, _, _⟩
  · exact ⟨[], ⟨none, 0, rfl, by simp, rfl, by simp, by simp⟩, by simp, by simp⟩
  obtain ⟨xs, hxl, hx⟩ := all_of_each len (fun i y => wf y ∧ ∃ c, c.length = d.sz ∧ d.K w y c ∧ ∀ j u, c[j]? = some u → w.cell? (a.add (i * d.sz + j)) = some u) (fun i hi => by
    have h1 := hel i hi
    rw [List.getElem?_eq_getElem (by omega)] at h1
    obtain ⟨c, hc, hy⟩ := Option.bind_eq_some_iff.mp h1
    obtain ⟨_, hcl, hcell⟩ := World.cells?_some hc
    obtain ⟨y, hk, hw⟩ := hd.out _ _ _ _ _ _ _ _ hy
    refine ⟨y, hw, c, by omega, hk, fun j u hu => ?_⟩
    have hj : j < P.cellsOf e := by
      rcases Nat.lt_or_ge j c.length with h' | h'
      · omega
      · rw [List.getElem?_eq_none h'] at hu; cases hu
    have h2 := hcell j hj
    rw [hu] at h2
    rw [← hs, ← h2, addr_add_add])
  subst hxl
  refine ⟨xs, ⟨some a, cap, rfl, hl, rfl, by have : maxLen = 9223372036854775807 := rfl; omega, fun _ => ⟨a, rfl, fun j p hp => (hx j p hp).2⟩⟩, by omega, fun x hxm => ?_⟩
  obtain ⟨i, hi, rfl⟩ := List.getElem_of_mem hxm
  exact (hx i _ (List.getElem?_eq_getElem hi)).1
/-- The fields of a struct, from a cell on. -/
structure OpensF {α : Type} (P : Program) (fs : List Field) (off : Nat) (d : Kd α) (wf : α → Prop) : Prop where
  out : ∀ {H : Type} (enc : TypeId × Value → H) (w : World) (base : Nat) (sp : Nat → Bool) (held : Bool) (n : Nat) (cs : List Value),
    cs.length = off + d.sz → (∀ f ∈ fs, ∃ y, DataW.trod enc P w base sp held n f.type ((cs.drop f.offset).take (P.cellsOf f.type)) = some y) → ∃ a, d.K w a (cs.drop off) ∧ wf a
theorem OpensF.one {α : Type} {P : Program} {f : Field} {d : Kd α} {wf : α → Prop} (hd : Opens P f.type d wf) (hs : P.cellsOf f.type = d.sz) : OpensF P [f] f.offset d wf := by
  constructor
  intro H enc w base sp held n cs hl hf
  obtain ⟨y, hy⟩ := hf f (by simp)
  rw [List.take_of_length_le (by rw [List.length_drop]; omega)] at hy
  exact hd.out _ _ _ _ _ _ _ _ hy
theorem OpensF.cons {α β : Type} {P : Program} {f : Field} {fs : List Field} {d : Kd α} {d1 : Kd β} {wf : α → Prop} {wf1 : β → Prop} (hd : Opens P f.type d wf) (hs : P.cellsOf f.type = d.sz) (h1 : OpensF P fs (f.offset + d.sz) d1 wf1) :
    OpensF P (f :: fs) f.offset (Kd.pair d d1) (fun p => wf p.1 ∧ wf1 p.2) := by
  constructor
  intro H enc w base sp held n cs hl hf
  have hl' : cs.length = f.offset + (d.sz + d1.sz) := hl
  obtain ⟨y, hy⟩ := hf f (by simp)
  obtain ⟨a, ha, wa⟩ := hd.out _ _ _ _ _ _ _ _ hy
  obtain ⟨b, hb, wb⟩ := h1.out enc w base sp held n cs (by omega) (fun g hg => hf g (by simp [hg]))
  refine ⟨(a, b), ⟨_, _, ?_, ha, hb⟩, wa, wb⟩
  rw [hs, ← List.drop_drop, List.take_append_drop]
theorem Opens.struct {α : Type} {P : Program} {t : TypeId} {fs : Array Field} {d : Kd α} {wf : α → Prop} (ht : P.underlying t = some (.struct fs)) (hs : P.cellsOf t = d.sz) (hf : OpensF P fs.toList 0 d wf) : Opens P t d wf := by
  constructor
  intro H enc w base sp held n cs x h
  obtain ⟨xs, m, rfl, rfl, hl, hxl, hx⟩ := DataW.trod_struct ht h
  have := hf.out enc w base sp held m cs (by omega) (fun f hfm => by
    obtain ⟨i, hi, rfl⟩ := List.getElem_of_mem hfm
    have hi' : i < fs.size := by simpa using hi
    refine ⟨xs[i]'(by omega), ?_⟩
    rw [hx i _ (by simp [hi'])]
    rw [List.getElem?_eq_getElem])
  simpa using this
theorem Opens.iso {α β : Type} {P : Program} {t : TypeId} {d : Kd α} {wf : α → Prop} {f : β → α} (h : Opens P t d wf) (g : ∀ a, ∃ b, f b = a) : Opens P t (Kd.iso d f) (fun b => wf (f b)) := by
  constructor
  intro H enc w base sp held n cs x hx
  obtain ⟨a, ha, wa⟩ := h.out enc w base sp held n cs x hx
  obtain ⟨b, rfl⟩ := g a
  exact ⟨b, ha, wa⟩
end Go.Proofs.YtabmfhnhmoiljaaGreatDoor.U
