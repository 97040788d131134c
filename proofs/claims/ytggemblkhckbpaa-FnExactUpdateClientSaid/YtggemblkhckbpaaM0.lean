/- Parts of the proof: what single Go functions compute, each with its walk, and plain laws over these. -/
import Derived.Test.YtggemblkhckbpaaProg
import Derived.Below
import Derived.Deep.Draws
import Derived.Deep.AppendLies
import Derived.Maps.AppendAt
import Derived.OwnWalk
import Derived.Laws.BytesArg
import Derived.Laws.MakeOwn
import Derived.Laws.OwnMore
import Derived.Deep.OwnRows
import Derived.Tactics
import Derived.Lib.ConvBytes
import Derived.Laws.Slices
import Derived.WalkKit
import Derived.KernelRfl
import Derived.RowKit3
import Derived.Deep.LoopGhost
import Derived.Deep.QuietTactic
import Derived.BigQuiet
import Derived.WideLaws
import Derived.Deep.DeepCutAuto
import Derived.Deep.CutBlock
import Derived.Deep.RegionHeld3
import Derived.Laws.Rows
import Derived.Lib.AppendStr
import Derived.ArgAppend
import Derived.Laws.IdiomCopy
import Derived.OrdersHeld
import Derived.Laws.BitsLemmas
import Derived.RowKit
import Derived.Shelf.Abstract
import Derived.Laws.Cover1
import Derived.Test.YtggemblkhckbpaaVShelf
import Derived.Test.YtggemblkhckbpaaVMac
import Derived.Test.YtggemblkhckbpaaVWords
import Derived.Test.YtggemblkhckbpaaVLast
import Derived.Test.YtggemblkhckbpaaVTab
import Derived.Test.YtggemblkhckbpaaVFour
import Derived.Test.YtggemblkhckbpaaVQPut
import Derived.Test.YtggemblkhckbpaaVApart
import Derived.Test.YtggemblkhckbpaaVArr
import Derived.Test.YtggemblkhckbpaaVZeros
import Derived.Test.YtggemblkhckbpaaVFoot
import Derived.Test.YtggemblkhckbpaaVKept
import Derived.Test.YtggemblkhckbpaaVShare
import Derived.Test.YtggemblkhckbpaaVN
import Derived.Test.YtggemblkhckbpaaVFootNe
import Derived.Test.YtggemblkhckbpaaVAt
import Derived.Test.YtggemblkhckbpaaVEqStruct
import Derived.Test.YtggemblkhckbpaaVRepsOne
import Derived.Test.YtggemblkhckbpaaVInv
import Derived.Test.YtggemblkhckbpaaVInvWords
import Derived.Test.YtggemblkhckbpaaVGuard
import Derived.Test.YtggemblkhckbpaaVNEv
import Derived.Test.YtggemblkhckbpaaVMore
namespace Go.Proofs.Ytggemblkhckbpaa.Q
open Go.RowKit Go.Proofs.YtggemblkhckbpaaW.PrintWords Go.Proofs.YtggemblkhckbpaaW.PrintLast Go.Proofs.YtggemblkhckbpaaW.PrintMore
attribute [local go_sem] max2_int min2_int max_two min_two max_three min_three max_four min_four   -- for this text's walks alone
set_option linter.unusedVariables false
set_option linter.unusedSimpArgs false




theorem info5 : (Try.prog.info? 5).map (fun i => (i.zero, i.size, i.bytes)) = some (some (.int .u8 0), 1, 1) := by kernel_rfl
theorem info39 : (Try.prog.info? 39).map (fun i => (i.zero, i.size, i.bytes)) = some (some (.agg #[(.int .i64 0), (.string ⟨#[]⟩)]), 2, 24) := by kernel_rfl
theorem info113 : (Try.prog.info? 113).map (fun i => (i.zero, i.size, i.bytes)) = some (some (.int .u32 0), 1, 4) := by kernel_rfl
-- the values' own types

/-! #### struct type 39 -/
structure S39 where
  f0 : Int
  f1 : ByteArray
def z39 : S39 := ⟨(0 : Int), (⟨#[]⟩ : ByteArray)⟩
def k39 : Kd S39 := Kd.iso (Kd.pair (Kd.int .i64) Kd.string) (fun x : S39 => (x.f0, x.f1))
theorem k39_open {w : World} {x : S39} {cs : List Value} (h : k39.K w x cs) : cs = [.int .i64 x.f0, .string x.f1] := by
  obtain ⟨_, _, rfl, rfl, rfl⟩ := h
  exact rfl
theorem k39_openM {w : World} {base : Nat} {ok : Nat → Prop} {x : S39} {cs : List Value} (h : k39.M w base ok x cs) : cs = [.int .i64 x.f0, .string x.f1] := by
  obtain ⟨_, _, rfl, rfl, rfl⟩ := h
  exact rfl
theorem k39_mk (w : World) (x : S39)  : k39.K w x [.int .i64 x.f0, .string x.f1] := ⟨[.int .i64 x.f0], [.string x.f1], rfl, rfl, rfl⟩
theorem k39_mkM (w : World) (base : Nat) (ok : Nat → Prop) (x : S39)  : k39.M w base ok x [.int .i64 x.f0, .string x.f1] := ⟨[.int .i64 x.f0], [.string x.f1], rfl, rfl, rfl⟩
def rd_T39 (xs : List S39) (i : Int) : S39 := xs.getD i.toNat z39
theorem at_T39 {w : World} {A : Option Addr} {n : Nat} {xs : List S39} (h : Kd.C k39 w A n xs) (i : Int) (h0 : 0 ≤ i) (h1 : i < n) : ∃ ad , A = some ad ∧ w.cell? (ad.add (i.toNat * 2)) = some (.int .i64 (rd_T39 xs i).f0) ∧ w.cell? ⟨(ad.add (i.toNat * 2)).block, (ad.add (i.toNat * 2)).off + 1, none⟩ = some (.string (rd_T39 xs i).f1) := by
  obtain ⟨ad, c, e, _, hK, hc0⟩ := Kd.C_get h z39 i h0 h1
  have hc : ∀ j u, c[j]? = some u → w.cell? (ad.add (i.toNat * 2 + j)) = some u := hc0
  obtain rfl := k39_open hK
  exact ⟨ad, e, hc 0 _ rfl, by rw [← add_field _ _ 1 (by omega)]; exact hc 1 _ rfl⟩


/-! #### struct type 25 -/
structure S25 where
  f0 : ByteArray
  f1 : (List S39)

/-! #### struct type 28 -/
structure S28 where
  f0 : Int
  f1 : Int
  f2 : ByteArray
  f3 : ByteArray

/-! #### struct type 98 -/
structure S98 where
  f0 : Int
  f1 : ByteArray
def z98 : S98 := ⟨(0 : Int), (⟨#[]⟩ : ByteArray)⟩
def k98 : Kd S98 := Kd.iso (Kd.pair (Kd.int .i64) Kd.string) (fun x : S98 => (x.f0, x.f1))
theorem k98_open {w : World} {x : S98} {cs : List Value} (h : k98.K w x cs) : cs = [.int .i64 x.f0, .string x.f1] := by
  obtain ⟨_, _, rfl, rfl, rfl⟩ := h
  exact rfl
def rd_T98 (xs : List S98) (i : Int) : S98 := xs.getD i.toNat z98
theorem at_T98 {w : World} {A : Option Addr} {n : Nat} {xs : List S98} (h : Kd.C k98 w A n xs) (i : Int) (h0 : 0 ≤ i) (h1 : i < n) : ∃ ad , A = some ad ∧ w.cell? (ad.add (i.toNat * 2)) = some (.int .i64 (rd_T98 xs i).f0) ∧ w.cell? ⟨(ad.add (i.toNat * 2)).block, (ad.add (i.toNat * 2)).off + 1, none⟩ = some (.string (rd_T98 xs i).f1) := by
  obtain ⟨ad, c, e, _, hK, hc0⟩ := Kd.C_get h z98 i h0 h1
  have hc : ∀ j u, c[j]? = some u → w.cell? (ad.add (i.toNat * 2 + j)) = some u := hc0
  obtain rfl := k98_open hK
  exact ⟨ad, e, hc 0 _ rfl, by rw [← add_field _ _ 1 (by omega)]; exact hc 1 _ rfl⟩



open Bool renaming true → τ, false → φ
set_option maxHeartbeats 8000000
set_option maxRecDepth 100000

/-! ### impl_within: function 39 -/
def impl_within.f (a0:Int) (a1:Int) (a2:Int):Option (Bool):=if a0 ≥ a1 then (some (decide (a0≤a2))) else (some φ)
theorem impl_within.calls (a0:Int) (a1:Int) (a2:Int) (r:Bool) (w:World) (h:impl_within.f a0 a1 a2=some r) :
  Calls Try.prog 39 #[.int .i64 a0,.int .i64 a1,.int .i64 a2] w fun e w'=>e = .returned (.bool r)∧Drawn0 w w':=by
 have H:(if a0 ≥ a1 then (some (decide (a0≤a2))) else (some φ))=some r:=h
 clear h
 by_cases c4:a0 ≥ a1
 ·
  rw [if_pos c4] at H
  have c4b0:decide (a1≤a0)=τ:=decide_eq_true c4
  clear c4
  obtain rfl:=Option.some.inj H
  go_enter Try.func39,Try.ntmps39
  go_wp2
  go_ret
  exact ⟨by rfl,by repeat (exact Drawn0.refl _)⟩
 ·
  rw [if_neg c4] at H
  have c4b0:decide (a1≤a0)=φ:=decide_eq_false c4
  clear c4
  obtain rfl:=Option.some.inj H
  go_enter Try.func39,Try.ntmps39
  go_wp2
  go_ret
  exact ⟨by rfl,by repeat (exact Drawn0.refl _)⟩


open Go.Proofs.YtggemblkhckbpaaW.PrintWords renaming gate_callee → δv
set_option maxHeartbeats 8000000
set_option maxRecDepth 100000

/-! ### impl_isTime: function 40 -/
def impl_isTime.f (a0:Int):Option (Bool):=(impl_within.f a0 0 1000000000).bind fun t101=>(some t101)
theorem impl_isTime.calls (a0:Int) (r:Bool) (w:World) (h:impl_isTime.f a0=some r) :
  Calls Try.prog 40 #[.int .i64 a0] w fun e w'=>e = .returned (.bool r)∧Drawn0 w w':=by
 have H:((impl_within.f a0 0 1000000000).bind fun t101=>(some t101))=some r:=h
 clear h
 obtain ⟨t101,A2,H⟩:=bsm H
 obtain rfl:=Option.some.inj H
 go_enter Try.func40,Try.ntmps40
 go_wp2_with (((with_reducible refine δv (f:=39) rfl ?_);refine gl 4 Try.func39 #[.int .i64 a0,.int .i64 0,.int .i64 1000000000] ?_;(with_reducible refine (impl_within.calls a0 0 1000000000 t101 _ A2.out).mono ?_);rintro e w' ⟨rfl,⟨nd,rfl⟩⟩;refine ⟨_,rfl,?_⟩))
 go_ret
 exact ⟨by rfl,by repeat (first|exact Drawn0.refl _|apply Drawn0.step)⟩


open Go.Proofs.YtggemblkhckbpaaW.PrintWords.Aside0 renaming mk → ζa
set_option maxHeartbeats 8000000
set_option maxRecDepth 100000


/-! ### slices_IndexFunc_string_string: function 91 -/
/-- slices.IndexFunc over texts,at a plain predicate that captures nothing. -/
theorem slices_IndexFunc_string_string.at_ (g:Nat) (eg : ∀ args w,(callFunc g args).run Try.prog w = .ok (.enter g args) w) (p:ByteArray→Bool)
  (hp : ∀ x W,Calls Try.prog g #[.string x] W fun e W'=>e = .returned (.bool (p x))∧Drawn0 W W')
  (A0:Option Addr) (c0:Nat) (l0:List ByteArray) (w:World) (hr0:Kd.C Kd.string w A0 l0.length l0) :
  Calls Try.prog 91 #[.slice A0 l0.length c0,.func (.func g) #[] #[]] w fun e w'=>(∃ r:Int,e = .returned (.int .i64 r)∧Aside0 (decide (0≤r)=l0.any p))∧Drawn0 w w':=by
 have HR0:=ζa hr0
 have hmax:l0.length≤9223372036854775807:=hr0.2.1
 clear hr0
 go_enter Try.func91,Try.ntmps91
 go_wp2
 go_loopg [5,8] l0.length (fun gg _ s8 wr => ∃ kk:Nat,kk≤l0.length∧l0.length - kk≤gg∧s8 = .int .i64 kk∧Aside0 ((l0.take kk).any p=φ)∧Drawn0 w wr)
 case atStart=>exact ⟨0,Nat.zero_le _,by omega,rfl,⟨rfl⟩,by repeat (exact Drawn0.refl _)⟩
 case round =>
  obtain ⟨kk,hkk,hg,rfl,A,⟨m1,rfl⟩⟩:=hrel
  by_cases hlt:kk<l0.length
  ·
   have hltz:(kk:Int)<(l0.length:Int):=by omega
   have p145:0≤(kk:Int):=by omega
   obtain ⟨ad145,e145,hx145_0⟩:=Kd.at_string HR0.out kk p145 hltz
   cases e145
   rw [Int.toNat_natCast] at hx145_0
   have hT:Aside0 ((l0.take (kk+1)).any p=p (rdOf ByteArray.empty l0 kk)):=⟨by
    have hx:l0[kk]? = some (rdOf ByteArray.empty l0 kk):=by
     simp only [rdOf,Int.toNat_natCast,List.getD_eq_getElem?_getD]
     rw [List.getElem?_eq_getElem hlt];rfl
    rw [List.take_add_one,hx,List.any_append,A.out];simp⟩
   generalize rdOf ByteArray.empty l0 kk=x at *
   have hcall:=hp x
   clear hp
   cases hq:p x with
   | true =>
    rw [hq] at hcall hT
    clear hq
    go_wp2_with (go_at_fn g;refine (hcall _).mono ?_;rintro e w' ⟨rfl,⟨q',rfl⟩⟩)
    go_ret
    refine ⟨⟨_,rfl,⟨?_⟩⟩,by repeat (first|exact Drawn0.refl _|apply Drawn0.step)⟩
    have h2:l0.any p=τ:=by
     have:=hT.out
     rw [← List.take_append_drop (kk+1) l0,List.any_append,this];rfl
    rw [h2];simp
   | false =>
    rw [hq] at hcall hT
    clear hq
    go_wp2_with (go_at_fn g;refine (hcall _).mono ?_;rintro e w' ⟨rfl,⟨q',rfl⟩⟩)
    go_roundg (l0.length - (kk+1))
    case measure=>omega
    case rel=>exact ⟨kk+1,by omega,by omega,by go_num,hT,by repeat (first|exact Drawn0.refl _|apply Drawn0.step)⟩
  ·
   have hltz : ¬ (kk:Int)<(l0.length:Int):=by omega
   have hkl:Aside0 (kk=l0.length):=⟨by omega⟩
   go_wp2
   go_ret
   refine ⟨⟨_,rfl,⟨?_⟩⟩,by repeat (first|exact Drawn0.refl _|apply Drawn0.step)⟩
   have:=A.out
   rw [hkl.out,List.take_length] at this
   rw [this];rfl


set_option maxHeartbeats 8000000
set_option maxRecDepth 100000


/-! ### slices_ContainsFunc_string_string: function 68 -/
theorem slices_ContainsFunc_string_string.at_ (g:Nat) (eg : ∀ args w,(callFunc g args).run Try.prog w = .ok (.enter g args) w) (p:ByteArray→Bool)
  (hp : ∀ x W,Calls Try.prog g #[.string x] W fun e W'=>e = .returned (.bool (p x))∧Drawn0 W W')
  (A0:Option Addr) (c0:Nat) (l0:List ByteArray) (w:World) (hr0:Kd.C Kd.string w A0 l0.length l0) :
  Calls Try.prog 68 #[.slice A0 l0.length c0,.func (.func g) #[] #[]] w fun e w'=>e = .returned (.bool (l0.any p))∧Drawn0 w w':=by
 go_enter Try.func68,Try.ntmps68
 go_wp2_with (go_at_call 91;refine (slices_IndexFunc_string_string.at_ g eg p hp A0 c0 l0 _ hr0).mono ?_;rintro e w' ⟨⟨r,rfl,hr⟩,⟨q',rfl⟩⟩)
 go_ret
 exact ⟨by rw [← hr.out];rfl,by repeat (first|exact Drawn0.refl _|apply Drawn0.step)⟩


set_option maxHeartbeats 8000000
set_option maxRecDepth 100000


/-! ### impl_isHash: function 41 -/
def impl_isHash.f (l0:List ByteArray):Option Bool:=some (!(l0.any fun t=>((t.size:Int) != 32)))
theorem impl_isHash.lit (a0:ByteArray) (w:World) :
  Calls Try.prog 69 #[.string a0] w fun e w'=>e = .returned (.bool (((a0.size:Int) != 32)))∧Drawn0 w w':=by
 go_enter Try.func69,Try.ntmps69
 go_wp2
 go_ret
 exact ⟨by rfl,by repeat (exact Drawn0.refl _)⟩
theorem impl_isHash.calls (A0:Option Addr) (c0:Nat) (l0:List ByteArray) (r:Bool) (w:World) (hr0:Kd.C Kd.string w A0 l0.length l0) (hc0:l0.length≤c0) (h:impl_isHash.f l0=some r) :
  Calls Try.prog 41 #[.slice A0 l0.length c0] w fun e w'=>e = .returned (.bool r)∧Drawn0 w w':=by
 obtain rfl:=Option.some.inj h
 go_enter Try.func41,Try.ntmps41
 go_wp2_with (go_at_call 68;refine (slices_ContainsFunc_string_string.at_ 69 (enters_of Try.func69 (by kernel_rfl) rfl) _ impl_isHash.lit A0 c0 l0 _ hr0).mono ?_;rintro e w' ⟨rfl,⟨q',rfl⟩⟩)
 go_ret
 exact ⟨rfl,by repeat (first|exact Drawn0.refl _|apply Drawn0.step)⟩


open Go.Proofs.YtggemblkhckbpaaW.PrintWords renaming gate_dst → δx, below_step → δr, blk_cell → δl, blk_frozen → δm, gate_callee → δv, below_size → δs, pw_below_drewN → δi, blk_drewN → δn
open Go.Proofs.YtggemblkhckbpaaW.PrintWords.Kd renaming R_reads' → ζg
set_option maxHeartbeats 8000000
set_option maxRecDepth 100000

/-! ### impl_HeaderOK: function 13 -/
def impl_HeaderOK.f (a0_0:Int) (a0_1:Int) (a0_2:ByteArray) (a0_3:ByteArray):Option (Bool):=(impl_within.f a0_0 1 60).bind fun t103=>(if t103=τ then ((impl_isTime.f a0_1).bind fun t104=>(if t104=τ then ((impl_isHash.f (([a0_2,a0_3]:List ByteArray))).bind fun t108=>(some t108)) else (some φ))) else (some φ))
theorem impl_HeaderOK.calls (a0_0:Int) (a0_1:Int) (a0_2:ByteArray) (a0_3:ByteArray) (r:Bool) (w:World) (h:impl_HeaderOK.f a0_0 a0_1 a0_2 a0_3=some r) :
  Calls Try.prog 13 #[.agg #[.int .i64 a0_0,.int .i64 a0_1,.string a0_2,.string a0_3]] w fun e w'=>e = .returned (.bool r)∧Below w.heap.size w w':=by
 have hu28:=Try.underlying28
 have HB:=ζa (Below.refl w.heap.size w)
 have H:((impl_within.f a0_0 1 60).bind fun t103=>(if t103=τ then ((impl_isTime.f a0_1).bind fun t104=>(if t104=τ then ((impl_isHash.f (([a0_2,a0_3]:List ByteArray))).bind fun t108=>(some t108)) else (some φ))) else (some φ)))=some r:=h
 clear h
 obtain ⟨t103,A2,H⟩:=bsm H
 by_cases c3:t103=τ
 ·
  subst c3
  rw [ifT] at H
  obtain ⟨t104,A4,H⟩:=bsm H
  by_cases c5:t104=τ
  ·
   subst c5
   rw [ifT] at H
   obtain ⟨y105,hy105⟩ : ∃ y_:List ByteArray,y_=(([a0_2,a0_3]:List ByteArray)):=⟨_,rfl⟩
   replace H:((impl_isHash.f y105).bind fun t108=>(some t108))=some r:=by (rw [hy105];with_reducible exact H)
   have Ny105:=ζa hy105
   clear hy105
   obtain ⟨t108,A6,H⟩:=bsm H
   obtain rfl:=Option.some.inj H
   go_enter Try.func13,Try.ntmps13
   go_wp2_with (first|((with_reducible refine δx (N:=1) rfl ?_);(try (refine gate_guard (by rfl) ?_;dsimp only));refine bev 1 #[.int .i64 a0_0,.int .i64 a0_1,.string a0_2,.string a0_3] 28 ?_;intro gb102 hg w7 hbox hb;have BK102:=ζa (hbox);have GW102:=ζa (gbw hg (by exact HB.out));have GE102:=ζa (gbw hg (by exact HB.out));replace HB:=ζa (δr (by exact HB.out) hb);clear hb hbox hg;have hcz8_0:w7.cell? ⟨gb102,0,none⟩=some (.int .i64 a0_0):=(δl BK102.out 0).trans rfl;have hcz8_1:w7.cell? ⟨gb102,1,none⟩=some (.int .i64 a0_1):=(δl BK102.out 1).trans rfl;have hcz8_2:w7.cell? ⟨gb102,2,none⟩=some (.string a0_2):=(δl BK102.out 2).trans rfl;have hcz8_3:w7.cell? ⟨gb102,3,none⟩=some (.string a0_3):=(δl BK102.out 3).trans rfl;have hfz8_0:=δm BK102.out 0;have hfz8_1:=δm BK102.out 1;have hfz8_2:=δm BK102.out 2;have hfz8_3:=δm BK102.out 3)|((with_reducible refine δv (f:=39) rfl ?_);refine gl 5 Try.func39 #[.int .i64 a0_0,.int .i64 1,.int .i64 60] ?_;(with_reducible refine (impl_within.calls a0_0 1 60 τ _ A2.out).mono ?_);rintro e w' ⟨rfl,⟨nd,rfl⟩⟩;refine ⟨_,rfl,?_⟩)|(go_at_call 40;(with_reducible refine (impl_isTime.calls a0_1 τ _ A4.out).mono ?_);rintro e w' ⟨rfl,⟨nd,rfl⟩⟩)|((with_reducible refine δx (N:=16) rfl ?_);(try (refine gate_guard (by rfl) ?_;dsimp only));refine Kd.R_lit Kd.string _ 9 ?hg (N:=16) ?hd (xs:=([a0_2,a0_3]:List ByteArray)) (inner:=[.string a0_2,.string a0_3]) (ok:=fun _=>True) (okp:=fun _=>True) ?hr ?hp (fun _ hk=>hk) trivial (Below.refl _ _) (Nat.le_refl _) (by simp) ?_;(case hd=>rfl);(case hg=>rfl);(case hr=>(go_simp;done));(case hp=>exact (Reps.one (show Kd.M Kd.string _ _ _ a0_2 [.string a0_2] from rfl) (Reps.one (show Kd.M Kd.string _ _ _ a0_3 [.string a0_3] from rfl) (Reps.none _ _))));intro v106 w9 ho10 hb hg_ hnew_;clear hg_ hnew_;(rw [← Ny105.out] at ho10);have HO107:=ζa (Kd.R_lower ho10 (δs (by repeat ((with_reducible first|exact HB.out|apply δi)))));replace BK102:=ζa (blk_below (g:=gb102) (o:=.cells #[.int .i64 a0_0,.int .i64 a0_1,.string a0_2,.string a0_3] 28 (0,0)) (by (with_reducible repeat (refine δn ?_ _));exact BK102.out) hb);replace HB:=ζa (δr (by repeat ((with_reducible first|exact HB.out|apply δi))) hb);clear hb ho10;obtain ⟨Ao11,co11,eo11⟩:=Kd.R_slice HO107.out;subst eo11)|(go_at_call 41;(with_reducible refine (impl_isHash.calls _ _ y105 t108 _ ?side1 ?side2 A6.out).mono ?_);(case side1=>repeat (exact (ζg HO107.out).2.2));(case side2=>exact (ζg HO107.out).2.1);rintro e w' ⟨rfl,⟨nd,rfl⟩⟩))
   go_ret
   exact ⟨by rfl,by repeat ((with_reducible first|exact HB.out|apply δi))⟩
  ·
   replace c5:=Bool.eq_false_iff.mpr c5
   subst c5
   rw [ifF] at H
   obtain rfl:=Option.some.inj H
   go_enter Try.func13,Try.ntmps13
   go_wp2_with (first|((with_reducible refine δx (N:=1) rfl ?_);(try (refine gate_guard (by rfl) ?_;dsimp only));refine bev 1 #[.int .i64 a0_0,.int .i64 a0_1,.string a0_2,.string a0_3] 28 ?_;intro gb102 hg w12 hbox hb;have BK102:=ζa (hbox);have GW102:=ζa (gbw hg (by exact HB.out));have GE102:=ζa (gbw hg (by exact HB.out));replace HB:=ζa (δr (by exact HB.out) hb);clear hb hbox hg;have hcz13_0:w12.cell? ⟨gb102,0,none⟩=some (.int .i64 a0_0):=(δl BK102.out 0).trans rfl;have hcz13_1:w12.cell? ⟨gb102,1,none⟩=some (.int .i64 a0_1):=(δl BK102.out 1).trans rfl;have hcz13_2:w12.cell? ⟨gb102,2,none⟩=some (.string a0_2):=(δl BK102.out 2).trans rfl;have hcz13_3:w12.cell? ⟨gb102,3,none⟩=some (.string a0_3):=(δl BK102.out 3).trans rfl;have hfz13_0:=δm BK102.out 0;have hfz13_1:=δm BK102.out 1;have hfz13_2:=δm BK102.out 2;have hfz13_3:=δm BK102.out 3)|((with_reducible refine δv (f:=39) rfl ?_);refine gl 5 Try.func39 #[.int .i64 a0_0,.int .i64 1,.int .i64 60] ?_;(with_reducible refine (impl_within.calls a0_0 1 60 τ _ A2.out).mono ?_);rintro e w' ⟨rfl,⟨nd,rfl⟩⟩;refine ⟨_,rfl,?_⟩)|(go_at_call 40;(with_reducible refine (impl_isTime.calls a0_1 φ _ A4.out).mono ?_);rintro e w' ⟨rfl,⟨nd,rfl⟩⟩))
   go_ret
   exact ⟨by rfl,by repeat ((with_reducible first|exact HB.out|apply δi))⟩
 ·
  replace c3:=Bool.eq_false_iff.mpr c3
  subst c3
  rw [ifF] at H
  obtain rfl:=Option.some.inj H
  go_enter Try.func13,Try.ntmps13
  go_wp2_with (first|((with_reducible refine δx (N:=1) rfl ?_);(try (refine gate_guard (by rfl) ?_;dsimp only));refine bev 1 #[.int .i64 a0_0,.int .i64 a0_1,.string a0_2,.string a0_3] 28 ?_;intro gb102 hg w14 hbox hb;have BK102:=ζa (hbox);have GW102:=ζa (gbw hg (by exact HB.out));have GE102:=ζa (gbw hg (by exact HB.out));replace HB:=ζa (δr (by exact HB.out) hb);clear hb hbox hg;have hcz15_0:w14.cell? ⟨gb102,0,none⟩=some (.int .i64 a0_0):=(δl BK102.out 0).trans rfl;have hcz15_1:w14.cell? ⟨gb102,1,none⟩=some (.int .i64 a0_1):=(δl BK102.out 1).trans rfl;have hcz15_2:w14.cell? ⟨gb102,2,none⟩=some (.string a0_2):=(δl BK102.out 2).trans rfl;have hcz15_3:w14.cell? ⟨gb102,3,none⟩=some (.string a0_3):=(δl BK102.out 3).trans rfl;have hfz15_0:=δm BK102.out 0;have hfz15_1:=δm BK102.out 1;have hfz15_2:=δm BK102.out 2;have hfz15_3:=δm BK102.out 3)|((with_reducible refine δv (f:=39) rfl ?_);refine gl 5 Try.func39 #[.int .i64 a0_0,.int .i64 1,.int .i64 60] ?_;(with_reducible refine (impl_within.calls a0_0 1 60 φ _ A2.out).mono ?_);rintro e w' ⟨rfl,⟨nd,rfl⟩⟩;refine ⟨_,rfl,?_⟩))
  go_ret
  exact ⟨by rfl,by repeat ((with_reducible first|exact HB.out|apply δi))⟩


open Go.RowKit renaming wrap64 → ζm
open Go.Proofs.YtggemblkhckbpaaW.PrintWords renaming gate_dst → δx, below_size → δs, below_step → δr, below_set → δq
set_option maxHeartbeats 8000000
set_option maxRecDepth 100000

/-! ### impl_number: function 67 -/
def impl_number.l0:Nat→Int→List Int→Int→Option (ByteArray)
 | 0,_,_,_=>none
 | k+1,x0,x5,x6=>if x6 ≥ 0 then (if 0≤x6 then (if x6<(x5.length:Int) then (impl_number.l0 k (x0 / 256) (x5.set (x6:Int).toNat ((x0) % 256)) (ζm (x6 - 1))) else (none)) else (none)) else (some (strOfNums x5))
def impl_number.f (k:Nat) (a0:Int) (a1:Int):Option (ByteArray):=if 0≤a1 then (if (a1:Int).toNat≤281474976710656 then (impl_number.l0 k a0 (List.replicate (a1:Int).toNat 0) (ζm (a1 - 1))) else (none)) else (none)
theorem impl_number.mono_l : ∀ k,(∀ y0 y1 y2,LeO (impl_number.l0 k y0 y1 y2) (impl_number.l0 (k+1) y0 y1 y2))
 | 0=>fun _ _ _ r h=>by simp [impl_number.l0] at h
 | k+1=>by
  have ih0:=impl_number.mono_l k
  ·
   intro y0 y1 y2
   unfold impl_number.l0
   repeat' first
   | (with_reducible exact ih0 _ _ _)
   | (with_reducible exact LeO.refl _)
   | (with_reducible exact LeO.none _)
   | (with_reducible refine LeO.ite ?_ ?_)
   | (with_reducible refine LeO.bind ?_ (fun _ => ?_))
   | exact ih0 _ _ _
   | exact LeO.none _
   | refine LeO.ite ?_ ?_
   | refine LeO.bind ?_ (fun _ => ?_)
theorem impl_number.mono : ∀ a0 a1 k,LeO (impl_number.f k a0 a1) (impl_number.f (k+1) a0 a1):=by
 intro a0 a1 k
 have ih0:=impl_number.mono_l k
 unfold impl_number.f
 repeat' first
   | (with_reducible exact ih0 _ _ _)
   | (with_reducible exact LeO.refl _)
   | (with_reducible exact LeO.none _)
   | (with_reducible refine LeO.ite ?_ ?_)
   | (with_reducible refine LeO.bind ?_ (fun _ => ?_))
   | exact ih0 _ _ _
   | exact LeO.none _
   | refine LeO.ite ?_ ?_
   | refine LeO.bind ?_ (fun _ => ?_)
theorem impl_number.calls (k:Nat) (a0:Int) (a1:Int) (r:ByteArray) (w:World) (h:impl_number.f k a0 a1=some r) :
  Calls Try.prog 67 #[.int .i64 a0,.int .i64 a1] w fun e w'=>e = .returned (.string r)∧Below w.heap.size w w':=by
 have HB:=ζa (Below.refl w.heap.size w)
 have H:(if 0≤a1 then (if (a1:Int).toNat≤281474976710656 then (impl_number.l0 k a0 (List.replicate (a1:Int).toNat 0) (ζm (a1 - 1))) else (none)) else (none))=some r:=h
 clear h
 by_cases c3:0≤a1
 ·
  rw [if_pos c3] at H
  have c3b0:=eq_true c3
  have c3b1:=decide_eq_true c3
  clear c3
  by_cases c4:(a1:Int).toNat≤281474976710656
  ·
   rw [if_pos c4] at H
   have c4b0:=eq_true c4
   have c4b1:=decide_eq_true c4
   clear c4
   obtain ⟨y109,hy109⟩ : ∃ y_:List Int,y_=(List.replicate (a1:Int).toNat 0):=⟨_,rfl⟩
   replace H:(impl_number.l0 k a0 y109 (ζm (a1 - 1)))=some r:=by (rw [hy109];with_reducible exact H)
   have Ny109:=ζa hy109
   clear hy109
   have H':=ζa H
   clear H
   go_enter Try.func67,Try.ntmps67
   go_wp2_with (((with_reducible refine δx (N:=8) rfl ?_);refine Kd.R_make (Kd.int .u8) _ 5 rfl (N:=8) rfl 22 _ _ rfl a1 rfl rfl Try.underlying22 (.int .u8 0) 1 info5 rfl (by decide) (by omega) 0 (ok:=fun _=>True) (okp:=fun _=>True) rfl (fun _ hk=>hk) trivial (of_decide_eq_true (by (with_reducible assumption))) (Nat.le_trans (Nat.mul_le_mul_right _ (of_decide_eq_true (by (with_reducible assumption)):a1.toNat≤281474976710656)) (by omega)) (Below.refl _ _) (Nat.le_refl _) ?_;intro v110 w5 ho6 hb hg_ hnew_;clear hg_ hnew_;(rw [← Ny109.out] at ho6);have HO111:=ζa (Kd.R_lower ho6 (δs (by exact HB.out)));replace HB:=ζa (δr (by exact HB.out) hb);clear hb ho6))
   go_loopg [0,6] k (fun kq v0 v6 w' => ∃ (x0_1:Int) (x5_1:List Int) (x6_1:Int),v0 = .int .i64 x0_1∧v6 = .int .i64 x6_1∧Aside0 (impl_number.l0 kq x0_1 x5_1 x6_1=some r)∧Aside0 (kq≤k)∧Aside0 (Kd.R (Kd.int .u8) 5 w' w.heap.size (fun _=>True) v110 x5_1)∧Aside0 (Below w.heap.size w w'))
   case atStart=>exact ⟨(a0),(y109),(ζm (a1 - 1)),(by rfl),(by rfl),H',⟨Nat.le_refl _⟩,⟨by exact HO111.out⟩,⟨by repeat ((with_reducible exact HB.out))⟩⟩
   case round =>
    clear H'
    try clear p2
    try clear c3
    try clear c3b0
    try clear c3b1
    try clear c4
    try clear c4b0
    try clear c4b1
    try clear c6
    try clear p6
    obtain ⟨x0_1,x5_1,x6_1,rfl,rfl,HA,HK1,HO_5,HB⟩:=hrel
    cases gk with
    | zero=>exact absurd HA.out (by simp [impl_number.l0])
    | succ k1 =>
     have H:=HA.out
     clear HA
     simp only [impl_number.l0] at H
     by_cases c7:x6_1 ≥ 0
     ·
      rw [if_pos c7] at H
      have c7b0:decide (0≤x6_1)=τ:=decide_eq_true c7
      clear c7
      by_cases c8:0≤x6_1
      ·
       rw [if_pos c8] at H
       have c8b0:=decide_eq_true c8
       clear c8
       by_cases c9:x6_1<(x5_1.length:Int)
       ·
        rw [if_pos c9] at H
        have c9b0:=decide_eq_true c9
        clear c9
        obtain ⟨y112,hy112⟩ : ∃ y_:List Int,y_=(x5_1.set (x6_1:Int).toNat ((x0_1) % 256)):=⟨_,rfl⟩
        replace H:(impl_number.l0 k1 (x0_1 / 256) y112 (ζm (x6_1 - 1)))=some r:=by (rw [hy112];with_reducible exact H)
        have Ny112:=ζa hy112
        clear hy112
        have H':=ζa H
        clear H
        have p10:0≤(x6_1:Int):=of_decide_eq_true (by (with_reducible assumption))
        have q10:(x6_1:Int)<((x5_1.length:Int):Int):=of_decide_eq_true (by (with_reducible assumption))
        obtain ⟨go10,co10,eo10,gb10,gl10,cl10,HG10⟩:=Kd.R_form HO_5.out (by omega)
        (cases eo10)
        have GB10:=ζa gb10
        have GG10:=ζa HG10
        clear gb10 gl10 HG10
        obtain ⟨hx10_0,hf10_0⟩:=Kd.R_celln 0 HO_5.out (x6_1:Int) p10 q10
        replace p10:=eq_true p10
        replace q10:=eq_true q10
        have HP11:=Kd.R_putg HO_5.out (x6_1:Int) ((x0_1) % 256)
        go_wp2_with (((with_reducible refine gate_store (t:=5) (p:=19) rfl ?_);refine store_event (t:=5) (p:=19) (v:=?vo_w12) (w1:=(wr.setCell ⟨go10,(x6_1:Int).toNat,none⟩ (.int .u8 ((x0_1) % 256)))) ?hg ?ho ?hn ?hr ?_;(case ho=>rfl);(case hg=>rfl);(case hn=>rfl);(case hr=>(go_simp;done));intro w12 hw;have hg:wr.grownBy w12 (some go10):=(by rw [hw];exact HP11.2);have hp_:Kd.R (Kd.int .u8) 5 w12 w.heap.size (fun _=>True) (.slice (some ⟨go10,0,none⟩) x5_1.length co10) y112:=(by rw [hw,Ny112.out];exact HP11.1);clear HP11;replace HO_5:=ζa (hp_);replace HB:=ζa ((by rw [hw];exact δq (HB.out) GB10.out:Below w.heap.size w w12));clear hg hw hp_))
        go_roundg k1
        case measure=>have:=HK1.out;omega
        case rel=>exact ⟨(x0_1 / 256),(y112),(ζm (x6_1 - 1)),(by rfl),(by rfl),H',⟨by have:=HK1.out;omega⟩,⟨by exact HO_5.out⟩,⟨by repeat ((with_reducible exact HB.out))⟩⟩
       ·
        rw [if_neg c9] at H
        exact absurd H (by simp)
      ·
       rw [if_neg c8] at H
       exact absurd H (by simp)
     ·
      rw [if_neg c7] at H
      have c7b0:decide (0≤x6_1)=φ:=decide_eq_false c7
      clear c7
      obtain rfl:=Option.some.inj H
      have hcv13:=own_string (P:=Try.prog) Try.underlying22 Try.underlying5 Try.underlying9 (Kd.own_of_R HO_5.out)
      go_wp2
      go_ret
      exact ⟨by rfl,by repeat ((with_reducible exact HB.out))⟩
  ·
   rw [if_neg c4] at H
   exact absurd H (by simp)
 ·
  rw [if_neg c3] at H
  exact absurd H (by simp)




/-! ### strings_Repeat: function 85 -/
def strings_Repeat.f (a0 : ByteArray) (a1 : Int) : Option ByteArray := if 0 ≤ a1 ∧ a1 ≤ 1000000 ∧ a0.size ≤ 1000 then some ⟨(Lib.repeatL a0.data.toList a1.toNat).toArray⟩ else none
theorem strings_Repeat.calls (a0 : ByteArray) (a1 : Int) (r : ByteArray) (w : World) (h : strings_Repeat.f a0 a1 = some r) :
    Calls Try.prog 85 #[.string a0, .int .i64 a1] w fun e w' => e = .returned (.string r) ∧ Below w.heap.size w w' := by
  unfold strings_Repeat.f at h
  split at h
  · rename_i hc
    cases h
    have e : a1 = ((a1.toNat : Nat) : Int) := by omega
    have hm : a0.size * a1.toNat ≤ 1000 * 1000000 := Nat.mul_le_mul hc.2.2 (by omega)
    have := Try.strings_Repeat a0 a1.toNat w (by omega) (by omega)
    rw [← e] at this
    exact this
  · cases h


open Go.Proofs.YtggemblkhckbpaaW.PrintWords renaming gate_dst → δx, box_event → δz, below_size → δs, below_step → δr, below_alloc → δk, pw_below_drewN → δi, below_drew1 → δj
open Bool renaming true → τ
set_option maxHeartbeats 8000000
set_option maxRecDepth 100000


/-! ### impl_hashWords: function 86 -/
def impl_hashWords.f:Option (List Int):=some [1779033703,3144134277,1013904242,2773480762,1359893119,2600822924,528734635,1541459225]
theorem impl_hashWords.one (L:List Int):((L.map (Value.int .u32)).toArray).all (·.oneCell')=τ:=by
 rw [Array.all_eq_true_iff_forall_mem]
 intro x hx
 simp only [List.mem_toArray,List.mem_map] at hx
 obtain ⟨y,_,rfl⟩:=hx
 rfl
theorem impl_hashWords.self {W:World} {g:Nat} {t:TypeId} {old cs:Array Value} (h:W.heap[g]? = some (.cells old t (0,0))):(W.setRow g cs).heap[g]? = some (.cells cs t (0,0)):=by
 simp only [World.setRow]
 rw [Array.getElem?_modify,if_pos rfl,h]
 rfl
theorem impl_hashWords.low {w W:World} {g:Nat} {cs:Array Value} (h:Below w.heap.size w W) (hg:w.heap.size≤g):Below w.heap.size w (W.setRow g cs) :=
 ⟨h.os,h.tape,h.output,by have:=h.size;simpa [World.setRow] using this,fun k hk=>(show (W.setRow g cs).heap[k]? = W.heap[k]? by simp only [World.setRow];rw [Array.getElem?_modify,if_neg (by omega)]).trans (h.block k hk)⟩
theorem impl_hashWords.calls (r:List Int) (w:World) (h:impl_hashWords.f=some r) :
  Calls Try.prog 86 #[] w fun e w'=>e = .returned (.agg (r.map (Value.int .u32)).toArray)∧Below w.heap.size w w':=by
 have hu:=Try.underlying114
 have HB:=ζa (Below.refl w.heap.size w)
 obtain ⟨L,hL⟩ : ∃ L:List Int,L = [1779033703,3144134277,1013904242,2773480762,1359893119,2600822924,528734635,1541459225]:=⟨_,rfl⟩
 have hr:L=r:=hL.trans (Option.some.inj h)
 subst hr
 clear h
 have HL:=ζa hL
 have SZ:=ζa (show ((L.map (Value.int .u32)).toArray).size=8 by rw [hL];rfl)
 clear hL
 go_enter Try.func86,Try.ntmps86
 go_wp2_with (first
  | ((with_reducible refine δx (N:=0) rfl ?_);refine δz ?hg (N:=0) ?hd (cs:=(((List.replicate 8 (0:Int)).map (Value.int .u32)).toArray)) (t:=114) ?hr ?_;(case hd=>rfl);(case hg=>rfl);(case hr=>first|(go_simp;done)|(go_simp;rfl));intro gbp hg wp hbox hb;have GW:=ζa ((by rw [hg];exact δs HB.out):w.heap.size≤gbp);replace HB:=ζa (δr (by repeat (first|exact HB.out|apply δk|apply δi|apply δj)) hb);have BKp:=ζa hbox;clear hb hbox hg)
  | ((with_reducible refine gate_store (t:=114) (p:=0) rfl ?_);refine wpList_plain rfl fun _ hK=>wp_store_row 114 (.tmp 0) (.tmp 1) rfl gbp ((L.map (Value.int .u32)).toArray) (by rfl) (by rw [HL.out];rfl) _ _ BKp.out ((show _=some 8 from by kernel_rfl).trans (congrArg some SZ.out.symm)) (by rw [SZ.out];rfl) (impl_hashWords.one L) (hK _ _ ?_)))
 refine bodyPost_ret (results_cell_row rfl _ _ gbp 114 _ (0,0) _ rfl (impl_hashWords.self BKp.out) hu rfl ((show _=some 8 from by kernel_rfl).trans (congrArg some SZ.out.symm))) rfl ?_
 exact ⟨rfl,impl_hashWords.low HB.out GW.out⟩


set_option maxHeartbeats 8000000
set_option maxRecDepth 100000


/-! ### impl_roundWords: function 87 -/
def impl_roundWords.f:Option (List Int):=some [1116352408,1899447441,3049323471,3921009573,961987163,1508970993,2453635748,2870763221,3624381080,310598401,607225278,1426881987,1925078388,2162078206,2614888103,3248222580,3835390401,4022224774,264347078,604807628,770255983,1249150122,1555081692,1996064986,2554220882,2821834349,2952996808,3210313671,3336571891,3584528711,113926993,338241895,666307205,773529912,1294757372,1396182291,1695183700,1986661051,2177026350,2456956037,2730485921,2820302411,3259730800,3345764771,3516065817,3600352804,4094571909,275423344,430227734,506948616,659060556,883997877,958139571,1322822218,1537002063,1747873779,1955562222,2024104815,2227730452,2361852424,2428436474,2756734187,3204031479,3329325298]
theorem impl_roundWords.one (L:List Int):((L.map (Value.int .u32)).toArray).all (·.oneCell')=τ:=by
 rw [Array.all_eq_true_iff_forall_mem]
 intro x hx
 simp only [List.mem_toArray,List.mem_map] at hx
 obtain ⟨y,_,rfl⟩:=hx
 rfl
theorem impl_roundWords.self {W:World} {g:Nat} {t:TypeId} {old cs:Array Value} (h:W.heap[g]? = some (.cells old t (0,0))):(W.setRow g cs).heap[g]? = some (.cells cs t (0,0)):=by
 simp only [World.setRow]
 rw [Array.getElem?_modify,if_pos rfl,h]
 rfl
theorem impl_roundWords.low {w W:World} {g:Nat} {cs:Array Value} (h:Below w.heap.size w W) (hg:w.heap.size≤g):Below w.heap.size w (W.setRow g cs) :=
 ⟨h.os,h.tape,h.output,by have:=h.size;simpa [World.setRow] using this,fun k hk=>(show (W.setRow g cs).heap[k]? = W.heap[k]? by simp only [World.setRow];rw [Array.getElem?_modify,if_neg (by omega)]).trans (h.block k hk)⟩
theorem impl_roundWords.calls (r:List Int) (w:World) (h:impl_roundWords.f=some r) :
  Calls Try.prog 87 #[] w fun e w'=>e = .returned (.agg (r.map (Value.int .u32)).toArray)∧Below w.heap.size w w':=by
 have hu:=Try.underlying116
 have HB:=ζa (Below.refl w.heap.size w)
 obtain ⟨L,hL⟩ : ∃ L:List Int,L = [1116352408,1899447441,3049323471,3921009573,961987163,1508970993,2453635748,2870763221,3624381080,310598401,607225278,1426881987,1925078388,2162078206,2614888103,3248222580,3835390401,4022224774,264347078,604807628,770255983,1249150122,1555081692,1996064986,2554220882,2821834349,2952996808,3210313671,3336571891,3584528711,113926993,338241895,666307205,773529912,1294757372,1396182291,1695183700,1986661051,2177026350,2456956037,2730485921,2820302411,3259730800,3345764771,3516065817,3600352804,4094571909,275423344,430227734,506948616,659060556,883997877,958139571,1322822218,1537002063,1747873779,1955562222,2024104815,2227730452,2361852424,2428436474,2756734187,3204031479,3329325298]:=⟨_,rfl⟩
 have hr:L=r:=hL.trans (Option.some.inj h)
 subst hr
 clear h
 have HL:=ζa hL
 have SZ:=ζa (show ((L.map (Value.int .u32)).toArray).size=64 by rw [hL];rfl)
 clear hL
 go_enter Try.func87,Try.ntmps87
 go_wp2_with (first
  | ((with_reducible refine δx (N:=0) rfl ?_);refine δz ?hg (N:=0) ?hd (cs:=(((List.replicate 64 (0:Int)).map (Value.int .u32)).toArray)) (t:=116) ?hr ?_;(case hd=>rfl);(case hg=>rfl);(case hr=>first|(go_simp;done)|(go_simp;rfl));intro gbp hg wp hbox hb;have GW:=ζa ((by rw [hg];exact δs HB.out):w.heap.size≤gbp);replace HB:=ζa (δr (by repeat (first|exact HB.out|apply δk|apply δi|apply δj)) hb);have BKp:=ζa hbox;clear hb hbox hg)
  | ((with_reducible refine gate_store (t:=116) (p:=0) rfl ?_);refine wpList_plain rfl fun _ hK=>wp_store_row 116 (.tmp 0) (.tmp 1) rfl gbp ((L.map (Value.int .u32)).toArray) (by rfl) (by rw [HL.out];rfl) _ _ BKp.out ((show _=some 64 from by kernel_rfl).trans (congrArg some SZ.out.symm)) (by rw [SZ.out];rfl) (impl_roundWords.one L) (hK _ _ ?_)))
 refine bodyPost_ret (results_cell_row rfl _ _ gbp 116 _ (0,0) _ rfl (impl_roundWords.self BKp.out) hu rfl ((show _=some 64 from by kernel_rfl).trans (congrArg some SZ.out.symm))) rfl ?_
 exact ⟨rfl,impl_roundWords.low HB.out GW.out⟩


set_option maxHeartbeats 8000000
set_option maxRecDepth 100000

/-! ### bits_RotateLeft32: function 120 -/
def bits_RotateLeft32.f (a0:Int) (a1:Int):Option (Int):=if 0≤(Go.bits .and .u64 (IntKind.u64.wrap (a1)) 31) then (if 0≤(IntKind.u64.wrap (32 - (Go.bits .and .u64 (IntKind.u64.wrap (a1)) 31))) then (some (Go.bits .or .u32 (shl .u32 a0 (Go.bits .and .u64 (IntKind.u64.wrap (a1)) 31)) (shr .u32 a0 (IntKind.u64.wrap (32 - (Go.bits .and .u64 (IntKind.u64.wrap (a1)) 31)))))) else (none)) else (none)
theorem bits_RotateLeft32.calls (a0:Int) (a1:Int) (r:Int) (w:World) (h:bits_RotateLeft32.f a0 a1=some r) :
  Calls Try.prog 120 #[.int .u32 a0,.int .i64 a1] w fun e w'=>e = .returned (.int .u32 r)∧Drawn0 w w':=by
 have H:(if 0≤(Go.bits .and .u64 (IntKind.u64.wrap (a1)) 31) then (if 0≤(IntKind.u64.wrap (32 - (Go.bits .and .u64 (IntKind.u64.wrap (a1)) 31))) then (some (Go.bits .or .u32 (shl .u32 a0 (Go.bits .and .u64 (IntKind.u64.wrap (a1)) 31)) (shr .u32 a0 (IntKind.u64.wrap (32 - (Go.bits .and .u64 (IntKind.u64.wrap (a1)) 31)))))) else (none)) else (none))=some r:=h
 clear h
 obtain ⟨ji3,hji3⟩ : ∃ j_:Int,(Go.bits .and .u64 (IntKind.u64.wrap (a1)) 31)=j_:=⟨_,rfl⟩
 replace H:(if 0≤(ji3) then (if 0≤(IntKind.u64.wrap (32 - (ji3))) then (some (Go.bits .or .u32 (shl .u32 a0 (ji3)) (shr .u32 a0 (IntKind.u64.wrap (32 - (ji3)))))) else (none)) else (none))=some r:=by (rw [hji3] at H;exact H)
 by_cases c4:0≤(ji3)
 ·
  rw [if_pos c4] at H
  have c4b0:=eq_true c4
  have c4b1:=decide_eq_true c4
  clear c4
  obtain ⟨ji5,hji5⟩ : ∃ j_:Int,(shl .u32 a0 (ji3))=j_:=⟨_,rfl⟩
  replace H:(if 0≤(IntKind.u64.wrap (32 - (ji3))) then (some (Go.bits .or .u32 (ji5) (shr .u32 a0 (IntKind.u64.wrap (32 - (ji3)))))) else (none))=some r:=by (rw [hji5] at H;exact H)
  have hji5_:(IntKind.u32.wrap (a0 * 2 ^ min (ji3).toNat 32))=ji5:=hji5
  have hji5z:(ji3)≤32→(IntKind.u32.wrap (a0 * 2 ^ (ji3).toNat))=ji5:=shl_small hji5
  obtain ⟨ji6,hji6⟩ : ∃ j_:Int,(IntKind.u64.wrap (32 - (ji3)))=j_:=⟨_,rfl⟩
  replace H:(if 0≤(ji6) then (some (Go.bits .or .u32 (ji5) (shr .u32 a0 (ji6)))) else (none))=some r:=by (rw [hji6] at H;exact H)
  by_cases c7:0≤(ji6)
  ·
   rw [if_pos c7] at H
   have c7b0:=eq_true c7
   have c7b1:=decide_eq_true c7
   clear c7
   obtain ⟨ji8,hji8⟩ : ∃ j_:Int,(shr .u32 a0 (ji6))=j_:=⟨_,rfl⟩
   replace H:(some (Go.bits .or .u32 (ji5) (ji8)))=some r:=by (rw [hji8] at H;exact H)
   have hji8_:(a0 / 2 ^ min (ji6).toNat 32)=ji8:=hji8
   have hji8z:(ji6)≤32→(a0 / 2 ^ (ji6).toNat)=ji8:=shr_small hji8
   obtain rfl:=Option.some.inj H
   go_enter Try.func120,Try.ntmps120
   go_wp2
   go_ret
   exact ⟨by rfl,by repeat (exact Drawn0.refl _)⟩
  ·
   rw [if_neg c7] at H
   exact absurd H (by simp)
 ·
  rw [if_neg c4] at H
  exact absurd H (by simp)


set_option maxHeartbeats 8000000
set_option maxRecDepth 100000

/-! ### impl_turned: function 112 -/
def impl_turned.f (a0:Int) (a1:Int):Option (Int):=(bits_RotateLeft32.f a0 (ζm (-a1))).bind fun t116=>(some t116)
theorem impl_turned.calls (a0:Int) (a1:Int) (r:Int) (w:World) (h:impl_turned.f a0 a1=some r) :
  Calls Try.prog 112 #[.int .u32 a0,.int .i64 a1] w fun e w'=>e = .returned (.int .u32 r)∧Drawn0 w w':=by
 have H:((bits_RotateLeft32.f a0 (ζm (-a1))).bind fun t116=>(some t116))=some r:=h
 clear h
 obtain ⟨t116,A3,H⟩:=bsm H
 obtain rfl:=Option.some.inj H
 go_enter Try.func112,Try.ntmps112
 go_wp2_with (((with_reducible refine δv (f:=120) rfl ?_);refine gl 8 Try.func120 #[.int .u32 a0,.int .i64 (ζm (-a1))] ?_;(with_reducible refine (bits_RotateLeft32.calls a0 (ζm (-a1)) t116 _ A3.out).mono ?_);rintro e w' ⟨rfl,⟨nd,rfl⟩⟩;refine ⟨_,rfl,?_⟩))
 go_ret
 exact ⟨by rfl,by repeat (first|exact Drawn0.refl _|apply Drawn0.step)⟩


open List renaming setIfInBounds_toArray → δa, map_toArray → δd, map_cons → δe, map_nil → δf
open Go.Proofs.YtggemblkhckbpaaW.PrintWords renaming blk_cell → δl, blk_put → δw, gate_dst → δx, box_event → δz, below_size → δs, below_step → δr, below_alloc → δk, pw_below_drewN → δi, below_drew1 → δj, blk_drew → δp, blk_frozen → δm, below_set → δq, blk_drewN → δn
set_option maxHeartbeats 8000000
set_option maxRecDepth 100000


/-! ### impl_wordsOf: function 111 -/
theorem arr_set {L:List Int} {i:Nat} {x:Int} : ((L.map (Value.int .u32)).toArray).setIfInBounds i (.int .u32 x)=((L.set i x).map (Value.int .u32)).toArray:=by
 rw [δa,List.map_set]
theorem arr_get {L:List Int} {i:Nat} (h:i<L.length):((L.map (Value.int .u32)).toArray)[i]? = some (.int .u32 (rd L (i:Int))):=by
 rw [List.getElem?_toArray,List.getElem?_map,List.getElem?_eq_getElem h]
 show some _=some (Value.int .u32 (L.getD ((i:Int)).toNat 0))
 rw [Int.toNat_natCast,List.getD_eq_getElem?_getD,List.getElem?_eq_getElem h]
 rfl
theorem arr_keep {W:World} {g:Nat} {t:TypeId} {L:List Int} {i j:Nat} {u:Value} (h:W.heap[g]? = some (.cells ((L.map (Value.int .u32)).toArray) t (0,0))) (hne:i≠j) (hj:j<L.length):(W.setCell ⟨g,i,none⟩ u).cell? ⟨g,j,none⟩=some (.int .u32 (rd L (j:Int))):=by
 refine (δl (δw h i u rfl) j).trans ?_
 rw [Array.getElem?_setIfInBounds_ne hne]
 exact arr_get hj
theorem setRow_self {W:World} {g:Nat} {t:TypeId} {old cs:Array Value} (h:W.heap[g]? = some (.cells old t (0,0))):(W.setRow g cs).heap[g]? = some (.cells cs t (0,0)):=by
 simp only [World.setRow]
 rw [Array.getElem?_modify,if_pos rfl,h]
 rfl
theorem setRow_other {W:World} {g g':Nat} {cs:Array Value} (h:g≠g'):(W.setRow g cs).heap[g']? = W.heap[g']?:=by
 simp only [World.setRow]
 rw [Array.getElem?_modify,if_neg h]
theorem setRow_below {w W:World} {g:Nat} {cs:Array Value} (h:Below w.heap.size w W) (hg:w.heap.size≤g):Below w.heap.size w (W.setRow g cs) :=
 ⟨h.os,h.tape,h.output,by have:=h.size;simpa [World.setRow] using this,fun k hk=>(setRow_other (by omega)).trans (h.block k hk)⟩
theorem arr_size {L:List Int} : ((L.map (Value.int .u32)).toArray).size=L.length:=by simp
theorem arr_one {L:List Int} : ((L.map (Value.int .u32)).toArray).all (·.oneCell')=τ:=by
 rw [Array.all_eq_true_iff_forall_mem]
 intro x hx
 simp only [List.mem_toArray,List.mem_map] at hx
 obtain ⟨y,_,rfl⟩:=hx
 rfl
def turnV (x n:Int):Int:=Go.bits .or .u32 (shl .u32 x (32 - n)) (shr .u32 x n)
theorem turn_at (x n:Int) (hn:n=2 ∨ n=6 ∨ n=7 ∨ n=11 ∨ n=13 ∨ n=17 ∨ n=18 ∨ n=19 ∨ n=22 ∨ n=25):impl_turned.f x n=some (turnV x n):=by
 unfold impl_turned.f bits_RotateLeft32.f turnV
 have key : ∀ n m:Int,Go.bits .and .u64 (IntKind.u64.wrap (ζm (-n))) 31=m→0≤m→IntKind.u64.wrap (32 - m)=n→0≤n→m=32 - n→(if 0≤(Go.bits .and .u64 (IntKind.u64.wrap (ζm (-n))) 31) then (if 0≤(IntKind.u64.wrap (32 - (Go.bits .and .u64 (IntKind.u64.wrap (ζm (-n))) 31))) then (some (Go.bits .or .u32 (shl .u32 x (Go.bits .and .u64 (IntKind.u64.wrap (ζm (-n))) 31)) (shr .u32 x (IntKind.u64.wrap (32 - (Go.bits .and .u64 (IntKind.u64.wrap (ζm (-n))) 31)))))) else (none)) else (none):Option Int)=some (Go.bits .or .u32 (shl .u32 x (32 - n)) (shr .u32 x n)):=by
  intro n m h1 h2 h3 h4 h5
  rw [h1,h3,if_pos h2,if_pos h4,h5]
 rcases hn with rfl|rfl|rfl|rfl|rfl|rfl|rfl|rfl|rfl|rfl
 · rw [key 2 30 (by kernel_rfl) (by decide) (by kernel_rfl) (by decide) (by decide)];rfl
 ·
  rw [key 6 26 (by kernel_rfl) (by decide) (by kernel_rfl) (by decide) (by decide)];rfl
 · rw [key 7 25 (by kernel_rfl) (by decide) (by kernel_rfl) (by decide) (by decide)];rfl
 ·
  rw [key 11 21 (by kernel_rfl) (by decide) (by kernel_rfl) (by decide) (by decide)];rfl
 · rw [key 13 19 (by kernel_rfl) (by decide) (by kernel_rfl) (by decide) (by decide)];rfl
 ·
  rw [key 17 15 (by kernel_rfl) (by decide) (by kernel_rfl) (by decide) (by decide)];rfl
 · rw [key 18 14 (by kernel_rfl) (by decide) (by kernel_rfl) (by decide) (by decide)];rfl
 ·
  rw [key 19 13 (by kernel_rfl) (by decide) (by kernel_rfl) (by decide) (by decide)];rfl
 · rw [key 22 10 (by kernel_rfl) (by decide) (by kernel_rfl) (by decide) (by decide)];rfl
 ·
  rw [key 25 7 (by kernel_rfl) (by decide) (by kernel_rfl) (by decide) (by decide)];rfl
/-- A whole row into a box. -/
theorem row_event {Pg:Program} {ops:Array Oper} {Q:Exit→Act→World→Prop} {rest:List Oper} {op:Oper} {a:Act} {W:World} (hgd:op.guard=none) (ty:TypeId) (x y:Operand) (ho:op.op = .store ty x y)
  (g:Nat) (cells:Array Value) (hx:a.eval x = .pointer (some ⟨g,0,none⟩)) (hy:a.eval y = .agg cells) {t:TypeId} {old:Array Value} (hg:W.heap[g]? = some (.cells old t (0,0)))
  (hi:(Pg.info? ty).map (·.size)=some cells.size) (hold:old.size=cells.size) (h1:cells.all (·.oneCell')=τ)
  (h:wpList Pg ops Q rest (a.put op.dst undef) (W.setRow g cells)):wpList Pg ops Q (op :: rest) a W :=
 wpList_plain hgd fun _ hK=>wp_store_row ty x y ho g cells hx hy t old hg hi hold h1 (hK _ _ h)
def impl_wordsOf.wd (b:ByteArray) (j:Int):Int:=Go.bits .or .u32 (Go.bits .or .u32 (Go.bits .or .u32 (bt b j % 4294967296 * 16777216 % 4294967296) (bt b (j+1) % 4294967296 * 65536 % 4294967296)) (bt b (j+2) % 4294967296 * 256 % 4294967296)) (bt b (j+3) % 4294967296)
def impl_wordsOf.sg (x:Int) (a b c:Int):Int:=Go.bits .xor .u32 (Go.bits .xor .u32 (turnV x a) (turnV x b)) (x / c)
def impl_wordsOf.at (b:ByteArray) (L:List Int) (i:Nat):Int:=if i<16 then impl_wordsOf.wd b (4 * (i:Int)) else (((rd L ((i:Int) - 16)+impl_wordsOf.sg (rd L ((i:Int) - 15)) 7 18 8) % 4294967296+rd L ((i:Int) - 7)) % 4294967296+impl_wordsOf.sg (rd L ((i:Int) - 2)) 17 19 1024) % 4294967296
def impl_wordsOf.upto (b:ByteArray):Nat→List Int
 | 0=>List.replicate 64 0
 | i+1=>(impl_wordsOf.upto b i).set i (impl_wordsOf.at b (impl_wordsOf.upto b i) i)
theorem impl_wordsOf.upto_len (b:ByteArray) : ∀ i,(impl_wordsOf.upto b i).length=64
 | 0=>rfl
 | i+1=>by unfold impl_wordsOf.upto;rw [List.length_set];exact impl_wordsOf.upto_len b i
def impl_wordsOf.T6:Bool × List (List Nat × List Nat):=(τ,[([],[]),([],[]),([],[]),([2],[2]),([1,3],[1,3]),([4],[4]),([5],[5]),([],[]),([],[]),([8],[8]),([9],[9]),([7,10],[7,10]),([11],[11]),([12],[12]),([6,13],[6,13]),([],[]),([],[]),([16],[16]),([17],[17]),([15,18],[15,18]),([19],[19]),([20],[20]),([14,21],[14,21]),([],[]),([],[]),([24],[24]),([25],[25]),([23,26],[23,26]),([27],[27]),([22,28],[22,28]),([0,0,1,2,3,4,5,6,7,8,9,10,11,12,13,14,15,16,17,18,19,20,21,22,23,24,25,26,27,28,29],[0]),([30,29,0,1,2,3,4,5,6,7,8,9,10,11,12,13,14,15,16,17,18,19,20,21,22,23,24,25,26,27,28,29],[29,30])])
def impl_wordsOf.B6:List Nat:=[0,0,0,4,14,30,62,0,0,256,768,1920,3968,8064,16382,0,0,65536,196608,491520,1015808,2064384,4194302,0,0,16777216,50331648,125829120,260046848,536870910,1073741823,2147483647]
theorem impl_wordsOf.tab6:rtab .any (opsOf Try.f111 6)=impl_wordsOf.T6:=by kernel_rfl
theorem impl_wordsOf.bits6:waitsOk impl_wordsOf.T6.2 impl_wordsOf.B6=τ:=by kernel_rfl
def impl_wordsOf.T10:Bool × List (List Nat × List Nat):=(τ,[([],[]),([],[]),([1],[1]),([2],[2]),([3],[3]),([],[]),([4,5],[4,5]),([],[]),([7],[7]),([8],[8]),([9],[9]),([6,10],[6,10]),([],[]),([11,12],[11,12]),([0,0,1,2,3,4,5,6,7,8,9,10,11,12,13],[0]),([14,13,0,1,2,3,4,5,6,7,8,9,10,11,12,13],[13,14])])
def impl_wordsOf.B10:List Nat:=[0,0,2,6,14,0,62,0,128,384,896,2046,0,8190,16383,32767]
theorem impl_wordsOf.tab10:rtab .any (opsOf Try.f111 10)=impl_wordsOf.T10:=by kernel_rfl
theorem impl_wordsOf.bits10:waitsOk impl_wordsOf.T10.2 impl_wordsOf.B10=τ:=by kernel_rfl
theorem impl_wordsOf.calls (b:ByteArray) (w:World) (hb:b.size=64) :
  Calls Try.prog 111 #[.string b] w fun e w'=>e = .returned (.agg ((impl_wordsOf.upto b 64).map (Value.int .u32)).toArray)∧Below w.heap.size w w':=by
 have hu:=Try.underlying116
 have HB:=ζa (Below.refl w.heap.size w)
 go_enter Try.func111,Try.ntmps111
 go_wp2_with (first
  | ((with_reducible refine δx (N:=2) rfl ?_);refine δz ?hg (N:=2) ?hd (cs:=(((List.replicate 64 (0:Int)).map (Value.int .u32)).toArray)) (t:=116) ?hr ?_;(case hd=>rfl);(case hg=>rfl);(case hr=>first|(go_simp;done)|(go_simp;rfl));intro gbp hg wp hbox hb;have GWp:=ζa ((by rw [hg];exact δs HB.out):w.heap.size≤gbp);replace HB:=ζa (δr (by repeat (first|exact HB.out|apply δk|apply δi|apply δj)) hb);have BKp:=ζa hbox;clear hb hbox hg)
  | ((with_reducible refine δx (N:=3) rfl ?_);refine δz ?hg (N:=3) ?hd (cs:=(((List.replicate 64 (0:Int)).map (Value.int .u32)).toArray)) (t:=116) ?hr ?_;(case hd=>rfl);(case hg=>rfl);(case hr=>first|(go_simp;done)|(go_simp;rfl));intro gbw hg ww hbox hb;have NE:=ζa (show gbw≠gbp by intro e;have:=blk_lt BKp.out;omega);have HB0:=HB;replace HB:=ζa (δr (by repeat (first|exact HB.out|apply δk|apply δi|apply δj)) hb);replace BKp:=ζa (blk_below BKp.out hb);have BKw:=ζa hbox;have GWw:=ζa ((by rw [hg];exact δs HB0.out):w.heap.size≤gbw);clear HB0;clear hb hbox hg)
  | ((with_reducible refine gate_store (t:=116) (p:=3) rfl ?_);refine row_event rfl 116 (.tmp 3) (.tmp 9) rfl gbw (((List.replicate 64 (0:Int)).map (Value.int .u32)).toArray) (by rfl) (by rfl) BKw.out (by kernel_rfl) (by rfl) (by kernel_rfl) ?_;have n0_:=ζa (setRow_below (cs:=(((List.replicate 64 (0:Int)).map (Value.int .u32)).toArray)) HB.out GWw.out);have n1_:=ζa (setRow_self (cs:=(((List.replicate 64 (0:Int)).map (Value.int .u32)).toArray)) BKw.out);have n2_:=ζa ((setRow_other (W:=ww) (cs:=(((List.replicate 64 (0:Int)).map (Value.int .u32)).toArray)) (show gbw≠gbp from NE.out)).trans BKp.out);clear HB BKw BKp;have HB:=n0_;have BKw:=n1_;have BKp:=n2_;clear n0_ n1_ n2_;generalize ww.setRow gbw (((List.replicate 64 (0:Int)).map (Value.int .u32)).toArray)=w2 at HB BKw BKp ⊢))
 go_loopg [10] 64 (fun kq v10 w' => ∃ i:Nat,v10 = .int .i64 (i:Int)∧Aside0 (i+kq=64)∧Aside0 (w'.heap[gbw]? = some (.cells (((impl_wordsOf.upto b i).map (Value.int .u32)).toArray) 116 (0,0)))∧Aside0 (w'.heap[gbp]? = some (.cells (((List.replicate 64 (0:Int)).map (Value.int .u32)).toArray) 116 (0,0)))∧Aside0 (Below w.heap.size w w'))
 case atStart=>exact ⟨0,rfl,⟨rfl⟩,BKw,BKp,HB⟩
 case round =>
  clear BKw BKp HB
  obtain ⟨i,rfl,HI,BKw,BKp,HB⟩:=hrel
  cases gk with
  | zero =>
   have hi:i=64:=HI.out
   subst hi
   have hsz:some 64=some ((((impl_wordsOf.upto b 64).map (Value.int .u32)).toArray).size):=by rw [arr_size,impl_wordsOf.upto_len]
   go_wp2_with (first
    | ((with_reducible refine δx (N:=86) rfl ?_);refine wpList_load_row rfl 116 (.tmp 3) rfl gbw (by rfl) _ _ (0,0) _ BKw.out hu rfl ((show _=some 64 from by kernel_rfl).trans hsz) ?_)
    | ((with_reducible refine gate_store (t:=116) (p:=2) rfl ?_);refine row_event rfl 116 (.tmp 2) (.tmp 86) rfl gbp _ (by rfl) (by rfl) BKp.out ((show _=some 64 from by kernel_rfl).trans hsz) (by rw [arr_size,arr_size,impl_wordsOf.upto_len];rfl) arr_one ?_))
   refine bodyPost_ret (results_cell_row rfl _ _ gbp 116 _ (0,0) _ rfl (setRow_self BKp.out) hu rfl ((show _=some 64 from by kernel_rfl).trans hsz)) rfl ?_
   exact ⟨rfl,setRow_below HB.out GWp.out⟩
  | succ k1 =>
   have hi:=HI.out
   have hi64:(i:Int)<64:=by omega
   have c64:decide ((i:Int)<64)=τ:=decide_eq_true hi64
   have hz0:decide (0≤(i:Int))=τ:=decide_eq_true (by omega)
   have x64:((i:Int)<64)=True:=eq_true hi64
   have inc:ζm ((i:Int)+1)=((i+1:Nat):Int):=by rw [IntWalk.wrap64_in _ ⟨by omega,by omega⟩];rfl
   have INC:=ζa inc
   clear inc
   clear hi
   by_cases h16:(i:Int)<16
   ·
    have c16:decide ((i:Int)<16)=τ:=decide_eq_true h16
    obtain ⟨m0,hm0⟩ : ∃ j_:Int,ζm (4 * (i:Int))=j_:=⟨_,rfl⟩
    obtain ⟨m1,hm1⟩ : ∃ j_:Int,ζm (m0+1)=j_:=⟨_,rfl⟩
    obtain ⟨m2,hm2⟩ : ∃ j_:Int,ζm (m0+2)=j_:=⟨_,rfl⟩
    obtain ⟨m3,hm3⟩ : ∃ j_:Int,ζm (m0+3)=j_:=⟨_,rfl⟩
    have e0:m0=4 * (i:Int):=by rw [← hm0];exact IntWalk.wrap64_in _ ⟨by omega,by omega⟩
    have e1:m1=4 * (i:Int)+1:=by rw [← hm1,e0];exact IntWalk.wrap64_in _ ⟨by omega,by omega⟩
    have e2:m2=4 * (i:Int)+2:=by rw [← hm2,e0];exact IntWalk.wrap64_in _ ⟨by omega,by omega⟩
    have e3:m3=4 * (i:Int)+3:=by rw [← hm3,e0];exact IntWalk.wrap64_in _ ⟨by omega,by omega⟩
    have p0:(0≤m0)=True:=eq_true (by omega)
    have p1:(0≤m1)=True:=eq_true (by omega)
    have p2:(0≤m2)=True:=eq_true (by omega)
    have p3:(0≤m3)=True:=eq_true (by omega)
    have q0:(m0<64)=True:=eq_true (by omega)
    have q1:(m1<64)=True:=eq_true (by omega)
    have q2:(m2<64)=True:=eq_true (by omega)
    have q3:(m3<64)=True:=eq_true (by omega)
    have b0:=bt_at b m0
    have b1:=bt_at b m1
    have b2:=bt_at b m2
    have b3:=bt_at b m3
    have EE:=ζa (And.intro e0 (And.intro e1 (And.intro e2 e3)))
    have HH:=ζa h16
    have H64:=ζa hi64
    clear h16 hi64 e0 e1 e2 e3
    go_upto_region 6 with (fail)
    try go_wp2
    have n0_:=ζa (δp BKw.out)
    have n1_:=ζa (δp BKp.out)
    have n2_:=ζa (δj HB.out)
    clear BKw BKp HB
    have BKw:=n0_
    have BKp:=n1_
    have HB:=n2_
    clear n0_ n1_ n2_
    refine sta 32 (fun w'=>True) [] impl_wordsOf.tab6 impl_wordsOf.bits6 ⟨⟩ (fun hHeld HT_ HW_ => ?_)
    generalize wr.drew=wd_ at BKw BKp HB ⊢
    refine pu 0 15 ?_
    refine pu 1 16 ?_
    refine pu 2 17 ?_
    refine pu 3 18 ?_
    refine pu 4 19 ?_
    refine pu 5 20 ?_
    refine pu 6 21 ?_
    refine pu 7 22 ?_
    refine pu 8 23 ?_
    refine pu 9 24 ?_
    refine pu 10 25 ?_
    refine pu 11 26 ?_
    refine pu 12 27 ?_
    refine pu 13 28 ?_
    refine pu 14 29 ?_
    refine pu 15 30 ?_
    refine pu 16 31 ?_
    refine pu 17 32 ?_
    refine pu 18 33 ?_
    refine pu 19 34 ?_
    refine pu 20 35 ?_
    refine pu 21 36 ?_
    refine pu 22 37 ?_
    refine pu 23 38 ?_
    refine pu 24 39 ?_
    refine pu 25 40 ?_
    refine pu 26 41 ?_
    refine pu 27 42 ?_
    refine pu 28 43 ?_
    refine pu 29 44 ?_
    refine pu 30 45 ?_
    refine one_ (i:=31) (N:=none) #[τ,τ,τ,τ,τ,τ,τ,τ,τ,τ,τ,τ,τ,τ,τ,τ,τ,τ,τ,τ,τ,τ,τ,τ,τ,τ,τ,τ,τ,τ,τ,τ] rfl rfl (one_of HT_.out (by kernel_rfl)) (by decide) (fun K hK => ?_)
    have hs:=(δl BKw.out i).trans (arr_get (by rw [impl_wordsOf.upto_len];have:=HI.out;omega))
    have hf:=δm BKw.out i
    refine skip_ (w1:=?_) (by rfl) rfl ?_ ?_
    rotate_left
    ·
     go_simp
     rfl
    refine hK.out _ _ ⟨⟩ (fun hHeld => ?_)
    clear hK K
    refine done_ (done_of HT_.out (by kernel_rfl)) ?_
    go_wp2
    go_roundg k1
    case measure=>omega
    case rel =>
     refine ⟨i+1,by rw [INC.out],⟨by have:=HI.out;omega⟩,⟨δw BKw.out i _ ?_⟩,⟨(Below.heap_setCell _ ⟨gbw,i,none⟩ _ gbp (fun e=>NE.out e.symm)).trans BKp.out⟩,⟨δq HB.out GWw.out⟩⟩
     rw [arr_set]
     obtain ⟨e0,e1,e2,e3⟩:=EE.out
     show _=(((impl_wordsOf.upto b i).set i (impl_wordsOf.at b (impl_wordsOf.upto b i) i)).map (Value.int .u32)).toArray
     unfold impl_wordsOf.at impl_wordsOf.wd
     rw [if_pos (by have:=HH.out;omega),e0,e1,e2,e3]
   ·
    have c16:decide ((i:Int)<16)=φ:=decide_eq_false h16
    have L64:=impl_wordsOf.upto_len b i
    obtain ⟨n16,hn16,N16⟩ : ∃ n:Nat,ζm ((i:Int) - 16)=(n:Int)∧Aside0 (n+16=i):=⟨i - 16,by rw [IntWalk.wrap64_in _ ⟨by omega,by omega⟩];omega,⟨by omega⟩⟩
    obtain ⟨n15,hn15,N15⟩ : ∃ n:Nat,ζm ((i:Int) - 15)=(n:Int)∧Aside0 (n+15=i):=⟨i - 15,by rw [IntWalk.wrap64_in _ ⟨by omega,by omega⟩];omega,⟨by omega⟩⟩
    obtain ⟨n7,hn7,N7⟩ : ∃ n:Nat,ζm ((i:Int) - 7)=(n:Int)∧Aside0 (n+7=i):=⟨i - 7,by rw [IntWalk.wrap64_in _ ⟨by omega,by omega⟩];omega,⟨by omega⟩⟩
    obtain ⟨n2,hn2,N2⟩ : ∃ n:Nat,ζm ((i:Int) - 2)=(n:Int)∧Aside0 (n+2=i):=⟨i - 2,by rw [IntWalk.wrap64_in _ ⟨by omega,by omega⟩];omega,⟨by omega⟩⟩
    have x16:((n16:Int)<64)=True:=eq_true (by have:=N16.out;omega)
    have x15:((n15:Int)<64)=True:=eq_true (by have:=N15.out;omega)
    have x7:((n7:Int)<64)=True:=eq_true (by have:=N7.out;omega)
    have x2:((n2:Int)<64)=True:=eq_true (by have:=N2.out;omega)
    have z16:(0≤(n16:Int))=True:=eq_true (by omega)
    have z15:(0≤(n15:Int))=True:=eq_true (by omega)
    have z7:(0≤(n7:Int))=True:=eq_true (by omega)
    have z2:(0≤(n2:Int))=True:=eq_true (by omega)
    have v15:=(δl BKw.out n15).trans (arr_get (by rw [L64];have:=N15.out;omega))
    have v2:=(δl BKw.out n2).trans (arr_get (by rw [L64];have:=N2.out;omega))
    have H64:=ζa hi64
    have LL:=ζa L64
    have HH:=ζa h16
    clear h16 hi64 L64
    go_upto_region 7 with (fail)
    go_quiet (fail)
    go_wp2_with (first
     | ((with_reducible refine δx (N:=55) rfl ?_);refine goesL_ (some 55) rfl rfl Try.func112 (by kernel_rfl) rfl #[.int .u32 (rd (impl_wordsOf.upto b i) (n15:Int)),.int .i64 7] rfl (by (try simp only [δd,δe,δf]);first|done|rfl) ?_;(with_reducible refine (impl_turned.calls (rd (impl_wordsOf.upto b i) (n15:Int)) 7 _ _ (turn_at (rd (impl_wordsOf.upto b i) (n15:Int)) 7 (by decide))).mono ?_);rintro e w_ ⟨rfl,⟨nd55,rfl⟩⟩;refine ⟨_,rfl,?_⟩)
     | ((with_reducible refine δx (N:=57) rfl ?_);refine goesL_ (some 57) rfl rfl Try.func112 (by kernel_rfl) rfl #[.int .u32 (rd (impl_wordsOf.upto b i) (n15:Int)),.int .i64 18] rfl (by (try simp only [δd,δe,δf]);first|done|rfl) ?_;(with_reducible refine (impl_turned.calls (rd (impl_wordsOf.upto b i) (n15:Int)) 18 _ _ (turn_at (rd (impl_wordsOf.upto b i) (n15:Int)) 18 (by decide))).mono ?_);rintro e w_ ⟨rfl,⟨nd57,rfl⟩⟩;refine ⟨_,rfl,?_⟩)
     | ((with_reducible refine δx (N:=63) rfl ?_);refine goesL_ (some 63) rfl rfl Try.func112 (by kernel_rfl) rfl #[.int .u32 (rd (impl_wordsOf.upto b i) (n2:Int)),.int .i64 17] rfl (by (try simp only [δd,δe,δf]);first|done|rfl) ?_;(with_reducible refine (impl_turned.calls (rd (impl_wordsOf.upto b i) (n2:Int)) 17 _ _ (turn_at (rd (impl_wordsOf.upto b i) (n2:Int)) 17 (by decide))).mono ?_);rintro e w_ ⟨rfl,⟨nd63,rfl⟩⟩;refine ⟨_,rfl,?_⟩)
     | ((with_reducible refine δx (N:=65) rfl ?_);refine goesL_ (some 65) rfl rfl Try.func112 (by kernel_rfl) rfl #[.int .u32 (rd (impl_wordsOf.upto b i) (n2:Int)),.int .i64 19] rfl (by (try simp only [δd,δe,δf]);first|done|rfl) ?_;(with_reducible refine (impl_turned.calls (rd (impl_wordsOf.upto b i) (n2:Int)) 19 _ _ (turn_at (rd (impl_wordsOf.upto b i) (n2:Int)) 19 (by decide))).mono ?_);rintro e w_ ⟨rfl,⟨nd65,rfl⟩⟩;refine ⟨_,rfl,?_⟩))
    have n0_:=ζa (δn BKw.out (nq+nd55+nd57+nd63+nd65))
    have n1_:=ζa (δn BKp.out (nq+nd55+nd57+nd63+nd65))
    have n2_:Aside0 (Below w.heap.size w (wr.drewN (nq+nd55+nd57+nd63+nd65))):=⟨by apply δi;exact HB.out⟩
    clear BKw BKp HB v15 v2
    generalize wr.drewN (nq+nd55+nd57+nd63+nd65)=wn at n0_ n1_ n2_ ⊢
    have BKw:=n0_
    have BKp:=n1_
    have HB:=n2_
    clear n0_ n1_ n2_
    try go_wp2
    have n0_:=ζa (δp BKw.out)
    have n1_:=ζa (δp BKp.out)
    have n2_:=ζa (δj HB.out)
    clear BKw BKp HB
    have BKw:=n0_
    have BKp:=n1_
    have HB:=n2_
    clear n0_ n1_ n2_
    refine sta 16 (fun w'=>w'.cell? ⟨gbw,n16,none⟩=some (.int .u32 (rd (impl_wordsOf.upto b i) (n16:Int)))∧w'.cell? ⟨gbw,n7,none⟩=some (.int .u32 (rd (impl_wordsOf.upto b i) (n7:Int)))) [] impl_wordsOf.tab10 impl_wordsOf.bits10 ⟨(δl BKw.out n16).trans (arr_get (by rw [impl_wordsOf.upto_len];have:=N16.out;have:=H64.out;omega)),(δl BKw.out n7).trans (arr_get (by rw [impl_wordsOf.upto_len];have:=N7.out;have:=H64.out;omega))⟩ (fun hHeld HT_ HW_ => ?_)
    generalize wn.drew=wd_ at BKw BKp HB hHeld ⊢
    refine pu 0 70 ?_
    refine pu 1 71 ?_
    refine pu 2 72 ?_
    refine pu 3 73 ?_
    refine ta 4 74 ?_
    refine pu 5 75 ?_
    refine pu 6 76 ?_
    refine pu 7 77 ?_
    refine pu 8 78 ?_
    refine pu 9 79 ?_
    refine ta 10 80 ?_
    refine pu 11 81 ?_
    refine pu 12 82 ?_
    refine pu 13 83 ?_
    refine pu 14 84 ?_
    refine one_ (i:=15) (N:=none) #[τ,τ,τ,τ,τ,τ,τ,τ,τ,τ,τ,τ,τ,τ,τ,τ] rfl rfl (one_of HT_.out (by kernel_rfl)) (by decide) (fun K hK => ?_)
    have hs:=(δl BKw.out i).trans (arr_get (by rw [impl_wordsOf.upto_len];have:=H64.out;omega))
    have hf:=δm BKw.out i
    refine skip_ (w1:=?_) (by rfl) rfl ?_ ?_
    rotate_left
    ·
     go_simp
     rfl
    refine hK.out _ _ ⟨arr_keep BKw.out (by have:=N16.out;omega) (by rw [impl_wordsOf.upto_len];have:=N16.out;have:=H64.out;omega),arr_keep BKw.out (by have:=N7.out;omega) (by rw [impl_wordsOf.upto_len];have:=N7.out;have:=H64.out;omega)⟩ (fun hHeld => ?_)
    clear hK K
    refine done_ (done_of HT_.out (by kernel_rfl)) ?_
    go_wp2
    go_roundg k1
    case measure=>omega
    case rel =>
     refine ⟨i+1,by rw [INC.out],⟨by have:=HI.out;omega⟩,⟨δw BKw.out i _ ?_⟩,⟨(Below.heap_setCell _ ⟨gbw,i,none⟩ _ gbp (fun e=>NE.out e.symm)).trans BKp.out⟩,⟨δq HB.out GWw.out⟩⟩
     rw [arr_set]
     show _=(((impl_wordsOf.upto b i).set i (impl_wordsOf.at b (impl_wordsOf.upto b i) i)).map (Value.int .u32)).toArray
     unfold impl_wordsOf.at impl_wordsOf.sg
     rw [if_neg (by have:=HH.out;omega),show (i:Int) - 16=(n16:Int) by have:=N16.out;omega,show (i:Int) - 15=(n15:Int) by have:=N15.out;omega,show (i:Int) - 7=(n7:Int) by have:=N7.out;omega,show (i:Int) - 2=(n2:Int) by have:=N2.out;omega]


open Go.Proofs.YtggemblkhckbpaaW.PrintWords renaming gate_dst → δx, box_event → δz, below_size → δs, below_alloc → δk, pw_below_drewN → δi, below_drew1 → δj, below_step → δr, blk_drew → δp, blk_cell → δl, blk_frozen → δm, blk_put → δw, below_set → δq, blk_drewN → δn
open Go.Act renaming put → ζl
open List renaming setIfInBounds_toArray → δa, set_cons_zero → δb, set_cons_succ → δc, map_toArray → δd, map_cons → δe, map_nil → δf
set_option maxHeartbeats 8000000
set_option maxRecDepth 100000


/-! ### impl_blockHash: function 88 -/
def impl_blockHash.p5 (K W v:List Int) (i:Nat):Int:=rd v 7+Go.bits .xor .u32 (Go.bits .xor .u32 (turnV (rd v 4) 6) (turnV (rd v 4) 11)) (turnV (rd v 4) 25)+Go.bits .or .u32 (Go.bits .and .u32 (rd v 4) (rd v 5)) (Go.bits .and .u32 (Go.bits .xor .u32 IntKind.u32.max (rd v 4)) (rd v 6))+rd K (i:Int)+rd W (i:Int)
def impl_blockHash.q5 (v:List Int):Int:=Go.bits .xor .u32 (Go.bits .xor .u32 (turnV (rd v 0) 2) (turnV (rd v 0) 13)) (turnV (rd v 0) 22)+Go.bits .or .u32 (Go.bits .or .u32 (Go.bits .and .u32 (rd v 0) (rd v 1)) (Go.bits .and .u32 (rd v 0) (rd v 2))) (Go.bits .and .u32 (rd v 1) (rd v 2))
def impl_blockHash.step (K W v:List Int) (i:Nat):List Int:=[(impl_blockHash.p5 K W v i+impl_blockHash.q5 v) % 4294967296,rd v 0,rd v 1,rd v 2,(rd v 3+impl_blockHash.p5 K W v i) % 4294967296,rd v 4,rd v 5,rd v 6]
def impl_blockHash.rounds (K W v0:List Int):Nat→List Int
 | 0=>v0
 | i+1=>impl_blockHash.step K W (impl_blockHash.rounds K W v0 i) i
theorem impl_blockHash.rounds_len (K W v0:List Int) (h:v0.length=8) : ∀ i,(impl_blockHash.rounds K W v0 i).length=8
 | 0=>h
 | i+1=>rfl
def impl_blockHash.adds (v0 words:List Int):Nat→List Int
 | 0=>v0
 | i+1=>(impl_blockHash.adds v0 words i).set i ((rd (impl_blockHash.adds v0 words i) (i:Int)+rd words (i:Int)) % 4294967296)
theorem impl_blockHash.adds_len (v0 words:List Int) : ∀ i,(impl_blockHash.adds v0 words i).length=v0.length
 | 0=>rfl
 | i+1=>by unfold impl_blockHash.adds;rw [List.length_set];exact impl_blockHash.adds_len v0 words i
def impl_blockHash.out (words kk:List Int) (block:ByteArray):List Int:=impl_blockHash.adds (impl_blockHash.rounds kk (impl_wordsOf.upto block 64) words 64) words 8
theorem row_event2 {Pg:Program} {ops:Array Oper} {Q:Exit→Act→World→Prop} {rest:List Oper} {op:Oper} {a:Act} {W:World} (hgd:op.guard=none) (ty:TypeId) (x y:Operand) (ho:op.op = .store ty x y)
  (g:Nat) (cells:Array Value) (hx:a.eval x = .pointer (some ⟨g,0,none⟩)) (hy:a.eval y = .agg cells) {t:TypeId} {old:Array Value} (hg:W.heap[g]? = some (.cells old t (0,0)))
  (hi:(Pg.info? ty).map (·.size)=some cells.size) (hold:old.size=cells.size) (h1:cells.all (·.oneCell')=τ)
  (h : ∀ w1,w1=W.setRow g cells→wpList Pg ops Q rest (a.put op.dst undef) w1):wpList Pg ops Q (op :: rest) a W:=row_event hgd ty x y ho g cells hx hy hg hi hold h1 (h _ rfl)
theorem impl_blockHash.exec_load {Pg:Program} {a:Act} {op:Oper} {ty:TypeId} {x:Operand} (ho:op.op = .load ty x) {g:Nat} (hx:a.eval x = .pointer (some ⟨g,0,none⟩)) {W:World} {t:TypeId} {cs:Array Value} {fr:Nat × Nat} {d:TypeDesc} (hg:W.heap[g]? = some (.cells cs t fr))
  (hu:Pg.underlying ty=some d) (hd:(match d with | .struct _ | .array _ _=>τ|_=>φ)=τ) (hi:(Pg.info? ty).map (·.size)=some cs.size):(execOp a.eval op).run Pg W = .ok (.value (.agg cs)) W:=by
 unfold execOp
 simp only [ho,hx,Instr.loadAt,Instr.sureAddr,Sem.run_bind,Sem.run_pure,Result.andThen_ok,run_loadVar_row W g t ty cs fr d hg hu hd hi]
theorem impl_blockHash.exec_store {Pg:Program} {a:Act} {op:Oper} {ty:TypeId} {x y:Operand} (ho:op.op = .store ty x y) {g:Nat} (hx:a.eval x = .pointer (some ⟨g,0,none⟩)) {cells:Array Value} (hy:a.eval y = .agg cells) {W:World} {t:TypeId} {old:Array Value} (hg:W.heap[g]? = some (.cells old t (0,0)))
  (hi:(Pg.info? ty).map (·.size)=some cells.size) (hold:old.size=cells.size) (h1:cells.all (·.oneCell')=τ):(execOp a.eval op).run Pg W = .ok .skip (W.setRow g cells):=by
 unfold execOp
 simp only [ho,hx,hy,Instr.storeAt,Instr.sureAddr,Sem.run_bind,Sem.run_pure,Result.andThen_ok,run_storeVar_row W g t ty old cells hg hi hold h1]
def impl_blockHash.T1:Bool × List (List Nat × List Nat):=(τ,[([],[]),([],[]),([1],[1]),([],[]),([],[]),([3,0,2,0,3,4],[0,3]),([4,2,5,0,1,2,3,4,5],[2,4])])
def impl_blockHash.B1:List Nat:=[0,0,2,0,0,31,63]
theorem impl_blockHash.tab1:rtab .any (opsOf Try.f88 1)=impl_blockHash.T1:=by kernel_rfl
theorem impl_blockHash.bits1:waitsOk impl_blockHash.T1.2 impl_blockHash.B1=τ:=by kernel_rfl
def impl_blockHash.T13:Bool × List (List Nat × List Nat):=(τ,[([],[]),([0],[0]),([1],[1]),([],[]),([3],[3]),([4],[4]),([2,5],[2,5]),([0,0,1,2,3,4,5,6],[0]),([7,6,0,1,2,3,4,5,6],[6,7])])
def impl_blockHash.B13:List Nat:=[0,1,3,0,8,24,63,127,255]
theorem impl_blockHash.tab13:rtab .any (opsOf Try.f88 13)=impl_blockHash.T13:=by kernel_rfl
theorem impl_blockHash.bits13:waitsOk impl_blockHash.T13.2 impl_blockHash.B13=τ:=by kernel_rfl
theorem impl_blockHash.calls (words kk:List Int) (block:ByteArray) (w:World) (hw8:words.length=8) (hk64:kk.length=64) (hbs:block.size=64) :
  Calls Try.prog 88 #[.agg ((words.map (Value.int .u32)).toArray),.agg ((kk.map (Value.int .u32)).toArray),.string block] w fun e w'=>e = .returned (.agg ((impl_blockHash.out words kk block).map (Value.int .u32)).toArray)∧Below w.heap.size w w':=by
 have hu8:=Try.underlying114
 have hu64:=Try.underlying116
 have SW:=ζa (show ((words.map (Value.int .u32)).toArray).size=8 by rw [arr_size,hw8])
 have SK:=ζa (show ((kk.map (Value.int .u32)).toArray).size=64 by rw [arr_size,hk64])
 obtain ⟨W64,hW64⟩ : ∃ l:List Int,l=impl_wordsOf.upto block 64:=⟨_,rfl⟩
 have L64:W64.length=64:=by rw [hW64];exact impl_wordsOf.upto_len block 64
 have S64:=ζa (show ((W64.map (Value.int .u32)).toArray).size=64 by rw [arr_size,L64])
 have HC:Aside0 (∀ w:World,Calls Try.prog 111 #[.string block] w fun e w'=>e = .returned (.agg (W64.map (Value.int .u32)).toArray)∧Below w.heap.size w w'):=⟨fun w=>by rw [hW64];exact impl_wordsOf.calls block w hbs⟩
 have HW64:=ζa hW64
 have HL64:=ζa L64
 clear hW64 L64 hbs
 have HB:=ζa (Below.refl w.heap.size w)
 have HW8:=ζa hw8
 have HK64:=ζa hk64
 clear hw8 hk64
 go_enter Try.func88,Try.ntmps88
 go_upto_region 1 with (first
  | ((with_reducible refine δx (N:=3) rfl ?_);refine δz ?hg (N:=3) ?hd (cs:=((words.map (Value.int .u32)).toArray)) (t:=114) ?hr ?_;(case hd=>rfl);(case hg=>rfl);(case hr=>first|(go_simp;done)|(go_simp;rfl));intro g3 hg w_ hbox hb;have G3:=ζa ((by rw [hg];exact δs (show Below w.heap.size w _ from by repeat (first|exact HB.out|apply δk|apply δi|apply δj))):w.heap.size≤g3);replace HB:=ζa (δr (by repeat (first|exact HB.out|apply δk|apply δi|apply δj)) hb);have B3:=ζa hbox;clear hb hbox hg)
  | ((with_reducible refine δx (N:=4) rfl ?_);refine δz ?hg (N:=4) ?hd (cs:=((kk.map (Value.int .u32)).toArray)) (t:=116) ?hr ?_;(case hd=>rfl);(case hg=>rfl);(case hr=>first|(go_simp;done)|(go_simp;rfl));intro g4 hg w_ hbox hb;have G4:=ζa ((by rw [hg];exact δs (show Below w.heap.size w _ from by repeat (first|exact HB.out|apply δk|apply δi|apply δj))):w.heap.size≤g4);have n0_:=ζa (blk_below B3.out hb);have n1_:=ζa (δr (by repeat (first|exact HB.out|apply δk|apply δi|apply δj)) hb);clear B3 HB;have B3:=n0_;have HB:=n1_;clear n0_ n1_;have B4:=ζa hbox;clear hb hbox hg)
  | ((with_reducible refine δx (N:=6) rfl ?_);refine δz ?hg (N:=6) ?hd (cs:=(((List.replicate 8 (0:Int)).map (Value.int .u32)).toArray)) (t:=114) ?hr ?_;(case hd=>rfl);(case hg=>rfl);(case hr=>first|(go_simp;done)|(go_simp;rfl));intro g6 hg w_ hbox hb;have G6:=ζa ((by rw [hg];exact δs (show Below w.heap.size w _ from by repeat (first|exact HB.out|apply δk|apply δi|apply δj))):w.heap.size≤g6);have N63:=ζa (show g6≠g3 by rw [hg];exact Nat.ne_of_gt (blk_lt B3.out));have n0_:=ζa (blk_below B3.out hb);have n1_:=ζa (blk_below B4.out hb);have n2_:=ζa (δr (by repeat (first|exact HB.out|apply δk|apply δi|apply δj)) hb);clear B3 B4 HB;have B3:=n0_;have B4:=n1_;have HB:=n2_;clear n0_ n1_ n2_;have B6:=ζa hbox;clear hb hbox hg))
 try go_wp2
 have n0_:=ζa (δp B3.out)
 have n1_:=ζa (δp B4.out)
 have n2_:=ζa (δp B6.out)
 clear B3 B4 B6
 have B3:=n0_
 have B4:=n1_
 have B6:=n2_
 clear n0_ n1_ n2_
 replace HB:=ζa (δj HB.out)
 refine sta 7 (fun w'=>w'.heap[g3]? = some (.cells ((words.map (Value.int .u32)).toArray) 114 (0,0))) [] impl_blockHash.tab1 impl_blockHash.bits1 B3.out (fun hHeld HT_ HW_ => ?_)
 generalize w_.drew=wd_ at B3 B4 B6 HB hHeld ⊢
 refine pu 1 20 ?_
 refine take_ (i:=0) (N:=some 19) (v:=?_) (a':=?_) #[τ,τ,φ,φ,φ,φ,φ] rfl rfl (take_ofW HT_.out HW_.out (by kernel_rfl)) (fun _ _ _ h=>h) (Or.inl ⟨by rfl,?_⟩) hHeld ?_ ?_
 rotate_left
 ·
  intro w' s0
  refine impl_blockHash.exec_load (ty:=114) (x:=.tmp 3) ?_ ?_ s0 hu8 rfl ((show _=some 8 from by kernel_rfl).trans (congrArg some SW.out.symm))
  · rfl
  ·
   rfl
 rotate_left
 · simp only [ζl,δa,δb,δc,i64_w,i32_w];rfl
 refine join_ (σ:=Nat × Nat) 2 #[τ,τ,τ,τ,τ,φ,φ] (fun s_ => [(21,.agg ((W64.map (Value.int .u32)).toArray)),(7,.pointer (some ⟨s_.1,0,none⟩)),(8,.pointer (some ⟨s_.2,0,none⟩))]) (fun s_ w'=>(w'.heap[g3]? = some (.cells ((words.map (Value.int .u32)).toArray) 114 (0,0)))∧(w'.heap[g4]? = some (.cells ((kk.map (Value.int .u32)).toArray) 116 (0,0)))∧(w'.heap[g6]? = some (.cells (((List.replicate 8 (0:Int)).map (Value.int .u32)).toArray) 114 (0,0)))∧(w'.heap[s_.1]? = some (.cells (((List.replicate 8 (0:Int)).map (Value.int .u32)).toArray) 114 (0,0)))∧(w'.heap[s_.2]? = some (.cells (((List.replicate 64 (0:Int)).map (Value.int .u32)).toArray) 116 (0,0)))∧(w.heap.size≤s_.1)∧(w.heap.size≤s_.2)∧(s_.1≠g3)∧(s_.1≠g6)∧(s_.2≠g4)∧(Below w.heap.size w w')) ?_ ?_
 rotate_left
 ·
  intro hCont
  refine three_ (i:=2) (j:=3) (k:=4) (Ni:=some 21) (Nj:=some 7) (Nk:=some 8) #[τ,τ,τ,φ,φ,φ,φ] #[τ,τ,φ,τ,φ,φ,φ] #[τ,τ,φ,φ,τ,φ,φ] rfl rfl rfl rfl rfl rfl (three_of HT_.out (by kernel_rfl)) (by decide) (by decide) (by decide) (fun K hK => ?_) (fun K hK => ?_) (fun K hK => ?_)
  ·
   skip
   refine gs Try.func111 #[.string block] ?_
   with_reducible refine (HC.out _).mono ?_
   rintro e w_ ⟨rfl,hb⟩
   refine ⟨_,rfl,?_⟩
   have n0_:=ζa (blk_below B3.out hb)
   have n1_:=ζa (blk_below B4.out hb)
   have n2_:=ζa (blk_below B6.out hb)
   have n3_:=ζa (δr (by repeat (exact HB.out)) hb)
   clear B3 B4 B6 HB
   have B3:=n0_
   have B4:=n1_
   have B6:=n2_
   have HB:=n3_
   clear n0_ n1_ n2_ n3_
   clear hb
   refine hK.out _ _ B3.out (fun hHeld => ?_)
   clear hK K
   refine nm 21 ?_
   refine tw 3 4 7 8 (fun K hK => ?_) (fun K hK => ?_)
   ·
    skip
    refine box_step ?hg (N:=7) ?hd (cs:=(((List.replicate 8 (0:Int)).map (Value.int .u32)).toArray)) (t:=114) ?hr ?_
    (case hd=>rfl)
    (case hg=>rfl)
    (case hr=>(go_simp;done))
    intro g7 hg w_ hbox hb
    have G7:=ζa ((by rw [hg];exact δs (show Below w.heap.size w _ from by repeat (exact HB.out))):w.heap.size≤g7)
    have N73:=ζa (show g7≠g3 by rw [hg];exact Nat.ne_of_gt (blk_lt B3.out))
    have N76:=ζa (show g7≠g6 by rw [hg];exact Nat.ne_of_gt (blk_lt B6.out))
    have n0_:=ζa (blk_below B3.out hb)
    have n1_:=ζa (blk_below B4.out hb)
    have n2_:=ζa (blk_below B6.out hb)
    have n3_:=ζa (δr (by repeat (exact HB.out)) hb)
    clear B3 B4 B6 HB
    have B3:=n0_
    have B4:=n1_
    have B6:=n2_
    have HB:=n3_
    clear n0_ n1_ n2_ n3_
    have B7:=ζa hbox
    clear hb hbox hg
    refine hK.out _ _ B3.out (fun hHeld => ?_)
    clear hK K
    refine nm 7 ?_
    refine on 4 8 (fun K hK => ?_)
    refine box_step ?hg (N:=8) ?hd (cs:=(((List.replicate 64 (0:Int)).map (Value.int .u32)).toArray)) (t:=116) ?hr ?_
    (case hd=>rfl)
    (case hg=>rfl)
    (case hr=>(go_simp;done))
    intro g8 hg w_ hbox hb
    have G8:=ζa ((by rw [hg];exact δs (show Below w.heap.size w _ from by repeat (exact HB.out))):w.heap.size≤g8)
    have N84:=ζa (show g8≠g4 by rw [hg];exact Nat.ne_of_gt (blk_lt B4.out))
    have n0_:=ζa (blk_below B3.out hb)
    have n1_:=ζa (blk_below B4.out hb)
    have n2_:=ζa (blk_below B6.out hb)
    have n3_:=ζa (blk_below B7.out hb)
    have n4_:=ζa (δr (by repeat (exact HB.out)) hb)
    clear B3 B4 B6 B7 HB
    have B3:=n0_
    have B4:=n1_
    have B6:=n2_
    have B7:=n3_
    have HB:=n4_
    clear n0_ n1_ n2_ n3_ n4_
    have B8:=ζa hbox
    clear hb hbox hg
    refine hK.out _ _ B3.out (fun hHeld => ?_)
    clear hK K
    refine nm 8 ?_
    exact norm_ (by simp only [putAll,ζl,δa,δb,δc]) (hCont (g7,g8) _ ⟨B3.out,B4.out,B6.out,B7.out,B8.out,G7.out,G8.out,N73.out,N76.out,N84.out,HB.out⟩)
   ·
    skip
    refine box_step ?hg (N:=8) ?hd (cs:=(((List.replicate 64 (0:Int)).map (Value.int .u32)).toArray)) (t:=116) ?hr ?_
    (case hd=>rfl)
    (case hg=>rfl)
    (case hr=>(go_simp;done))
    intro g8 hg w_ hbox hb
    have G8:=ζa ((by rw [hg];exact δs (show Below w.heap.size w _ from by repeat (exact HB.out))):w.heap.size≤g8)
    have N84:=ζa (show g8≠g4 by rw [hg];exact Nat.ne_of_gt (blk_lt B4.out))
    have n0_:=ζa (blk_below B3.out hb)
    have n1_:=ζa (blk_below B4.out hb)
    have n2_:=ζa (blk_below B6.out hb)
    have n3_:=ζa (δr (by repeat (exact HB.out)) hb)
    clear B3 B4 B6 HB
    have B3:=n0_
    have B4:=n1_
    have B6:=n2_
    have HB:=n3_
    clear n0_ n1_ n2_ n3_
    have B8:=ζa hbox
    clear hb hbox hg
    refine hK.out _ _ B3.out (fun hHeld => ?_)
    clear hK K
    refine nm 8 ?_
    refine on 3 7 (fun K hK => ?_)
    refine box_step ?hg (N:=7) ?hd (cs:=(((List.replicate 8 (0:Int)).map (Value.int .u32)).toArray)) (t:=114) ?hr ?_
    (case hd=>rfl)
    (case hg=>rfl)
    (case hr=>(go_simp;done))
    intro g7 hg w_ hbox hb
    have G7:=ζa ((by rw [hg];exact δs (show Below w.heap.size w _ from by repeat (exact HB.out))):w.heap.size≤g7)
    have N73:=ζa (show g7≠g3 by rw [hg];exact Nat.ne_of_gt (blk_lt B3.out))
    have N76:=ζa (show g7≠g6 by rw [hg];exact Nat.ne_of_gt (blk_lt B6.out))
    have n0_:=ζa (blk_below B3.out hb)
    have n1_:=ζa (blk_below B4.out hb)
    have n2_:=ζa (blk_below B6.out hb)
    have n3_:=ζa (blk_below B8.out hb)
    have n4_:=ζa (δr (by repeat (exact HB.out)) hb)
    clear B3 B4 B6 B8 HB
    have B3:=n0_
    have B4:=n1_
    have B6:=n2_
    have B8:=n3_
    have HB:=n4_
    clear n0_ n1_ n2_ n3_ n4_
    have B7:=ζa hbox
    clear hb hbox hg
    refine hK.out _ _ B3.out (fun hHeld => ?_)
    clear hK K
    refine nm 7 ?_
    exact norm_ (by simp only [putAll,ζl,δa,δb,δc]) (hCont (g7,g8) _ ⟨B3.out,B4.out,B6.out,B7.out,B8.out,G7.out,G8.out,N73.out,N76.out,N84.out,HB.out⟩)
  ·
   skip
   refine box_step ?hg (N:=7) ?hd (cs:=(((List.replicate 8 (0:Int)).map (Value.int .u32)).toArray)) (t:=114) ?hr ?_
   (case hd=>rfl)
   (case hg=>rfl)
   (case hr=>(go_simp;done))
   intro g7 hg w_ hbox hb
   have G7:=ζa ((by rw [hg];exact δs (show Below w.heap.size w _ from by repeat (exact HB.out))):w.heap.size≤g7)
   have N73:=ζa (show g7≠g3 by rw [hg];exact Nat.ne_of_gt (blk_lt B3.out))
   have N76:=ζa (show g7≠g6 by rw [hg];exact Nat.ne_of_gt (blk_lt B6.out))
   have n0_:=ζa (blk_below B3.out hb)
   have n1_:=ζa (blk_below B4.out hb)
   have n2_:=ζa (blk_below B6.out hb)
   have n3_:=ζa (δr (by repeat (exact HB.out)) hb)
   clear B3 B4 B6 HB
   have B3:=n0_
   have B4:=n1_
   have B6:=n2_
   have HB:=n3_
   clear n0_ n1_ n2_ n3_
   have B7:=ζa hbox
   clear hb hbox hg
   refine hK.out _ _ B3.out (fun hHeld => ?_)
   clear hK K
   refine nm 7 ?_
   refine tw 2 4 21 8 (fun K hK => ?_) (fun K hK => ?_)
   ·
    skip
    refine gs Try.func111 #[.string block] ?_
    with_reducible refine (HC.out _).mono ?_
    rintro e w_ ⟨rfl,hb⟩
    refine ⟨_,rfl,?_⟩
    have n0_:=ζa (blk_below B3.out hb)
    have n1_:=ζa (blk_below B4.out hb)
    have n2_:=ζa (blk_below B6.out hb)
    have n3_:=ζa (blk_below B7.out hb)
    have n4_:=ζa (δr (by repeat (exact HB.out)) hb)
    clear B3 B4 B6 B7 HB
    have B3:=n0_
    have B4:=n1_
    have B6:=n2_
    have B7:=n3_
    have HB:=n4_
    clear n0_ n1_ n2_ n3_ n4_
    clear hb
    refine hK.out _ _ B3.out (fun hHeld => ?_)
    clear hK K
    refine nm 21 ?_
    refine on 4 8 (fun K hK => ?_)
    refine box_step ?hg (N:=8) ?hd (cs:=(((List.replicate 64 (0:Int)).map (Value.int .u32)).toArray)) (t:=116) ?hr ?_
    (case hd=>rfl)
    (case hg=>rfl)
    (case hr=>(go_simp;done))
    intro g8 hg w_ hbox hb
    have G8:=ζa ((by rw [hg];exact δs (show Below w.heap.size w _ from by repeat (exact HB.out))):w.heap.size≤g8)
    have N84:=ζa (show g8≠g4 by rw [hg];exact Nat.ne_of_gt (blk_lt B4.out))
    have n0_:=ζa (blk_below B3.out hb)
    have n1_:=ζa (blk_below B4.out hb)
    have n2_:=ζa (blk_below B6.out hb)
    have n3_:=ζa (blk_below B7.out hb)
    have n4_:=ζa (δr (by repeat (exact HB.out)) hb)
    clear B3 B4 B6 B7 HB
    have B3:=n0_
    have B4:=n1_
    have B6:=n2_
    have B7:=n3_
    have HB:=n4_
    clear n0_ n1_ n2_ n3_ n4_
    have B8:=ζa hbox
    clear hb hbox hg
    refine hK.out _ _ B3.out (fun hHeld => ?_)
    clear hK K
    refine nm 8 ?_
    exact norm_ (by simp only [putAll,ζl,δa,δb,δc]) (hCont (g7,g8) _ ⟨B3.out,B4.out,B6.out,B7.out,B8.out,G7.out,G8.out,N73.out,N76.out,N84.out,HB.out⟩)
   ·
    skip
    refine box_step ?hg (N:=8) ?hd (cs:=(((List.replicate 64 (0:Int)).map (Value.int .u32)).toArray)) (t:=116) ?hr ?_
    (case hd=>rfl)
    (case hg=>rfl)
    (case hr=>(go_simp;done))
    intro g8 hg w_ hbox hb
    have G8:=ζa ((by rw [hg];exact δs (show Below w.heap.size w _ from by repeat (exact HB.out))):w.heap.size≤g8)
    have N84:=ζa (show g8≠g4 by rw [hg];exact Nat.ne_of_gt (blk_lt B4.out))
    have n0_:=ζa (blk_below B3.out hb)
    have n1_:=ζa (blk_below B4.out hb)
    have n2_:=ζa (blk_below B6.out hb)
    have n3_:=ζa (blk_below B7.out hb)
    have n4_:=ζa (δr (by repeat (exact HB.out)) hb)
    clear B3 B4 B6 B7 HB
    have B3:=n0_
    have B4:=n1_
    have B6:=n2_
    have B7:=n3_
    have HB:=n4_
    clear n0_ n1_ n2_ n3_ n4_
    have B8:=ζa hbox
    clear hb hbox hg
    refine hK.out _ _ B3.out (fun hHeld => ?_)
    clear hK K
    refine nm 8 ?_
    refine on 2 21 (fun K hK => ?_)
    refine gs Try.func111 #[.string block] ?_
    with_reducible refine (HC.out _).mono ?_
    rintro e w_ ⟨rfl,hb⟩
    refine ⟨_,rfl,?_⟩
    have n0_:=ζa (blk_below B3.out hb)
    have n1_:=ζa (blk_below B4.out hb)
    have n2_:=ζa (blk_below B6.out hb)
    have n3_:=ζa (blk_below B7.out hb)
    have n4_:=ζa (blk_below B8.out hb)
    have n5_:=ζa (δr (by repeat (exact HB.out)) hb)
    clear B3 B4 B6 B7 B8 HB
    have B3:=n0_
    have B4:=n1_
    have B6:=n2_
    have B7:=n3_
    have B8:=n4_
    have HB:=n5_
    clear n0_ n1_ n2_ n3_ n4_ n5_
    clear hb
    refine hK.out _ _ B3.out (fun hHeld => ?_)
    clear hK K
    refine nm 21 ?_
    exact norm_ (by simp only [putAll,ζl,δa,δb,δc]) (hCont (g7,g8) _ ⟨B3.out,B4.out,B6.out,B7.out,B8.out,G7.out,G8.out,N73.out,N76.out,N84.out,HB.out⟩)
  ·
   skip
   refine box_step ?hg (N:=8) ?hd (cs:=(((List.replicate 64 (0:Int)).map (Value.int .u32)).toArray)) (t:=116) ?hr ?_
   (case hd=>rfl)
   (case hg=>rfl)
   (case hr=>(go_simp;done))
   intro g8 hg w_ hbox hb
   have G8:=ζa ((by rw [hg];exact δs (show Below w.heap.size w _ from by repeat (exact HB.out))):w.heap.size≤g8)
   have N84:=ζa (show g8≠g4 by rw [hg];exact Nat.ne_of_gt (blk_lt B4.out))
   have n0_:=ζa (blk_below B3.out hb)
   have n1_:=ζa (blk_below B4.out hb)
   have n2_:=ζa (blk_below B6.out hb)
   have n3_:=ζa (δr (by repeat (exact HB.out)) hb)
   clear B3 B4 B6 HB
   have B3:=n0_
   have B4:=n1_
   have B6:=n2_
   have HB:=n3_
   clear n0_ n1_ n2_ n3_
   have B8:=ζa hbox
   clear hb hbox hg
   refine hK.out _ _ B3.out (fun hHeld => ?_)
   clear hK K
   refine nm 8 ?_
   refine tw 2 3 21 7 (fun K hK => ?_) (fun K hK => ?_)
   ·
    skip
    refine gs Try.func111 #[.string block] ?_
    with_reducible refine (HC.out _).mono ?_
    rintro e w_ ⟨rfl,hb⟩
    refine ⟨_,rfl,?_⟩
    have n0_:=ζa (blk_below B3.out hb)
    have n1_:=ζa (blk_below B4.out hb)
    have n2_:=ζa (blk_below B6.out hb)
    have n3_:=ζa (blk_below B8.out hb)
    have n4_:=ζa (δr (by repeat (exact HB.out)) hb)
    clear B3 B4 B6 B8 HB
    have B3:=n0_
    have B4:=n1_
    have B6:=n2_
    have B8:=n3_
    have HB:=n4_
    clear n0_ n1_ n2_ n3_ n4_
    clear hb
    refine hK.out _ _ B3.out (fun hHeld => ?_)
    clear hK K
    refine nm 21 ?_
    refine on 3 7 (fun K hK => ?_)
    refine box_step ?hg (N:=7) ?hd (cs:=(((List.replicate 8 (0:Int)).map (Value.int .u32)).toArray)) (t:=114) ?hr ?_
    (case hd=>rfl)
    (case hg=>rfl)
    (case hr=>(go_simp;done))
    intro g7 hg w_ hbox hb
    have G7:=ζa ((by rw [hg];exact δs (show Below w.heap.size w _ from by repeat (exact HB.out))):w.heap.size≤g7)
    have N73:=ζa (show g7≠g3 by rw [hg];exact Nat.ne_of_gt (blk_lt B3.out))
    have N76:=ζa (show g7≠g6 by rw [hg];exact Nat.ne_of_gt (blk_lt B6.out))
    have n0_:=ζa (blk_below B3.out hb)
    have n1_:=ζa (blk_below B4.out hb)
    have n2_:=ζa (blk_below B6.out hb)
    have n3_:=ζa (blk_below B8.out hb)
    have n4_:=ζa (δr (by repeat (exact HB.out)) hb)
    clear B3 B4 B6 B8 HB
    have B3:=n0_
    have B4:=n1_
    have B6:=n2_
    have B8:=n3_
    have HB:=n4_
    clear n0_ n1_ n2_ n3_ n4_
    have B7:=ζa hbox
    clear hb hbox hg
    refine hK.out _ _ B3.out (fun hHeld => ?_)
    clear hK K
    refine nm 7 ?_
    exact norm_ (by simp only [putAll,ζl,δa,δb,δc]) (hCont (g7,g8) _ ⟨B3.out,B4.out,B6.out,B7.out,B8.out,G7.out,G8.out,N73.out,N76.out,N84.out,HB.out⟩)
   ·
    skip
    refine box_step ?hg (N:=7) ?hd (cs:=(((List.replicate 8 (0:Int)).map (Value.int .u32)).toArray)) (t:=114) ?hr ?_
    (case hd=>rfl)
    (case hg=>rfl)
    (case hr=>(go_simp;done))
    intro g7 hg w_ hbox hb
    have G7:=ζa ((by rw [hg];exact δs (show Below w.heap.size w _ from by repeat (exact HB.out))):w.heap.size≤g7)
    have N73:=ζa (show g7≠g3 by rw [hg];exact Nat.ne_of_gt (blk_lt B3.out))
    have N76:=ζa (show g7≠g6 by rw [hg];exact Nat.ne_of_gt (blk_lt B6.out))
    have n0_:=ζa (blk_below B3.out hb)
    have n1_:=ζa (blk_below B4.out hb)
    have n2_:=ζa (blk_below B6.out hb)
    have n3_:=ζa (blk_below B8.out hb)
    have n4_:=ζa (δr (by repeat (exact HB.out)) hb)
    clear B3 B4 B6 B8 HB
    have B3:=n0_
    have B4:=n1_
    have B6:=n2_
    have B8:=n3_
    have HB:=n4_
    clear n0_ n1_ n2_ n3_ n4_
    have B7:=ζa hbox
    clear hb hbox hg
    refine hK.out _ _ B3.out (fun hHeld => ?_)
    clear hK K
    refine nm 7 ?_
    refine on 2 21 (fun K hK => ?_)
    refine gs Try.func111 #[.string block] ?_
    with_reducible refine (HC.out _).mono ?_
    rintro e w_ ⟨rfl,hb⟩
    refine ⟨_,rfl,?_⟩
    have n0_:=ζa (blk_below B3.out hb)
    have n1_:=ζa (blk_below B4.out hb)
    have n2_:=ζa (blk_below B6.out hb)
    have n3_:=ζa (blk_below B7.out hb)
    have n4_:=ζa (blk_below B8.out hb)
    have n5_:=ζa (δr (by repeat (exact HB.out)) hb)
    clear B3 B4 B6 B7 B8 HB
    have B3:=n0_
    have B4:=n1_
    have B6:=n2_
    have B7:=n3_
    have B8:=n4_
    have HB:=n5_
    clear n0_ n1_ n2_ n3_ n4_ n5_
    clear hb
    refine hK.out _ _ B3.out (fun hHeld => ?_)
    clear hK K
    refine nm 21 ?_
    exact norm_ (by simp only [putAll,ζl,δa,δb,δc]) (hCont (g7,g8) _ ⟨B3.out,B4.out,B6.out,B7.out,B8.out,G7.out,G8.out,N73.out,N76.out,N84.out,HB.out⟩)
 rintro ⟨g7,g8⟩ w7 ⟨h3_,h4_,h6_,h7_,h8_,k7_,k8_,n3_,n6_,n4_,hB_⟩
 clear B3 B4 B6 HB hHeld
 have B3:=ζa h3_
 have B4:=ζa h4_
 have B6:=ζa h6_
 have B7:=ζa h7_
 have B8:=ζa h8_
 have G7:=ζa k7_
 have G8:=ζa k8_
 have N73:=ζa n3_
 have N76:=ζa n6_
 have N84:=ζa n4_
 have HB:=ζa hB_
 clear h3_ h4_ h6_ h7_ h8_ k7_ k8_ n3_ n6_ n4_ hB_
 simp only at B7 B8 G7 G8 N73 N76 N84
 refine norm_ (a':=?_) ?_ ?_
 rotate_left
 · simp only [putAll,ζl,δa,δb,δc];rfl
 refine one_ (i:=5) (N:=none) #[τ,τ,τ,τ,τ,τ,φ] rfl rfl (one_of HT_.out (by kernel_rfl)) (by decide) (fun K hK => ?_)
 refine skip_ (w1:=w7.setRow g7 ((words.map (Value.int .u32)).toArray)) (by rfl) rfl ?_ ?_
 ·
  refine impl_blockHash.exec_store (ty:=114) (x:=.tmp 7) (y:=.tmp 19) ?_ ?_ ?_ B7.out ((show _=some 8 from by kernel_rfl).trans (congrArg some SW.out.symm)) (by rw [SW.out];rfl) arr_one
  · rfl
  ·
   rfl
  · rfl
 have n0_:=ζa ((setRow_other (cs:=((words.map (Value.int .u32)).toArray)) N73.out).trans B3.out)
 have n1_:=ζa ((setRow_other (cs:=((words.map (Value.int .u32)).toArray)) (blk_ne B7.out B4.out (by decide))).trans B4.out)
 have n2_:=ζa ((setRow_other (cs:=((words.map (Value.int .u32)).toArray)) N76.out).trans B6.out)
 have n3_:=ζa (setRow_self (cs:=((words.map (Value.int .u32)).toArray)) B7.out)
 have n4_:=ζa ((setRow_other (cs:=((words.map (Value.int .u32)).toArray)) (blk_ne B7.out B8.out (by decide))).trans B8.out)
 have n5_:=ζa (setRow_below (cs:=((words.map (Value.int .u32)).toArray)) HB.out G7.out)
 clear B3 B4 B6 B7 B8 HB
 have B3:=n0_
 have B4:=n1_
 have B6:=n2_
 have B7:=n3_
 have B8:=n4_
 have HB:=n5_
 clear n0_ n1_ n2_ n3_ n4_ n5_
 refine hK.out _ _ B3.out (fun hHeld => ?_)
 clear hK K
 generalize w7.setRow g7 ((words.map (Value.int .u32)).toArray)=w8 at B3 B4 B6 B7 B8 HB hHeld ⊢
 refine one_ (i:=6) (N:=none) #[τ,τ,τ,τ,τ,τ,τ] rfl rfl (one_of HT_.out (by kernel_rfl)) (by decide) (fun K hK => ?_)
 refine skip_ (w1:=w8.setRow g8 ((W64.map (Value.int .u32)).toArray)) (by rfl) rfl ?_ ?_
 ·
  refine impl_blockHash.exec_store (ty:=116) (x:=.tmp 8) (y:=.tmp 21) ?_ ?_ ?_ B8.out ((show _=some 64 from by kernel_rfl).trans (congrArg some S64.out.symm)) (by rw [S64.out];rfl) arr_one
  · rfl
  ·
   rfl
  · rfl
 have n0_:=ζa ((setRow_other (cs:=((W64.map (Value.int .u32)).toArray)) (blk_ne B8.out B3.out (by decide))).trans B3.out)
 have n1_:=ζa ((setRow_other (cs:=((W64.map (Value.int .u32)).toArray)) N84.out).trans B4.out)
 have n2_:=ζa ((setRow_other (cs:=((W64.map (Value.int .u32)).toArray)) (blk_ne B8.out B6.out (by decide))).trans B6.out)
 have n3_:=ζa ((setRow_other (cs:=((W64.map (Value.int .u32)).toArray)) (blk_ne B8.out B7.out (by decide))).trans B7.out)
 have n4_:=ζa (setRow_self (cs:=((W64.map (Value.int .u32)).toArray)) B8.out)
 have n5_:=ζa (setRow_below (cs:=((W64.map (Value.int .u32)).toArray)) HB.out G8.out)
 clear B3 B4 B6 B7 B8 HB
 have B3:=n0_
 have B4:=n1_
 have B6:=n2_
 have B7:=n3_
 have B8:=n4_
 have HB:=n5_
 clear n0_ n1_ n2_ n3_ n4_ n5_
 refine hK.out _ _ B3.out (fun hHeld => ?_)
 clear hK K
 generalize w8.setRow g8 ((W64.map (Value.int .u32)).toArray)=w9 at B3 B4 B6 B7 B8 HB hHeld ⊢
 refine done_ (done_of HT_.out (by kernel_rfl)) ?_
 have HS:=HW8.out
 go_wp2
 go_loopg [22] 64 (fun kq v22 w' => ∃ i:Nat,v22 = .int .i64 (i:Int)∧Aside0 (i+kq=64)∧Aside0 (w'.heap[g7]? = some (.cells (((impl_blockHash.rounds kk W64 words i).map (Value.int .u32)).toArray) 114 (0,0)))∧Aside0 (w'.heap[g3]? = some (.cells ((words.map (Value.int .u32)).toArray) 114 (0,0)))∧Aside0 (w'.heap[g4]? = some (.cells ((kk.map (Value.int .u32)).toArray) 116 (0,0)))∧Aside0 (w'.heap[g6]? = some (.cells (((List.replicate 8 (0:Int)).map (Value.int .u32)).toArray) 114 (0,0)))∧Aside0 (w'.heap[g8]? = some (.cells ((W64.map (Value.int .u32)).toArray) 116 (0,0)))∧Aside0 (Below w.heap.size w w'))
 case atStart=>exact ⟨0,rfl,⟨rfl⟩,⟨by repeat (exact B7.out)⟩,⟨by repeat (exact B3.out)⟩,⟨by repeat (exact B4.out)⟩,⟨by repeat (exact B6.out)⟩,⟨by repeat (exact B8.out)⟩,⟨by repeat (exact HB.out)⟩⟩
 case round =>
  clear B3 B4 B6 B7 B8 HB
  obtain ⟨i,rfl,HI,B7,B3,B4,B6,B8,HB⟩:=hrel
  cases gk with
  | zero =>
   have hi:i=64:=HI.out
   subst hi
   obtain ⟨V,hV⟩ : ∃ l:List Int,l=impl_blockHash.rounds kk W64 words 64:=⟨_,rfl⟩
   rw [← hV] at B7
   have hV8:V.length=8:=by rw [hV];exact impl_blockHash.rounds_len kk W64 words HW8.out 64
   have HV:=ζa hV
   have HV8:=ζa hV8
   clear hV hV8 HI
   go_wp2
   go_loopg [100] 8 (fun kq v100 w' => ∃ i:Nat,v100 = .int .i64 (i:Int)∧Aside0 (i+kq=8)∧Aside0 (w'.heap[g7]? = some (.cells (((impl_blockHash.adds V words i).map (Value.int .u32)).toArray) 114 (0,0)))∧Aside0 (w'.heap[g3]? = some (.cells ((words.map (Value.int .u32)).toArray) 114 (0,0)))∧Aside0 (w'.heap[g6]? = some (.cells (((List.replicate 8 (0:Int)).map (Value.int .u32)).toArray) 114 (0,0)))∧Aside0 (Below w.heap.size w w'))
   case atStart=>exact ⟨0,rfl,⟨rfl⟩,⟨by repeat (exact B7.out)⟩,⟨by repeat (exact B3.out)⟩,⟨by repeat (exact B6.out)⟩,⟨by repeat (exact HB.out)⟩⟩
   case round =>
    clear B3 B4 B6 B7 B8 HB
    obtain ⟨i,rfl,HI,B7,B3,B6,HB⟩:=hrel
    cases gk with
    | zero =>
     have hi:i=8:=HI.out
     subst hi
     have hsz:some 8=some ((((impl_blockHash.adds V words 8).map (Value.int .u32)).toArray).size):=by rw [arr_size,impl_blockHash.adds_len,HV8.out]
     have hout:impl_blockHash.out words kk block=impl_blockHash.adds V words 8:=by rw [HV.out,HW64.out];rfl
     have HOUT:=ζa hout
     clear hout
     go_wp2_with (first
      | ((with_reducible refine δx (N:=112) rfl ?_);refine wpList_load_row rfl 114 (.tmp 7) rfl g7 (by rfl) _ _ (0,0) _ B7.out hu8 rfl ((show _=some 8 from by kernel_rfl).trans hsz) ?_)
      | ((with_reducible refine gate_store (t:=114) (p:=6) rfl ?_);refine row_event2 rfl 114 (.tmp 6) (.tmp 112) rfl g6 (((impl_blockHash.adds V words 8).map (Value.int .u32)).toArray) ?hx ?hy B6.out ?hi ?ho arr_one ?_;(case hx=>rfl);(case hy=>rfl);(case hi=>exact ((show _=some 8 from by kernel_rfl).trans hsz));(case ho=>(rw [arr_size,arr_size,impl_blockHash.adds_len,HV8.out];rfl));intro w1 hw1;have n0_:Aside0 (Below w.heap.size w w1):=⟨by rw [hw1];exact setRow_below HB.out G6.out⟩;have n1_:Aside0 (w1.heap[g6]? = some (.cells (((impl_blockHash.adds V words 8).map (Value.int .u32)).toArray) 114 (0,0))):=⟨by rw [hw1];exact setRow_self B6.out⟩;clear B3 B6 B7 HB hw1;have HB:=n0_;have B6:=n1_;clear n0_ n1_))
     refine bodyPost_ret (results_cell_row rfl _ _ g6 114 _ (0,0) _ rfl B6.out hu8 rfl ((show _=some 8 from by kernel_rfl).trans hsz)) rfl ?_
     exact ⟨by rw [HOUT.out],HB.out⟩
    | succ k1 =>
     have hi:=HI.out
     have hi8:(i:Int)<8:=by omega
     have c8:decide ((i:Int)<8)=τ:=decide_eq_true hi8
     have x8:((i:Int)<8)=True:=eq_true hi8
     have z0:(0≤(i:Int))=True:=eq_true (by omega)
     have inc:ζm ((i:Int)+1)=((i+1:Nat):Int):=by rw [IntWalk.wrap64_in _ ⟨by omega,by omega⟩];rfl
     have INC:=ζa inc
     have LX:=ζa (show (impl_blockHash.adds V words i).length=8 by rw [impl_blockHash.adds_len,HV8.out])
     have H8:=ζa hi8
     clear inc hi hi8
     go_upto_region 13 with (fail)
     try go_wp2
     have n0_:=ζa (δp B3.out)
     have n1_:=ζa (δp B6.out)
     have n2_:=ζa (δp B7.out)
     clear B3 B6 B7
     have B3:=n0_
     have B6:=n1_
     have B7:=n2_
     clear n0_ n1_ n2_
     replace HB:=ζa (δj HB.out)
     refine sta 9 (fun w'=>w'.cell? ⟨g7,i,none⟩=some (.int .u32 (rd (impl_blockHash.adds V words i) (i:Int)))∧w'.cell? ⟨g3,i,none⟩=some (.int .u32 (rd words (i:Int)))) [8] impl_blockHash.tab13 impl_blockHash.bits13 ⟨(δl B7.out i).trans (arr_get (by have:=LX.out;have:=H8.out;omega)),(δl B3.out i).trans (arr_get (by have:=HW8.out;have:=H8.out;omega))⟩ (fun hHeld HT_ HW_ => ?_)
     generalize wr.drew=wd_ at B3 B6 B7 HB hHeld ⊢
     refine pu 0 103 ?_
     refine pu 1 104 ?_
     refine ta 2 105 ?_
     refine pu 3 106 ?_
     refine pu 4 107 ?_
     refine ta 5 108 ?_
     refine pu 6 109 ?_
     refine pu 7 110 ?_
     refine last_ (i:=8) (N:=none) #[τ,τ,τ,τ,τ,τ,τ,τ,τ] rfl rfl (one_of HT_.out (by kernel_rfl)) (by decide) (fun K hK => ?_)
     have hs:=(δl B7.out i).trans (arr_get (by have:=LX.out;have:=H8.out;omega))
     have hf:=δm B7.out i
     refine skip_ (w1:=?_) (by rfl) rfl ?_ ?_
     rotate_left
     ·
      go_simp
      rfl
     refine hK.out _ _ ?_
     clear hK K
     refine done_ (done_of HT_.out (by kernel_rfl)) ?_
     go_wp2
     go_roundg k1
     case measure=>omega
     case rel =>
      refine ⟨i+1,by rw [INC.out],⟨by have:=HI.out;omega⟩,⟨δw B7.out i _ ?_⟩,⟨(Below.heap_setCell _ ⟨g7,i,none⟩ _ g3 (fun e=>N73.out e.symm)).trans B3.out⟩,⟨(Below.heap_setCell _ ⟨g7,i,none⟩ _ g6 (fun e=>N76.out e.symm)).trans B6.out⟩,⟨δq HB.out G7.out⟩⟩
      rw [arr_set]
      rfl
  | succ k1 =>
   have hi:=HI.out
   have hi64:(i:Int)<64:=by omega
   have c64:decide ((i:Int)<64)=τ:=decide_eq_true hi64
   have x64:((i:Int)<64)=True:=eq_true hi64
   have z0:(0≤(i:Int))=True:=eq_true (by omega)
   have inc:ζm ((i:Int)+1)=((i+1:Nat):Int):=by rw [IntWalk.wrap64_in _ ⟨by omega,by omega⟩];rfl
   have INC:=ζa inc
   clear inc hi
   obtain ⟨V,hV⟩ : ∃ l:List Int,l=impl_blockHash.rounds kk W64 words i:=⟨_,rfl⟩
   rw [← hV] at B7
   have hV8:V.length=8:=by rw [hV];exact impl_blockHash.rounds_len kk W64 words HW8.out i
   have v0:wr.cell? ⟨g7,0,none⟩=some (.int .u32 (rd V 0)):=(δl B7.out 0).trans (arr_get (by omega))
   have v1:wr.cell? ⟨g7,1,none⟩=some (.int .u32 (rd V 1)):=(δl B7.out 1).trans (arr_get (by omega))
   have v2:wr.cell? ⟨g7,2,none⟩=some (.int .u32 (rd V 2)):=(δl B7.out 2).trans (arr_get (by omega))
   have v3:wr.cell? ⟨g7,3,none⟩=some (.int .u32 (rd V 3)):=(δl B7.out 3).trans (arr_get (by omega))
   have v4:wr.cell? ⟨g7,4,none⟩=some (.int .u32 (rd V 4)):=(δl B7.out 4).trans (arr_get (by omega))
   have v5:wr.cell? ⟨g7,5,none⟩=some (.int .u32 (rd V 5)):=(δl B7.out 5).trans (arr_get (by omega))
   have v6:wr.cell? ⟨g7,6,none⟩=some (.int .u32 (rd V 6)):=(δl B7.out 6).trans (arr_get (by omega))
   have v7:wr.cell? ⟨g7,7,none⟩=some (.int .u32 (rd V 7)):=(δl B7.out 7).trans (arr_get (by omega))
   have vk:wr.cell? ⟨g4,i,none⟩=some (.int .u32 (rd kk (i:Int))):=(δl B4.out i).trans (arr_get (by have:=HK64.out;omega))
   have vw:wr.cell? ⟨g8,i,none⟩=some (.int .u32 (rd W64 (i:Int))):=(δl B8.out i).trans (arr_get (by have:=HL64.out;omega))
   have H64:=ζa hi64
   have HV:=ζa hV
   have HV8:=ζa hV8
   have HSZ:=ζa (show ((V.map (Value.int .u32)).toArray).size=8 by rw [arr_size,hV8])
   clear hi64 hV hV8
   go_upto_region 5 with (fail)
   go_quiet (fail)
   go_upto_region 6 with (fail)
   go_quiet (first
    | (go_at_call 112;(with_reducible refine (impl_turned.calls (rd V 4) 6 _ _ (turn_at (rd V 4) 6 (by decide))).mono ?_);rintro e w' ⟨rfl,⟨nd,rfl⟩⟩;(try first|exact ⟨rfl,_,World.drewN_drewN _ _ _⟩|exact ⟨rfl,_,Eq.trans (World.drewN_drewN _ _ _) (congrArg (World.drewN _) (Nat.add_assoc _ _ _))⟩))
    | (go_at_call 112;(with_reducible refine (impl_turned.calls (rd V 4) 11 _ _ (turn_at (rd V 4) 11 (by decide))).mono ?_);rintro e w' ⟨rfl,⟨nd,rfl⟩⟩;(try first|exact ⟨rfl,_,World.drewN_drewN _ _ _⟩|exact ⟨rfl,_,Eq.trans (World.drewN_drewN _ _ _) (congrArg (World.drewN _) (Nat.add_assoc _ _ _))⟩))
    | (go_at_call 112;(with_reducible refine (impl_turned.calls (rd V 4) 25 _ _ (turn_at (rd V 4) 25 (by decide))).mono ?_);rintro e w' ⟨rfl,⟨nd,rfl⟩⟩;(try first|exact ⟨rfl,_,World.drewN_drewN _ _ _⟩|exact ⟨rfl,_,Eq.trans (World.drewN_drewN _ _ _) (congrArg (World.drewN _) (Nat.add_assoc _ _ _))⟩)))
   go_wp2_with (first
    | ((with_reducible refine δx (N:=66) rfl ?_);refine goesL_ (some 66) rfl rfl Try.func112 (by kernel_rfl) rfl #[.int .u32 (rd V 0),.int .i64 2] rfl (by (try simp only [δd,δe,δf]);first|done|rfl) ?_;(with_reducible refine (impl_turned.calls (rd V 0) 2 _ _ (turn_at (rd V 0) 2 (by decide))).mono ?_);rintro e w_ ⟨rfl,⟨nd66,rfl⟩⟩;refine ⟨_,rfl,?_⟩)
    | ((with_reducible refine δx (N:=68) rfl ?_);refine goesL_ (some 68) rfl rfl Try.func112 (by kernel_rfl) rfl #[.int .u32 (rd V 0),.int .i64 13] rfl (by (try simp only [δd,δe,δf]);first|done|rfl) ?_;(with_reducible refine (impl_turned.calls (rd V 0) 13 _ _ (turn_at (rd V 0) 13 (by decide))).mono ?_);rintro e w_ ⟨rfl,⟨nd68,rfl⟩⟩;refine ⟨_,rfl,?_⟩)
    | ((with_reducible refine δx (N:=71) rfl ?_);refine goesL_ (some 71) rfl rfl Try.func112 (by kernel_rfl) rfl #[.int .u32 (rd V 0),.int .i64 22] rfl (by (try simp only [δd,δe,δf]);first|done|rfl) ?_;(with_reducible refine (impl_turned.calls (rd V 0) 22 _ _ (turn_at (rd V 0) 22 (by decide))).mono ?_);rintro e w_ ⟨rfl,⟨nd71,rfl⟩⟩;refine ⟨_,rfl,?_⟩)
    | ((with_reducible refine gate_store (t:=114) (p:=7) rfl ?_);refine row_event2 rfl 114 (.tmp 7) (.tmp 98) rfl g7 (((impl_blockHash.step kk W64 V i).map (Value.int .u32)).toArray) ?hx ?hy (δn B7.out _) ?hi ?ho arr_one ?_;(case hx=>rfl);(case hy=>rfl);(case hi=>kernel_rfl);(case ho=>(rw [HSZ.out];rfl));intro w1 hw1;have n0_:Aside0 (Below w.heap.size w w1):=⟨by rw [hw1];refine setRow_below ?_ G7.out;repeat (first|exact HB.out|apply δk|apply δi|apply δj)⟩;have n1_:Aside0 (w1.heap[g7]? = some (.cells (((impl_blockHash.step kk W64 V i).map (Value.int .u32)).toArray) 114 (0,0))):=⟨by rw [hw1];exact setRow_self (δn B7.out _)⟩;have n2_:Aside0 (w1.heap[g3]? = some (.cells ((words.map (Value.int .u32)).toArray) 114 (0,0))):=⟨by rw [hw1];exact (setRow_other N73.out).trans (δn B3.out _)⟩;have n3_:Aside0 (w1.heap[g4]? = some (.cells ((kk.map (Value.int .u32)).toArray) 116 (0,0))):=⟨by rw [hw1];exact (setRow_other (blk_ne B7.out B4.out (by decide))).trans (δn B4.out _)⟩;have n4_:Aside0 (w1.heap[g6]? = some (.cells (((List.replicate 8 (0:Int)).map (Value.int .u32)).toArray) 114 (0,0))):=⟨by rw [hw1];exact (setRow_other N76.out).trans (δn B6.out _)⟩;have n5_:Aside0 (w1.heap[g8]? = some (.cells ((W64.map (Value.int .u32)).toArray) 116 (0,0))):=⟨by rw [hw1];exact (setRow_other (blk_ne B7.out B8.out (by decide))).trans (δn B8.out _)⟩;clear B3 B4 B6 B7 B8 HB v0 v1 v2 v3 v4 v5 v6 v7 vk vw hw1;have HB:=n0_;have B7:=n1_;have B3:=n2_;have B4:=n3_;have B6:=n4_;have B8:=n5_;clear n0_ n1_ n2_ n3_ n4_ n5_))
   go_roundg k1
   case measure=>omega
   case rel =>
    have hR:impl_blockHash.rounds kk W64 words (i+1)=impl_blockHash.step kk W64 V i:=by rw [HV.out];rfl
    refine ⟨i+1,by rw [INC.out],⟨by have:=HI.out;omega⟩,⟨?_⟩,⟨B3.out⟩,⟨B4.out⟩,⟨B6.out⟩,⟨B8.out⟩,⟨HB.out⟩⟩
    rw [hR]
    exact B7.out


open Go.Proofs.YtggemblkhckbpaaW.PrintWords renaming gate_dst → δx, below_step → δr, below_alloc → δk, pw_below_drewN → δi, below_drew1 → δj, box_event → δz, below_size → δs, blk_drew → δp
open List renaming map_toArray → δd, map_cons → δe, map_nil → δf, setIfInBounds_toArray → δa, set_cons_zero → δb, set_cons_succ → δc
set_option maxHeartbeats 8000000
set_option maxRecDepth 100000


/-! ### impl_hash: function 64 -/
def impl_hash.st (K W0:List Int) (t:ByteArray):Nat→List Int
 | 0=>W0
 | i+1=>impl_blockHash.out (impl_hash.st K W0 t i) K (t.extract (64 * i) (64 * i+64))
def impl_hash.n4 (n:Int):ByteArray:=strOfNums [n / 256 / 256 / 256 % 256,n / 256 / 256 % 256,n / 256 % 256,n % 256]
def impl_hash.n8 (n:Int):ByteArray:=strOfNums [n / 256 / 256 / 256 / 256 / 256 / 256 / 256 % 256,n / 256 / 256 / 256 / 256 / 256 / 256 % 256,n / 256 / 256 / 256 / 256 / 256 % 256,n / 256 / 256 / 256 / 256 % 256,n / 256 / 256 / 256 % 256,n / 256 / 256 % 256,n / 256 % 256,n % 256]
theorem impl_hash.step (k:Nat) (x0:Int) (x5:List Int) (i:Int) (h:0≤i) (h2:i<(x5.length:Int)):impl_number.l0 (k+1) x0 x5 i=impl_number.l0 k (x0 / 256) (x5.set i.toNat (x0 % 256)) (ζm (i - 1)):=by
 rw [impl_number.l0,if_pos h,if_pos h,if_pos h2]
theorem impl_hash.stop (k:Nat) (x0:Int) (x5:List Int) (i:Int) (h : ¬ 0≤i):impl_number.l0 (k+1) x0 x5 i=some (strOfNums x5):=by
 rw [impl_number.l0,if_neg h]
theorem impl_hash.num4 (n:Int):impl_number.f 6 n 4=some (impl_hash.n4 n):=by
 unfold impl_number.f
 rw [if_pos (by decide),if_pos (by decide)]
 rw [show (List.replicate (Int.toNat 4) (0:Int)) = [0,0,0,0] from rfl,show ζm ((4:Int) - 1)=3 from by kernel_rfl]
 rw [impl_hash.step 5 (n) [0,0,0,0] 3 (by decide) (by simp)]
 rw [show ζm ((3:Int) - 1)=2 from by kernel_rfl]
 show impl_number.l0 5 (n / 256) [0,0,0,n % 256] (2)=_
 rw [impl_hash.step 4 (n / 256) [0,0,0,n % 256] 2 (by decide) (by simp)]
 rw [show ζm ((2:Int) - 1)=1 from by kernel_rfl]
 show impl_number.l0 4 (n / 256 / 256) [0,0,n / 256 % 256,n % 256] (1)=_
 rw [impl_hash.step 3 (n / 256 / 256) [0,0,n / 256 % 256,n % 256] 1 (by decide) (by simp)]
 rw [show ζm ((1:Int) - 1)=0 from by kernel_rfl]
 show impl_number.l0 3 (n / 256 / 256 / 256) [0,n / 256 / 256 % 256,n / 256 % 256,n % 256] (0)=_
 rw [impl_hash.step 2 (n / 256 / 256 / 256) [0,n / 256 / 256 % 256,n / 256 % 256,n % 256] 0 (by decide) (by simp)]
 rw [show ζm ((0:Int) - 1)=(-1) from by kernel_rfl]
 show impl_number.l0 2 (n / 256 / 256 / 256 / 256) [n / 256 / 256 / 256 % 256,n / 256 / 256 % 256,n / 256 % 256,n % 256] (-1)=_
 rw [impl_hash.stop 1 (n / 256 / 256 / 256 / 256) _ (-1) (by decide)]
 rfl
theorem impl_hash.num8 (n:Int):impl_number.f 10 n 8=some (impl_hash.n8 n):=by
 unfold impl_number.f
 rw [if_pos (by decide),if_pos (by decide)]
 rw [show (List.replicate (Int.toNat 8) (0:Int)) = [0,0,0,0,0,0,0,0] from rfl,show ζm ((8:Int) - 1)=7 from by kernel_rfl]
 rw [impl_hash.step 9 (n) [0,0,0,0,0,0,0,0] 7 (by decide) (by simp)]
 rw [show ζm ((7:Int) - 1)=6 from by kernel_rfl]
 show impl_number.l0 9 (n / 256) [0,0,0,0,0,0,0,n % 256] (6)=_
 rw [impl_hash.step 8 (n / 256) [0,0,0,0,0,0,0,n % 256] 6 (by decide) (by simp)]
 rw [show ζm ((6:Int) - 1)=5 from by kernel_rfl]
 show impl_number.l0 8 (n / 256 / 256) [0,0,0,0,0,0,n / 256 % 256,n % 256] (5)=_
 rw [impl_hash.step 7 (n / 256 / 256) [0,0,0,0,0,0,n / 256 % 256,n % 256] 5 (by decide) (by simp)]
 rw [show ζm ((5:Int) - 1)=4 from by kernel_rfl]
 show impl_number.l0 7 (n / 256 / 256 / 256) [0,0,0,0,0,n / 256 / 256 % 256,n / 256 % 256,n % 256] (4)=_
 rw [impl_hash.step 6 (n / 256 / 256 / 256) [0,0,0,0,0,n / 256 / 256 % 256,n / 256 % 256,n % 256] 4 (by decide) (by simp)]
 rw [show ζm ((4:Int) - 1)=3 from by kernel_rfl]
 show impl_number.l0 6 (n / 256 / 256 / 256 / 256) [0,0,0,0,n / 256 / 256 / 256 % 256,n / 256 / 256 % 256,n / 256 % 256,n % 256] (3)=_
 rw [impl_hash.step 5 (n / 256 / 256 / 256 / 256) [0,0,0,0,n / 256 / 256 / 256 % 256,n / 256 / 256 % 256,n / 256 % 256,n % 256] 3 (by decide) (by simp)]
 rw [show ζm ((3:Int) - 1)=2 from by kernel_rfl]
 show impl_number.l0 5 (n / 256 / 256 / 256 / 256 / 256) [0,0,0,n / 256 / 256 / 256 / 256 % 256,n / 256 / 256 / 256 % 256,n / 256 / 256 % 256,n / 256 % 256,n % 256] (2)=_
 rw [impl_hash.step 4 (n / 256 / 256 / 256 / 256 / 256) [0,0,0,n / 256 / 256 / 256 / 256 % 256,n / 256 / 256 / 256 % 256,n / 256 / 256 % 256,n / 256 % 256,n % 256] 2 (by decide) (by simp)]
 rw [show ζm ((2:Int) - 1)=1 from by kernel_rfl]
 show impl_number.l0 4 (n / 256 / 256 / 256 / 256 / 256 / 256) [0,0,n / 256 / 256 / 256 / 256 / 256 % 256,n / 256 / 256 / 256 / 256 % 256,n / 256 / 256 / 256 % 256,n / 256 / 256 % 256,n / 256 % 256,n % 256] (1)=_
 rw [impl_hash.step 3 (n / 256 / 256 / 256 / 256 / 256 / 256) [0,0,n / 256 / 256 / 256 / 256 / 256 % 256,n / 256 / 256 / 256 / 256 % 256,n / 256 / 256 / 256 % 256,n / 256 / 256 % 256,n / 256 % 256,n % 256] 1 (by decide) (by simp)]
 rw [show ζm ((1:Int) - 1)=0 from by kernel_rfl]
 show impl_number.l0 3 (n / 256 / 256 / 256 / 256 / 256 / 256 / 256) [0,n / 256 / 256 / 256 / 256 / 256 / 256 % 256,n / 256 / 256 / 256 / 256 / 256 % 256,n / 256 / 256 / 256 / 256 % 256,n / 256 / 256 / 256 % 256,n / 256 / 256 % 256,n / 256 % 256,n % 256] (0)=_
 rw [impl_hash.step 2 (n / 256 / 256 / 256 / 256 / 256 / 256 / 256) [0,n / 256 / 256 / 256 / 256 / 256 / 256 % 256,n / 256 / 256 / 256 / 256 / 256 % 256,n / 256 / 256 / 256 / 256 % 256,n / 256 / 256 / 256 % 256,n / 256 / 256 % 256,n / 256 % 256,n % 256] 0 (by decide) (by simp)]
 rw [show ζm ((0:Int) - 1)=(-1) from by kernel_rfl]
 show impl_number.l0 2 (n / 256 / 256 / 256 / 256 / 256 / 256 / 256 / 256) [n / 256 / 256 / 256 / 256 / 256 / 256 / 256 % 256,n / 256 / 256 / 256 / 256 / 256 / 256 % 256,n / 256 / 256 / 256 / 256 / 256 % 256,n / 256 / 256 / 256 / 256 % 256,n / 256 / 256 / 256 % 256,n / 256 / 256 % 256,n / 256 % 256,n % 256] (-1)=_
 rw [impl_hash.stop 1 (n / 256 / 256 / 256 / 256 / 256 / 256 / 256 / 256) _ (-1) (by decide)]
 rfl
def impl_hash.zeros (n:Nat):ByteArray:=⟨(Lib.repeatL (⟨#[0]⟩:ByteArray).data.toList n).toArray⟩
def impl_hash.tx (ST:List Int):Nat→ByteArray
 | 0=>⟨#[]⟩
 | j+1=>impl_hash.tx ST j ++ impl_hash.n4 (ζm (rd ST (j:Int)))
theorem impl_hash.out_len (words kk:List Int) (b:ByteArray) (h:words.length=8):(impl_blockHash.out words kk b).length=8:=by
 unfold impl_blockHash.out
 rw [impl_blockHash.adds_len,impl_blockHash.rounds_len _ _ _ h]
theorem impl_hash.st_len (K W0:List Int) (t:ByteArray) (h:W0.length=8) : ∀ i,(impl_hash.st K W0 t i).length=8
 | 0=>h
 | i+1=>impl_hash.out_len _ _ _ (impl_hash.st_len K W0 t h i)
theorem impl_hash.n4_size (n:Int):(impl_hash.n4 n).size=4:=by simp [impl_hash.n4,strOfNums,ByteArray.size]
theorem impl_hash.tx_size (ST:List Int) : ∀ j,(impl_hash.tx ST j).size=4 * j
 | 0=>rfl
 | j+1=>by unfold impl_hash.tx;rw [ByteArray.size_append,impl_hash.tx_size ST j,impl_hash.n4_size];omega
theorem impl_hash.zeros_size (n:Nat):(impl_hash.zeros n).size=n:=by
 have key : ∀ n:Nat,(Lib.repeatL [(0:UInt8)] n).length=n:=by
  intro n
  induction n with
  | zero=>rfl
  | succ n ih=>simp [Lib.repeatL,ih]
 show (Lib.repeatL [(0:UInt8)] n).toArray.size=n
 rw [List.size_toArray,key]
theorem impl_hash.n8_size (n:Int):(impl_hash.n8 n).size=8:=by simp [impl_hash.n8,strOfNums,ByteArray.size]
theorem impl_hash.index_row {W:World} {L:List Int} {j:Nat} (hL:L.length=8) (hj:j<8):(Instr.index 114 (.agg ((L.map (Value.int .u32)).toArray)) (.int .i64 (j:Int))).run Try.prog W = .ok (.int .u32 (rd L (j:Int))) W:=by
 have hu8:=Try.underlying114
 have hu36:=Try.underlying113
 have ld:=arr_get (L:=L) (i:=j) (by omega)
 have hi:(Try.prog.info? 113).map (·.size)=some 1:=by kernel_rfl
 have hj8:((j:Int)<8):=by omega
 cases hq:Try.prog.info? 113 with
 | none=>rw [hq] at hi;cases hi
 | some ti =>
  have hs:ti.size=1:=by rw [hq] at hi;exact Option.some.inj hi
  unfold Instr.index
  simp [asIntOf,hu8,hu36,part,isAgg,sizeOf,typeInfo,hq,hs,hj8,Sem.run_bind,run_underlying]
  rw [List.getElem?_toArray,List.getElem?_map] at ld
  rw [if_pos hj,ld]
  rfl
def impl_hash.v (s:ByteArray):ByteArray:=impl_hash.tx (impl_hash.st (impl_roundWords.f.getD []) (impl_hashWords.f.getD []) (((s ++ (⟨#[128]⟩:ByteArray)) ++ impl_hash.zeros ((119 - s.size % 64) % 64)) ++ impl_hash.n8 (8 * (s.size:Int))) ((((s ++ (⟨#[128]⟩:ByteArray)) ++ impl_hash.zeros ((119 - s.size % 64) % 64)) ++ impl_hash.n8 (8 * (s.size:Int))).size / 64)) 8
def impl_hash.T6:Bool × List (List Nat × List Nat):=(τ,[([],[]),([],[]),([],[]),([],[]),([],[]),([4],[4]),([2,3,5],[2,3,5]),([0,1,6],[0,1,6]),([7,7,0,1,2,3,4,5,6,7],[7])])
def impl_hash.B6:List Nat:=[0,0,0,0,0,16,60,127,255]
theorem impl_hash.tab6:rtab .any (opsOf Try.f64 6)=impl_hash.T6:=by kernel_rfl
theorem impl_hash.bits6:waitsOk impl_hash.T6.2 impl_hash.B6=τ:=by kernel_rfl
theorem impl_hash.run (s:ByteArray) (w:World) (hs:s.size≤1000000) :
  Calls Try.prog 64 #[.string s] w fun e w'=>e = .returned (.string (impl_hash.v s))∧Below w.heap.size w w':=by
 have hu8:=Try.underlying114
 have hu64:=Try.underlying116
 have hu9:=Try.underlying9
 have HB:=ζa (Below.refl w.heap.size w)
 go_enter Try.func64,Try.ntmps64
 obtain ⟨c,hc⟩ : ∃ c:Nat,c=(119 - s.size % 64) % 64:=⟨_,rfl⟩
 have hc64:c<64:=by rw [hc];omega
 have e16:(119 - (s.size:Int) % 64) % 64=(c:Int):=by omega
 have hr:strings_Repeat.f (⟨#[0]⟩:ByteArray) (c:Int)=some (impl_hash.zeros c):=by
  unfold strings_Repeat.f impl_hash.zeros
  rw [if_pos ⟨by omega,by omega,by decide⟩,Int.toNat_natCast]
 have HR:=ζa hr
 have HCC:=ζa hc
 have hz:=impl_hash.zeros_size c
 have h8:=impl_hash.n8_size (8 * (s.size:Int))
 clear hc
 have HN:=ζa (impl_hash.num8 (8 * (s.size:Int)))
 clear hr
 go_upto_region 2 with (first
  | ((with_reducible refine δx (N:=17) rfl ?_);refine goesL_ (some 17) rfl rfl Try.func85 (by kernel_rfl) rfl #[.string (⟨#[0]⟩:ByteArray),.int .i64 (c:Int)] rfl (by (try simp only [δd,δe,δf]);first|done|rfl|(rw [← e16];rfl)) ?_;(with_reducible refine (strings_Repeat.calls _ _ _ _ HR.out).mono ?_);rintro e w_ ⟨rfl,hb⟩;refine ⟨_,rfl,?_⟩;have n0_:=ζa (δr (by repeat (first|exact HB.out|apply δk|apply δi|apply δj)) hb);clear HB;have HB:=n0_;clear n0_ hb)
  | ((with_reducible refine δx (N:=22) rfl ?_);refine goesL_ (some 22) rfl rfl Try.func67 (by kernel_rfl) rfl #[.int .i64 (8 * (s.size:Int)),.int .i64 8] rfl (by (try simp only [δd,δe,δf]);first|done|rfl) ?_;(with_reducible refine (impl_number.calls 10 _ _ _ _ HN.out).mono ?_);rintro e w_ ⟨rfl,hb⟩;refine ⟨_,rfl,?_⟩;have n0_:=ζa (δr (by repeat (first|exact HB.out|apply δk|apply δi|apply δj)) hb);clear HB;have HB:=n0_;clear n0_ hb))
 obtain ⟨ALL,hALL⟩ : ∃ t:ByteArray,t=((s ++ (⟨#[128]⟩:ByteArray)) ++ impl_hash.zeros c) ++ impl_hash.n8 (8 * (s.size:Int)):=⟨_,rfl⟩
 have hsz:ALL.size=s.size+1+c+8:=by
  rw [hALL,ByteArray.size_append,ByteArray.size_append,ByteArray.size_append,hz,h8]
  rfl
 rw [← hALL]
 obtain ⟨nb,hnb⟩ : ∃ n:Nat,ALL.size=64 * n:=⟨ALL.size / 64,by rw [hsz];have:=HCC.out;omega⟩
 have HALL:=ζa hALL
 have HNB:=ζa hnb
 have HSZ:=ζa hsz
 clear hALL hnb hsz hz h8 e16 HR HN
 obtain ⟨W0,hW0⟩ : ∃ l:List Int,impl_hashWords.f=some l:=⟨_,rfl⟩
 obtain ⟨KK,hK⟩ : ∃ l:List Int,impl_roundWords.f=some l:=⟨_,rfl⟩
 have lW:W0.length=8:=by have e:=Option.some.inj hW0;rw [← e];rfl
 have lK:KK.length=64:=by have e:=Option.some.inj hK;rw [← e];rfl
 have HW0:=ζa hW0
 have HK:=ζa hK
 have LW:=ζa lW
 have LK:=ζa lK
 clear hW0 hK lW lK
 go_wp2_with (first
  | ((with_reducible refine δx (N:=24) rfl ?_);refine goesL_ (some 24) rfl rfl Try.func86 (by kernel_rfl) rfl #[] rfl (by (try simp only [δd,δe,δf]);first|done|rfl) ?_;(with_reducible refine (impl_hashWords.calls _ _ HW0.out).mono ?_);rintro e w_ ⟨rfl,hb⟩;refine ⟨_,rfl,?_⟩;replace HB:=ζa (δr (by repeat (first|exact HB.out|apply δk|apply δi|apply δj)) hb);clear hb)
  | ((with_reducible refine δx (N:=25) rfl ?_);refine goesL_ (some 25) rfl rfl Try.func87 (by kernel_rfl) rfl #[] rfl (by (try simp only [δd,δe,δf]);first|done|rfl) ?_;(with_reducible refine (impl_roundWords.calls _ _ HK.out).mono ?_);rintro e w_ ⟨rfl,hb⟩;refine ⟨_,rfl,?_⟩;replace HB:=ζa (δr (by repeat (first|exact HB.out|apply δk|apply δi|apply δj)) hb);clear hb)
  | ((with_reducible refine δx (N:=4) rfl ?_);refine δz ?hg (N:=4) ?hd (cs:=(((List.replicate 8 (0:Int)).map (Value.int .u32)).toArray)) (t:=114) ?hr ?_;(case hd=>rfl);(case hg=>rfl);(case hr=>first|(go_simp;done)|(go_simp;rfl));intro g4 hg w_ hbox hb;have G4:=ζa ((by rw [hg];exact δs (show Below w.heap.size w _ from by repeat (first|exact HB.out|apply δk|apply δi|apply δj))):w.heap.size≤g4);replace HB:=ζa (δr (by repeat (first|exact HB.out|apply δk|apply δi|apply δj)) hb);have B4:=ζa hbox;clear hb hbox hg)
  | ((with_reducible refine δx (N:=5) rfl ?_);refine δz ?hg (N:=5) ?hd (cs:=(((List.replicate 64 (0:Int)).map (Value.int .u32)).toArray)) (t:=116) ?hr ?_;(case hd=>rfl);(case hg=>rfl);(case hr=>first|(go_simp;done)|(go_simp;rfl));intro g5 hg w_ hbox hb;have G5:=ζa ((by rw [hg];exact δs (show Below w.heap.size w _ from by repeat (first|exact HB.out|apply δk|apply δi|apply δj))):w.heap.size≤g5);have n0_:=ζa (blk_below B4.out hb);have n1_:=ζa (δr (by repeat (first|exact HB.out|apply δk|apply δi|apply δj)) hb);clear B4 HB;have B4:=n0_;have HB:=n1_;clear n0_ n1_;have B5:=ζa hbox;clear hb hbox hg)
  | ((with_reducible refine gate_store (t:=114) (p:=4) rfl ?_);refine row_event2 rfl 114 (.tmp 4) (.tmp 24) rfl g4 ((W0.map (Value.int .u32)).toArray) ?hx ?hy B4.out ?hi ?ho arr_one ?_;(case hx=>rfl);(case hy=>rfl);(case hi=>(rw [arr_size,LW.out];kernel_rfl));(case ho=>(rw [arr_size,arr_size,LW.out];rfl));intro w1 hw1;have n0_:Aside0 (Below w.heap.size w w1):=⟨by rw [hw1];exact setRow_below HB.out G4.out⟩;have n1_:Aside0 (w1.heap[g4]? = some (.cells ((W0.map (Value.int .u32)).toArray) 114 (0,0))):=⟨by rw [hw1];exact setRow_self B4.out⟩;have m0_:Aside0 (w1.heap[g5]? = some (.cells (((List.replicate 64 (0:Int)).map (Value.int .u32)).toArray) 116 (0,0))):=⟨by rw [hw1];exact (setRow_other (blk_ne B4.out B5.out (by decide))).trans B5.out⟩;clear B4 HB B5 hw1;have HB:=n0_;have B4:=n1_;have B5:=m0_;clear n0_ n1_ m0_)
  | ((with_reducible refine gate_store (t:=116) (p:=5) rfl ?_);refine row_event2 rfl 116 (.tmp 5) (.tmp 25) rfl g5 ((KK.map (Value.int .u32)).toArray) ?hx ?hy B5.out ?hi ?ho arr_one ?_;(case hx=>rfl);(case hy=>rfl);(case hi=>(rw [arr_size,LK.out];kernel_rfl));(case ho=>(rw [arr_size,arr_size,LK.out];rfl));intro w1 hw1;have n0_:Aside0 (Below w.heap.size w w1):=⟨by rw [hw1];exact setRow_below HB.out G5.out⟩;have n1_:Aside0 (w1.heap[g5]? = some (.cells ((KK.map (Value.int .u32)).toArray) 116 (0,0))):=⟨by rw [hw1];exact setRow_self B5.out⟩;have m0_:Aside0 (w1.heap[g4]? = some (.cells ((W0.map (Value.int .u32)).toArray) 114 (0,0))):=⟨by rw [hw1];exact (setRow_other (blk_ne B5.out B4.out (by decide))).trans B4.out⟩;clear B5 HB B4 hw1;have HB:=n0_;have B5:=n1_;have B4:=m0_;clear n0_ n1_ m0_))
 go_loopg [6] nb (fun kq v6 w' => ∃ i:Nat,v6 = .int .i64 ((64 * i:Nat):Int)∧Aside0 (i+kq=nb)∧Aside0 (w'.heap[g4]? = some (.cells (((impl_hash.st KK W0 ALL i).map (Value.int .u32)).toArray) 114 (0,0)))∧Aside0 (w'.heap[g5]? = some (.cells ((KK.map (Value.int .u32)).toArray) 116 (0,0)))∧Aside0 (Below w.heap.size w w'))
 case atStart=>exact ⟨0,rfl,⟨by omega⟩,⟨by repeat (exact B4.out)⟩,⟨by repeat (exact B5.out)⟩,⟨by repeat (exact HB.out)⟩⟩
 case round =>
  clear B4 B5 HB
  obtain ⟨i,rfl,HI,B4,B5,HB⟩:=hrel
  cases gk with
  | zero =>
   have hi:i=nb:=HI.out
   subst hi
   have hn:(64 * i:Nat)=ALL.size:=HNB.out.symm
   rw [hn]
   obtain ⟨ST,hST⟩ : ∃ l:List Int,l=impl_hash.st KK W0 ALL i:=⟨_,rfl⟩
   rw [← hST] at B4
   have L8:=ζa (show ST.length=8 by rw [hST];exact impl_hash.st_len KK W0 ALL LW.out i)
   have HOUT:=ζa (show impl_hash.v s=impl_hash.tx ST 8 by
    unfold impl_hash.v
    rw [hST]
    have eW:=HW0.out
    have eK:=HK.out
    have eA:=HALL.out
    have eC:=HCC.out
    have eN:=HNB.out
    rw [← eC,← eA,eN,Nat.mul_div_cancel_left _ (by decide:0<64),eW,eK]
    rfl)
   have HST:=ζa hST
   clear hST hn HI
   go_wp2_with (first
    | ((with_reducible refine δx (N:=40) rfl ?_);refine wpList_load_row rfl 114 (.tmp 4) rfl g4 ?hx _ ((ST.map (Value.int .u32)).toArray) (0,0) _ B4.out hu8 rfl ?hi ?_;(case hx=>rfl);(case hi=>(rw [arr_size,L8.out];kernel_rfl))))
   go_loopg [7,41] 8 (fun kq v7 v41 w' => ∃ j:Nat,v41 = .int .i64 (j:Int)∧v7 = .string (impl_hash.tx ST j)∧Aside0 (j+kq=8)∧Aside0 (Below w.heap.size w w'))
   case atStart=>exact ⟨0,rfl,rfl,⟨rfl⟩,⟨by repeat (exact HB.out)⟩⟩
   case round =>
    clear B4 B5 HB
    obtain ⟨j,rfl,rfl,HI,HB⟩:=hrel
    cases gk with
    | zero =>
     have hi:j=8:=HI.out
     subst hi
     go_wp2
     go_ret
     exact ⟨by rw [HOUT.out];rfl,HB.out⟩
    | succ k1 =>
     have hi:=HI.out
     have hi8:(j:Int)<8:=by omega
     have c8:decide ((j:Int)<8)=τ:=decide_eq_true hi8
     have x8:((j:Int)<8)=True:=eq_true hi8
     have z0:(0≤(j:Int))=True:=eq_true (by omega)
     have ld:=fun W:World=>impl_hash.index_row (W:=W) L8.out (j:=j) (by omega)
     have HN4:=ζa (impl_hash.num4 (ζm (rd ST (j:Int))))
     have t1:=impl_hash.tx_size ST j
     have t2:=impl_hash.n4_size (ζm (rd ST (j:Int)))
     have INC:=ζa (show ζm ((j:Int)+1)=((j+1:Nat):Int) by rw [IntWalk.wrap64_in _ ⟨by omega,by omega⟩];rfl)
     clear hi
     go_wp2_with (first
      | ((with_reducible refine δx (N:=47) rfl ?_);refine goesL_ (some 47) rfl rfl Try.func67 (by kernel_rfl) rfl #[.int .i64 (ζm (rd ST (j:Int))),.int .i64 4] rfl (by (try simp only [δd,δe,δf]);first|done|rfl) ?_;(with_reducible refine (impl_number.calls 6 _ _ _ _ HN4.out).mono ?_);rintro e w_ ⟨rfl,hb⟩;refine ⟨_,rfl,?_⟩;have n0_:=ζa (δr (by repeat (first|exact HB.out|apply δk|apply δi|apply δj)) hb);clear HB;have HB:=n0_;clear n0_ hb))
     go_roundg k1
     case measure=>omega
     case rel=>exact ⟨j+1,by first|rfl|rw [INC.out],rfl,⟨by have:=HI.out;omega⟩,HB⟩
  | succ k1 =>
   have hi:=HI.out
   have hlt:(((64 * i:Nat):Int)<(ALL.size:Int)):=by rw [HNB.out];omega
   have c1:decide (((64 * i:Nat):Int)<(ALL.size:Int))=τ:=decide_eq_true hlt
   have hsm:ALL.size≤1000100:=by rw [HSZ.out];omega
   obtain ⟨a0,ha0⟩ : ∃ n:Nat,n=64 * i:=⟨_,rfl⟩
   rw [← ha0]
   rw [← ha0] at hlt c1
   have inc:ζm ((a0:Int)+64)=(a0:Int)+64:=IntWalk.wrap64_in _ ⟨by omega,by omega⟩
   have hle:a0+64≤ALL.size:=by rw [HNB.out,ha0];omega
   have sl : ∀ W:World,(Instr.slice 9 (.string ALL) (some (.int .i64 (a0:Int))) (some (.int .i64 ((a0:Int)+64))) none).run Try.prog W = .ok (.string (ALL.extract a0 (a0+64))) W:=fun W=>by
    have e:=run_slice_string (P:=Try.prog) W 9 ALL .i64 .i64 (a0:Int) ((a0:Int)+64) hu9 (by omega) (by omega) (by omega)
    rwa [show ((a0:Int)+64).toNat=a0+64 by omega,Int.toNat_natCast] at e
   have x1:((a0:Int)<(ALL.size:Int))=True:=eq_true hlt
   have x2:(a0<ALL.size)=True:=eq_true (by omega)
   have L8:=ζa (show (impl_hash.st KK W0 ALL i).length=8 from impl_hash.st_len KK W0 ALL LW.out i)
   have HA0:=ζa ha0
   have HLT:=ζa hlt
   have HLE:=ζa hle
   have HSM:=ζa hsm
   clear hi hlt hsm ha0 hle
   obtain ⟨ST,hST⟩ : ∃ l:List Int,l=impl_hash.st KK W0 ALL i:=⟨_,rfl⟩
   rw [← hST] at B4 L8
   have HST:=ζa hST
   clear hST
   have ext64:(ALL.extract a0 (a0+64)).size=64:=by rw [ByteArray.size_extract];have:=HLE.out;omega
   have E64:=ζa ext64
   clear ext64
   go_upto_region 6 with (fail)
   try go_wp2
   have n0_:=ζa (δp B4.out)
   have n1_:=ζa (δp B5.out)
   clear B4 B5
   have B4:=n0_
   have B5:=n1_
   clear n0_ n1_
   replace HB:=ζa (δj HB.out)
   refine sta 9 (fun w'=>w'.heap[g4]? = some (.cells ((ST.map (Value.int .u32)).toArray) 114 (0,0))∧w'.heap[g5]? = some (.cells ((KK.map (Value.int .u32)).toArray) 116 (0,0))) [8] impl_hash.tab6 impl_hash.bits6 ⟨B4.out,B5.out⟩ (fun hHeld HT_ HW_ => ?_)
   generalize wr.drew=wd_ at B4 B5 HB hHeld ⊢
   refine take_ (i:=0) (N:=some 32) (v:=?_) (a':=?_) #[τ,φ,φ,φ,φ,φ,φ,φ,φ] rfl rfl (take_ofW HT_.out HW_.out (by kernel_rfl)) (fun _ _ _ h=>h) (Or.inl ⟨by rfl,?_⟩) hHeld ?_ ?_
   rotate_left
   ·
    rintro w' ⟨s0,s1⟩
    refine impl_blockHash.exec_load (ty:=114) (x:=.tmp 4) ?_ ?_ s0 hu8 rfl ((show _=some 8 from by kernel_rfl).trans (congrArg some (show 8=_ by rw [arr_size,L8.out])))
    · rfl
    ·
     rfl
   rotate_left
   · simp only [ζl,δa,δb,δc,i64_w,i32_w];rfl
   refine take_ (i:=1) (N:=some 33) (v:=?_) (a':=?_) #[τ,τ,φ,φ,φ,φ,φ,φ,φ] rfl rfl (take_ofW HT_.out HW_.out (by kernel_rfl)) (fun _ _ _ h=>h) (Or.inl ⟨by rfl,?_⟩) hHeld ?_ ?_
   rotate_left
   ·
    rintro w' ⟨s0,s1⟩
    refine impl_blockHash.exec_load (ty:=116) (x:=.tmp 5) ?_ ?_ s1 hu64 rfl ((show _=some 64 from by kernel_rfl).trans (congrArg some (show 64=_ by rw [arr_size,LK.out])))
    · rfl
    ·
     rfl
   rotate_left
   · simp only [ζl,δa,δb,δc,i64_w,i32_w];rfl
   refine pu 2 34 ?_
   refine pu 3 35 ?_
   refine pu 4 36 ?_
   refine pu 5 37 ?_
   refine pu 6 38 ?_
   refine on 7 39 (fun K hK => ?_)
   refine gs Try.func88 #[.agg ((ST.map (Value.int .u32)).toArray),.agg ((KK.map (Value.int .u32)).toArray),.string (ALL.extract a0 (a0+64))] ?_
   with_reducible refine (impl_blockHash.calls ST KK (ALL.extract a0 (a0+64)) _ L8.out LK.out E64.out).mono ?_
   rintro e w_ ⟨rfl,hb⟩
   refine ⟨_,rfl,?_⟩
   have n0_:=ζa (blk_below B4.out hb)
   have n1_:=ζa (blk_below B5.out hb)
   have n2_:=ζa (δr (by repeat (exact HB.out)) hb)
   clear B4 B5 HB
   have B4:=n0_
   have B5:=n1_
   have HB:=n2_
   clear n0_ n1_ n2_
   clear hb
   refine hK.out _ _ ⟨B4.out,B5.out⟩ (fun hHeld => ?_)
   clear hK K
   refine nm 39 ?_
   refine last_ (i:=8) (N:=none) #[τ,τ,τ,τ,τ,τ,τ,τ,τ] rfl rfl (one_of HT_.out (by kernel_rfl)) (by decide) (fun K hK => ?_)
   refine skip_ (w1:=w_.setRow g4 (((impl_blockHash.out ST KK (ALL.extract a0 (a0+64))).map (Value.int .u32)).toArray)) (by rfl) rfl ?_ ?_
   ·
    refine impl_blockHash.exec_store (ty:=114) (x:=.tmp 4) (y:=.tmp 39) ?_ ?_ ?_ B4.out ?_ ?_ arr_one
    · rfl
    ·
     rfl
    · rfl
    ·
     rw [arr_size,impl_hash.out_len _ _ _ L8.out];kernel_rfl
    · rw [arr_size,arr_size,impl_hash.out_len _ _ _ L8.out,L8.out]
   have n0_:=ζa (setRow_self (cs:=(((impl_blockHash.out ST KK (ALL.extract a0 (a0+64))).map (Value.int .u32)).toArray)) B4.out)
   have n1_:=ζa ((setRow_other (cs:=(((impl_blockHash.out ST KK (ALL.extract a0 (a0+64))).map (Value.int .u32)).toArray)) (blk_ne B4.out B5.out (by decide))).trans B5.out)
   have n2_:=ζa (setRow_below (cs:=(((impl_blockHash.out ST KK (ALL.extract a0 (a0+64))).map (Value.int .u32)).toArray)) HB.out G4.out)
   clear B4 B5 HB
   have B4:=n0_
   have B5:=n1_
   have HB:=n2_
   clear n0_ n1_ n2_
   refine hK.out _ _ ?_
   clear hK K
   refine done_ (done_of HT_.out (by kernel_rfl)) ?_
   go_wp2
   go_roundg k1
   case measure=>omega
   case rel =>
    have hR:impl_hash.st KK W0 ALL (i+1)=impl_blockHash.out ST KK (ALL.extract a0 (a0+64)):=by rw [HST.out,HA0.out];rfl
    refine ⟨i+1,?_,⟨by have:=HI.out;omega⟩,⟨?_⟩,⟨by repeat (exact B5.out)⟩,⟨by repeat (exact HB.out)⟩⟩
    ·
     first
      | (rw [INC.out,HA0.out];rfl)
      | (congr 1;have:=HA0.out;omega)
    ·
     rw [hR]
     exact B4.out
def impl_hash.f (a0:ByteArray):Option ByteArray:=if a0.size≤1000000 then some (impl_hash.v a0) else none
theorem impl_hash.calls (a0:ByteArray) (r:ByteArray) (w:World) (h:impl_hash.f a0=some r) :
  Calls Try.prog 64 #[.string a0] w fun e w'=>e = .returned (.string r)∧Below w.heap.size w w':=by
 unfold impl_hash.f at h
 split at h
 ·
  rename_i hc
  cases h
  exact impl_hash.run a0 w hc
 · cases h


open Go.Proofs.YtggemblkhckbpaaW.PrintWords renaming gate_callee → δv, below_step → δr
set_option maxHeartbeats 8000000
set_option maxRecDepth 100000

/-! ### impl_firstHash: function 42 -/
def impl_firstHash.f  : Option (ByteArray):=(impl_hash.f (⟨#[102,105,114,115,116]⟩:ByteArray)).bind fun t117=>(some t117)
theorem impl_firstHash.calls  (r:ByteArray) (w:World) (h:impl_firstHash.f  = some r) :
  Calls Try.prog 42 #[] w fun e w'=>e = .returned (.string r)∧Below w.heap.size w w':=by
 have HB:=ζa (Below.refl w.heap.size w)
 have H:((impl_hash.f (⟨#[102,105,114,115,116]⟩:ByteArray)).bind fun t117=>(some t117))=some r:=h
 clear h
 obtain ⟨t117,A1,H⟩:=bsm H
 obtain rfl:=Option.some.inj H
 go_enter Try.func42,Try.ntmps42
 go_wp2_with (((with_reducible refine δv (f:=64) rfl ?_);refine gl 1 Try.func64 #[.string (⟨#[102,105,114,115,116]⟩:ByteArray)] ?_;(with_reducible refine (impl_hash.calls (⟨#[102,105,114,115,116]⟩:ByteArray) t117 _ A1.out).mono ?_);rintro e w2 ⟨rfl,hb⟩;refine ⟨_,rfl,?_⟩;replace HB:=ζa (δr (by exact HB.out) hb);(try clear hb);(try clear hb2);(try clear hk);(try clear hi)))
 go_ret
 exact ⟨by rfl,by repeat ((with_reducible exact HB.out))⟩


open Go.Proofs.YtggemblkhckbpaaW.PrintWords renaming gate_dst → δx, below_step → δr, blk_drew → δp, below_drew1 → δj, blk_cell → δl, below_size → δs, blk_drewN → δn, pw_below_drewN → δi, blk_frozen → δm, blk_put → δw, below_set → δq
open List renaming setIfInBounds_toArray → δa, set_cons_zero → δb, set_cons_succ → δc
open Go.Proofs.YtggemblkhckbpaaW.PrintWords.Kd renaming R_reads' → ζg, R_below → ζh, R_drewN → ζc
open Go.Proofs.YtggemblkhckbpaaW.PrintLast renaming pure_ → ζk, any_of → ζj
set_option maxHeartbeats 8000000
set_option maxRecDepth 100000

/-! ### impl_ClientOK: function 14 -/
mutual
def impl_ClientOK.j0:Nat→Bool→ByteArray→List (S39)→Option (Bool)
 | 0,_,_,_=>none
 | k+1,x21,x119000,x119001=>if x21=τ then (some φ) else (impl_ClientOK.l0 k x119001 (x119001.length:Int) 0 x119000 x119001)
def impl_ClientOK.l0:Nat→List (S39)→Int→Int→ByteArray→List (S39)→Option (Bool)
 | 0,_,_,_,_,_=>none
 | k+1,x23,x24,x25,x119000,x119001=>if x25<x24 then (if 0≤x25 then (if x25<(x23.length:Int) then ((impl_isTime.f ((rd_T39 x23 x25).f0)).bind fun t126=>(if t126=τ then ((impl_isHash.f (([(rd_T39 x23 x25).f1]:List ByteArray))).bind fun t130=>(if t130=τ then (if x25 > 0 then (if 0≤(ζm (x25 - 1)) then (if (ζm (x25 - 1))<(x119001.length:Int) then (if ((rd_T39 x119001 (ζm (x25 - 1))).f0) > ((rd_T39 x23 x25).f0) then (some φ) else (impl_ClientOK.l0 k x23 x24 (ζm (x25+1)) x119000 x119001)) else (none)) else (none)) else (impl_ClientOK.l0 k x23 x24 (ζm (x25+1)) x119000 x119001)) else (some φ))) else (some φ))) else (none)) else (none)) else (some (decide ((x119001.length:Int)≤60)))
end
def impl_ClientOK.f (k:Nat) (a0_0:ByteArray) (l0_1:List (S39)):Option (Bool):=(impl_isHash.f (([a0_0]:List ByteArray))).bind fun t122=>(if t122=τ then (if (l0_1.length:Int)=0 then ((impl_firstHash.f).bind fun t123=>(impl_ClientOK.j0 k (a0_0.toList != t123.toList) a0_0 l0_1)) else (impl_ClientOK.j0 k φ a0_0 l0_1)) else (impl_ClientOK.j0 k τ a0_0 l0_1))
def impl_ClientOK.T1:Bool × List (List Nat × List Nat):=(τ,[([],[]),([0],[0]),([1],[1]),([2],[2]),([3],[3]),([4,3],[4]),([5],[5]),([6,5],[5,6]),([7,5],[5,7]),([8,5],[5,8]),([9,5,5],[5,9]),([10],[10]),([11,10],[10,11]),([10,10],[10]),([12,13,10],[10,12,13]),([10,14,5],[5,10,14]),([5,15],[5,15])])
def impl_ClientOK.B1:List Nat:=[0,1,3,7,15,31,63,127,255,511,1023,2047,4095,2047,16383,32767,65535]
theorem impl_ClientOK.tab1:rtab .any (opsOf Try.f14 1)=impl_ClientOK.T1:=by kernel_rfl
theorem impl_ClientOK.bits1:waitsOk impl_ClientOK.T1.2 impl_ClientOK.B1=τ:=by kernel_rfl
def impl_ClientOK.T6:Bool × List (List Nat × List Nat):=(τ,[([],[]),([0],[0]),([1],[1]),([2],[2]),([3,2],[3]),([4],[4]),([5,4],[4,5]),([6,4],[4,6]),([7,4,4],[4,7]),([8,4],[4,8]),([4,9],[4,9]),([10,8],[10]),([11],[11]),([12,11],[11,12]),([13,11,11],[11,13]),([14],[14]),([15,14],[14,15]),([14],[14]),([17,14],[14,17]),([16,18,14],[14,16,18]),([19,14],[14,19]),([20,14],[14,20]),([14],[14]),([22,14],[14,22]),([21,23,14],[14,21,23]),([14,24,11],[11,14,24]),([11,25],[11,25])])
def impl_ClientOK.B6:List Nat:=[0,1,3,7,15,31,63,127,255,511,1023,2047,4095,8191,16383,32767,65535,32767,163839,524287,1048575,2097151,32767,4227071,16777215,33554431,67108863]
theorem impl_ClientOK.tab6:rtab .any (opsOf Try.f14 6)=impl_ClientOK.T6:=by kernel_rfl
theorem impl_ClientOK.bits6:waitsOk impl_ClientOK.T6.2 impl_ClientOK.B6=τ:=by kernel_rfl
theorem impl_ClientOK.calls (k:Nat) (a0_0:ByteArray) (A0_1:Option Addr) (c0_1:Nat) (l0_1:List (S39)) (r:Bool) (w:World) (hr0_1:Kd.C k39 w A0_1 l0_1.length l0_1) (hc0_1:l0_1.length≤c0_1) (h:impl_ClientOK.f k a0_0 l0_1=some r) :
  Calls Try.prog 14 #[.agg #[.string a0_0,.slice A0_1 l0_1.length c0_1]] w fun e w'=>e = .returned (.bool r)∧Below w.heap.size w w':=by
 have hu25:=Try.underlying25
 have hu39:=Try.underlying39
 have HR0_1:=ζa hr0_1
 have HC0_1:=ζa hc0_1
 clear hr0_1 hc0_1
 have HB:=ζa (Below.refl w.heap.size w)
 have H:((impl_isHash.f (([a0_0]:List ByteArray))).bind fun t122=>(if t122=τ then (if (l0_1.length:Int)=0 then ((impl_firstHash.f).bind fun t123=>(impl_ClientOK.j0 k (a0_0.toList != t123.toList) a0_0 l0_1)) else (impl_ClientOK.j0 k φ a0_0 l0_1)) else (impl_ClientOK.j0 k τ a0_0 l0_1)))=some r:=h
 clear h
 have HC2:=ζa H
 clear H
 go_enter Try.func14,Try.ntmps14
 go_upto_region 1 with (((with_reducible refine δx (N:=1) rfl ?_);(try (refine gate_guard (by rfl) ?_;dsimp only));refine bev 1 #[.string a0_0,.slice A0_1 l0_1.length c0_1] 25 ?_;intro gb118 hg w3 hbox hb;have BK118:=ζa (hbox);have GW118:=ζa (gbw hg (by exact HB.out));have GE118:=ζa (gbw hg (by exact HB.out));replace HB:=ζa (δr (by exact HB.out) hb);clear hb hbox hg))
 (try simp only [ζl,δa,δb,δc])
 go_cut [21] (fun v21 wc => ∃ (kq:Nat) (x21_1:Bool),v21 = .bool x21_1∧Aside0 (impl_ClientOK.j0 kq x21_1 a0_0 l0_1=some r)∧Aside0 (kq≤k)∧Aside0 (wc.heap[gb118]? = some (.cells #[.string a0_0,(.slice A0_1 l0_1.length c0_1)] 25 (0,0)))∧Aside0 (Below w.heap.size w wc))
 case first =>
  have H:=HC2.out
  clear HC2
  obtain ⟨y119,hy119⟩ : ∃ y_:List ByteArray,y_=(([a0_0]:List ByteArray)):=⟨_,rfl⟩
  replace H:((impl_isHash.f y119).bind fun t122=>(if t122=τ then (if (l0_1.length:Int)=0 then ((impl_firstHash.f).bind fun t123=>(impl_ClientOK.j0 k (a0_0.toList != t123.toList) a0_0 l0_1)) else (impl_ClientOK.j0 k φ a0_0 l0_1)) else (impl_ClientOK.j0 k τ a0_0 l0_1)))=some r:=by (rw [hy119];with_reducible exact H)
  have Ny119:=ζa hy119
  clear hy119
  obtain ⟨t122,A4,H⟩:=bsm H
  by_cases c5:t122=τ
  ·
   subst c5
   rw [ifT] at H
   by_cases c6:(l0_1.length:Int)=0
   ·
    rw [if_pos c6] at H
    have c6b0:=beq_iff_eq.mpr c6
    have c6b1:=bne_eq_false_iff_eq.mpr c6
    clear c6
    obtain ⟨t123,A7,H⟩:=bsm H
    have H':=ζa H
    clear H
    try go_wp2
    replace BK118:=ζa (δp BK118.out)
    replace HB:=ζa (δj HB.out)
    refine sta 17 (fun w'=>w'.cell? ⟨gb118,0,none⟩=some (.string a0_0)∧w'.cell? ⟨gb118,1,none⟩=some (.slice A0_1 l0_1.length c0_1)) [] impl_ClientOK.tab1 impl_ClientOK.bits1 ⟨(δl BK118.out 0).trans rfl,(δl BK118.out 1).trans rfl⟩ (fun hHeld HT_ HW_ => ?_)
    generalize w3.drew=w8 at BK118 HB hHeld ⊢
    refine pu 0 5 ?_
    refine ta 1 6 ?_
    refine on 2 7 (fun K hK => ?_)
    refine Kd.R_lit_step Kd.string _ 9 ?hg (N:=7) ?hd (xs:=([a0_0]:List ByteArray)) (inner:=[.string a0_0]) (ok:=fun _=>True) (okp:=fun _=>True) ?hr ?hp (fun _ hk=>hk) trivial (Below.refl _ _) (Nat.le_refl _) (by simp) ?_;(case hd=>rfl);(case hg=>rfl);(case hr=>(go_simp;done));(case hp=>exact (Reps.one (show Kd.M Kd.string _ _ _ a0_0 [.string a0_0] from rfl) (Reps.none _ _)))
    intro v120 w9 ho10 hb hg_ hnew_
    clear hg_ hnew_
    (rw [← Ny119.out] at ho10)
    have HO121:=ζa (Kd.R_lower ho10 (δs (by exact HB.out)))
    replace BK118:=ζa (blk_below (g:=gb118) (o:=.cells #[.string a0_0,.slice A0_1 l0_1.length c0_1] 25 (0,0)) (by exact BK118.out) hb)
    replace HB:=ζa (δr (by exact HB.out) hb)
    clear hb ho10
    obtain ⟨Ao11,co11,eo11⟩:=Kd.R_slice HO121.out
    (subst eo11)
    refine hK.out _ _ ⟨(δl BK118.out 0).trans rfl,(δl BK118.out 1).trans rfl⟩ (fun hHeld => ?_)
    clear hK K
    refine nm 7 ?_
    refine on 3 8 (fun K hK => ?_)
    refine gs Try.func41 #[.slice Ao11 y119.length co11] ?_
    with_reducible refine (impl_isHash.calls _ _ y119 τ _ ?side1 ?side2 A4.out).mono ?_
    (case side1=>repeat (exact (ζg HO121.out).2.2))
    (case side2=>exact (ζg HO121.out).2.1)
    rintro e w' ⟨rfl,⟨nd,rfl⟩⟩
    refine ⟨_,rfl,?_⟩
    refine hK.out _ _ ⟨(δl BK118.out 0).trans rfl,(δl BK118.out 1).trans rfl⟩ (fun hHeld => ?_)
    clear hK K
    refine nm 8 ?_
    refine pu 4 9 ?_
    refine pu 5 10 ?_
    refine pu 6 11 ?_
    refine ta 7 12 ?_
    refine pu 8 13 ?_
    refine pu 9 14 ?_
    refine pu 10 15 ?_
    refine pu 11 16 ?_
    refine ta 12 17 ?_
    refine on 13 18 (fun K hK => ?_)
    refine gs Try.func42 #[] ?_
    with_reducible refine (impl_firstHash.calls  t123 _ A7.out).mono ?_
    rintro e w12 ⟨rfl,hb⟩
    refine ⟨_,rfl,?_⟩
    replace HO121:=ζa (ζh (by (with_reducible repeat (apply ζc));exact HO121.out) hb)
    replace BK118:=ζa (blk_below (g:=gb118) (o:=.cells #[.string a0_0,.slice A0_1 l0_1.length c0_1] 25 (0,0)) (by (with_reducible repeat (refine δn ?_ _));exact BK118.out) hb)
    replace HB:=ζa (δr (by repeat ((with_reducible first|exact HB.out|apply δi))) hb)
    (try clear hb)
    (try clear hb2)
    (try clear hk)
    (try clear hi)
    refine hK.out _ _ ⟨(δl BK118.out 0).trans rfl,(δl BK118.out 1).trans rfl⟩ (fun hHeld => ?_)
    clear hK K
    refine nm 18 ?_
    refine pu 14 19 ?_
    refine pu 15 20 ?_
    refine pu 16 21 ?_
    refine done_ (done_of HT_.out (by kernel_rfl)) ?_
    try go_wp2
    go_meet
    case rel=>exact ⟨_,((a0_0.toList != t123.toList)),(by rfl),H',⟨by omega⟩,⟨by exact BK118.out⟩,⟨by repeat ((with_reducible exact HB.out))⟩⟩
   ·
    rw [if_neg c6] at H
    have c6b0:=beq_eq_false_iff_ne.mpr c6
    have c6b1:=bne_iff_ne.mpr c6
    have c6b2 : ¬ (l0_1 = []):=fun h_=>c6 (by rw [h_];rfl)
    have H':=ζa H
    clear H
    try go_wp2
    replace BK118:=ζa (δp BK118.out)
    replace HB:=ζa (δj HB.out)
    refine sta 17 (fun w'=>w'.cell? ⟨gb118,0,none⟩=some (.string a0_0)∧w'.cell? ⟨gb118,1,none⟩=some (.slice A0_1 l0_1.length c0_1)) [] impl_ClientOK.tab1 impl_ClientOK.bits1 ⟨(δl BK118.out 0).trans rfl,(δl BK118.out 1).trans rfl⟩ (fun hHeld HT_ HW_ => ?_)
    generalize w3.drew=w13 at BK118 HB hHeld ⊢
    refine pu 0 5 ?_
    refine ta 1 6 ?_
    refine on 2 7 (fun K hK => ?_)
    refine Kd.R_lit_step Kd.string _ 9 ?hg (N:=7) ?hd (xs:=([a0_0]:List ByteArray)) (inner:=[.string a0_0]) (ok:=fun _=>True) (okp:=fun _=>True) ?hr ?hp (fun _ hk=>hk) trivial (Below.refl _ _) (Nat.le_refl _) (by simp) ?_;(case hd=>rfl);(case hg=>rfl);(case hr=>(go_simp;done));(case hp=>exact (Reps.one (show Kd.M Kd.string _ _ _ a0_0 [.string a0_0] from rfl) (Reps.none _ _)))
    intro v120 w14 ho15 hb hg_ hnew_
    clear hg_ hnew_
    (rw [← Ny119.out] at ho15)
    have HO121:=ζa (Kd.R_lower ho15 (δs (by exact HB.out)))
    replace BK118:=ζa (blk_below (g:=gb118) (o:=.cells #[.string a0_0,.slice A0_1 l0_1.length c0_1] 25 (0,0)) (by exact BK118.out) hb)
    replace HB:=ζa (δr (by exact HB.out) hb)
    clear hb ho15
    obtain ⟨Ao16,co16,eo16⟩:=Kd.R_slice HO121.out
    (subst eo16)
    refine hK.out _ _ ⟨(δl BK118.out 0).trans rfl,(δl BK118.out 1).trans rfl⟩ (fun hHeld => ?_)
    clear hK K
    refine nm 7 ?_
    refine on 3 8 (fun K hK => ?_)
    refine gs Try.func41 #[.slice Ao16 y119.length co16] ?_
    with_reducible refine (impl_isHash.calls _ _ y119 τ _ ?side1 ?side2 A4.out).mono ?_
    (case side1=>repeat (exact (ζg HO121.out).2.2))
    (case side2=>exact (ζg HO121.out).2.1)
    rintro e w' ⟨rfl,⟨nd,rfl⟩⟩
    refine ⟨_,rfl,?_⟩
    refine hK.out _ _ ⟨(δl BK118.out 0).trans rfl,(δl BK118.out 1).trans rfl⟩ (fun hHeld => ?_)
    clear hK K
    refine nm 8 ?_
    refine pu 4 9 ?_
    refine pu 5 10 ?_
    refine pu 6 11 ?_
    refine ta 7 12 ?_
    refine pu 8 13 ?_
    refine pu 9 14 ?_
    refine pu 10 15 ?_
    refine ζk (i:=11) (N:=some 16) (v:=undef) (a':=?_) #[τ,τ,τ,τ,τ,τ,τ,τ,τ,τ,τ,τ,φ,φ,φ,φ,φ] rfl rfl (ζj HT_.out (by kernel_rfl)) (fun _ _ _ h=>h) (Or.inr ⟨by rfl,rfl⟩) ?_ ?_
    rotate_left
    · simp only [ζl,δa,δb,δc,i64_w,i32_w];rfl
    refine ζk (i:=12) (N:=some 17) (v:=undef) (a':=?_) #[τ,τ,τ,τ,τ,τ,τ,τ,τ,τ,τ,τ,τ,φ,φ,φ,φ] rfl rfl (ζj HT_.out (by kernel_rfl)) (fun _ _ _ h=>h) (Or.inr ⟨by rfl,rfl⟩) ?_ ?_
    rotate_left
    · simp only [ζl,δa,δb,δc,i64_w,i32_w];rfl
    refine ζk (i:=13) (N:=some 18) (v:=undef) (a':=?_) #[τ,τ,τ,τ,τ,τ,τ,τ,τ,τ,τ,τ,τ,τ,φ,φ,φ] rfl rfl (ζj HT_.out (by kernel_rfl)) (fun _ _ _ h=>h) (Or.inr ⟨by rfl,rfl⟩) ?_ ?_
    rotate_left
    · simp only [ζl,δa,δb,δc,i64_w,i32_w];rfl
    refine ζk (i:=14) (N:=some 19) (v:=undef) (a':=?_) #[τ,τ,τ,τ,τ,τ,τ,τ,τ,τ,τ,τ,τ,τ,τ,φ,φ] rfl rfl (ζj HT_.out (by kernel_rfl)) (fun _ _ _ h=>h) (Or.inr ⟨by rfl,rfl⟩) ?_ ?_
    rotate_left
    · simp only [ζl,δa,δb,δc,i64_w,i32_w];rfl
    refine pu 15 20 ?_
    refine pu 16 21 ?_
    refine done_ (done_of HT_.out (by kernel_rfl)) ?_
    try go_wp2
    go_meet
    case rel=>exact ⟨_,(φ),(by rfl),H',⟨by omega⟩,⟨by (with_reducible repeat (refine δn ?_ _));exact BK118.out⟩,⟨by repeat ((with_reducible first|exact HB.out|apply δi))⟩⟩
  ·
   replace c5:=Bool.eq_false_iff.mpr c5
   subst c5
   rw [ifF] at H
   have H':=ζa H
   clear H
   try go_wp2
   replace BK118:=ζa (δp BK118.out)
   replace HB:=ζa (δj HB.out)
   refine sta 17 (fun w'=>w'.cell? ⟨gb118,0,none⟩=some (.string a0_0)∧w'.cell? ⟨gb118,1,none⟩=some (.slice A0_1 l0_1.length c0_1)) [] impl_ClientOK.tab1 impl_ClientOK.bits1 ⟨(δl BK118.out 0).trans rfl,(δl BK118.out 1).trans rfl⟩ (fun hHeld HT_ HW_ => ?_)
   generalize w3.drew=w17 at BK118 HB hHeld ⊢
   refine pu 0 5 ?_
   refine ta 1 6 ?_
   refine on 2 7 (fun K hK => ?_)
   refine Kd.R_lit_step Kd.string _ 9 ?hg (N:=7) ?hd (xs:=([a0_0]:List ByteArray)) (inner:=[.string a0_0]) (ok:=fun _=>True) (okp:=fun _=>True) ?hr ?hp (fun _ hk=>hk) trivial (Below.refl _ _) (Nat.le_refl _) (by simp) ?_;(case hd=>rfl);(case hg=>rfl);(case hr=>(go_simp;done));(case hp=>exact (Reps.one (show Kd.M Kd.string _ _ _ a0_0 [.string a0_0] from rfl) (Reps.none _ _)))
   intro v120 w18 ho19 hb hg_ hnew_
   clear hg_ hnew_
   (rw [← Ny119.out] at ho19)
   have HO121:=ζa (Kd.R_lower ho19 (δs (by exact HB.out)))
   replace BK118:=ζa (blk_below (g:=gb118) (o:=.cells #[.string a0_0,.slice A0_1 l0_1.length c0_1] 25 (0,0)) (by exact BK118.out) hb)
   replace HB:=ζa (δr (by exact HB.out) hb)
   clear hb ho19
   obtain ⟨Ao20,co20,eo20⟩:=Kd.R_slice HO121.out
   (subst eo20)
   refine hK.out _ _ ⟨(δl BK118.out 0).trans rfl,(δl BK118.out 1).trans rfl⟩ (fun hHeld => ?_)
   clear hK K
   refine nm 7 ?_
   refine on 3 8 (fun K hK => ?_)
   refine gs Try.func41 #[.slice Ao20 y119.length co20] ?_
   with_reducible refine (impl_isHash.calls _ _ y119 φ _ ?side1 ?side2 A4.out).mono ?_
   (case side1=>repeat (exact (ζg HO121.out).2.2))
   (case side2=>exact (ζg HO121.out).2.1)
   rintro e w' ⟨rfl,⟨nd,rfl⟩⟩
   refine ⟨_,rfl,?_⟩
   refine hK.out _ _ ⟨(δl BK118.out 0).trans rfl,(δl BK118.out 1).trans rfl⟩ (fun hHeld => ?_)
   clear hK K
   refine nm 8 ?_
   refine pu 4 9 ?_
   refine pu 5 10 ?_
   refine ζk (i:=6) (N:=some 11) (v:=undef) (a':=?_) #[τ,τ,τ,τ,τ,τ,τ,φ,φ,φ,φ,φ,φ,φ,φ,φ,φ] rfl rfl (ζj HT_.out (by kernel_rfl)) (fun _ _ _ h=>h) (Or.inr ⟨by rfl,rfl⟩) ?_ ?_
   rotate_left
   · simp only [ζl,δa,δb,δc,i64_w,i32_w];rfl
   refine ζk (i:=7) (N:=some 12) (v:=undef) (a':=?_) #[τ,τ,τ,τ,τ,τ,τ,τ,φ,φ,φ,φ,φ,φ,φ,φ,φ] rfl rfl (ζj HT_.out (by kernel_rfl)) (fun _ _ _ h=>h) (Or.inr ⟨by rfl,rfl⟩) ?_ ?_
   rotate_left
   · simp only [ζl,δa,δb,δc,i64_w,i32_w];rfl
   refine ζk (i:=8) (N:=some 13) (v:=undef) (a':=?_) #[τ,τ,τ,τ,τ,τ,τ,τ,τ,φ,φ,φ,φ,φ,φ,φ,φ] rfl rfl (ζj HT_.out (by kernel_rfl)) (fun _ _ _ h=>h) (Or.inr ⟨by rfl,rfl⟩) ?_ ?_
   rotate_left
   · simp only [ζl,δa,δb,δc,i64_w,i32_w];rfl
   refine ζk (i:=9) (N:=some 14) (v:=undef) (a':=?_) #[τ,τ,τ,τ,τ,τ,τ,τ,τ,τ,φ,φ,φ,φ,φ,φ,φ] rfl rfl (ζj HT_.out (by kernel_rfl)) (fun _ _ _ h=>h) (Or.inr ⟨by rfl,rfl⟩) ?_ ?_
   rotate_left
   · simp only [ζl,δa,δb,δc,i64_w,i32_w];rfl
   refine ζk (i:=10) (N:=some 15) (v:=undef) (a':=?_) #[τ,τ,τ,τ,τ,τ,τ,τ,τ,τ,τ,φ,φ,φ,φ,φ,φ] rfl rfl (ζj HT_.out (by kernel_rfl)) (fun _ _ _ h=>h) (Or.inr ⟨by rfl,rfl⟩) ?_ ?_
   rotate_left
   · simp only [ζl,δa,δb,δc,i64_w,i32_w];rfl
   refine ζk (i:=11) (N:=some 16) (v:=undef) (a':=?_) #[τ,τ,τ,τ,τ,τ,τ,τ,τ,τ,τ,τ,φ,φ,φ,φ,φ] rfl rfl (ζj HT_.out (by kernel_rfl)) (fun _ _ _ h=>h) (Or.inr ⟨by rfl,rfl⟩) ?_ ?_
   rotate_left
   · simp only [ζl,δa,δb,δc,i64_w,i32_w];rfl
   refine ζk (i:=12) (N:=some 17) (v:=undef) (a':=?_) #[τ,τ,τ,τ,τ,τ,τ,τ,τ,τ,τ,τ,τ,φ,φ,φ,φ] rfl rfl (ζj HT_.out (by kernel_rfl)) (fun _ _ _ h=>h) (Or.inr ⟨by rfl,rfl⟩) ?_ ?_
   rotate_left
   · simp only [ζl,δa,δb,δc,i64_w,i32_w];rfl
   refine ζk (i:=13) (N:=some 18) (v:=undef) (a':=?_) #[τ,τ,τ,τ,τ,τ,τ,τ,τ,τ,τ,τ,τ,τ,φ,φ,φ] rfl rfl (ζj HT_.out (by kernel_rfl)) (fun _ _ _ h=>h) (Or.inr ⟨by rfl,rfl⟩) ?_ ?_
   rotate_left
   · simp only [ζl,δa,δb,δc,i64_w,i32_w];rfl
   refine ζk (i:=14) (N:=some 19) (v:=undef) (a':=?_) #[τ,τ,τ,τ,τ,τ,τ,τ,τ,τ,τ,τ,τ,τ,τ,φ,φ] rfl rfl (ζj HT_.out (by kernel_rfl)) (fun _ _ _ h=>h) (Or.inr ⟨by rfl,rfl⟩) ?_ ?_
   rotate_left
   · simp only [ζl,δa,δb,δc,i64_w,i32_w];rfl
   refine ζk (i:=15) (N:=some 20) (v:=undef) (a':=?_) #[τ,τ,τ,τ,τ,τ,τ,τ,τ,τ,τ,τ,τ,τ,τ,τ,φ] rfl rfl (ζj HT_.out (by kernel_rfl)) (fun _ _ _ h=>h) (Or.inr ⟨by rfl,rfl⟩) ?_ ?_
   rotate_left
   · simp only [ζl,δa,δb,δc,i64_w,i32_w];rfl
   refine pu 16 21 ?_
   refine done_ (done_of HT_.out (by kernel_rfl)) ?_
   try go_wp2
   go_meet
   case rel=>exact ⟨_,(τ),(by rfl),H',⟨by omega⟩,⟨by (with_reducible repeat (refine δn ?_ _));exact BK118.out⟩,⟨by repeat ((with_reducible first|exact HB.out|apply δi))⟩⟩
 case rest =>
  clear HC2
  try clear c1
  try clear p2
  try clear c4
  try clear c5
  try clear c6
  try clear c6b0
  try clear c6b1
  try clear c6b2
  try clear c14
  obtain ⟨kq,x21_1,rfl,HA,HJ1,BK118,HB⟩:=hcut
  cases kq with
  | zero=>exact absurd HA.out (by simp [impl_ClientOK.j0])
  | succ kj1 =>
   have H:=HA.out
   clear HA
   simp only [impl_ClientOK.j0] at H
   by_cases c21:x21_1=τ
   ·
    subst c21
    rw [ifT] at H
    obtain rfl:=Option.some.inj H
    go_wp2
    go_ret
    exact ⟨by rfl,by repeat ((with_reducible exact HB.out))⟩
   ·
    replace c21:=Bool.eq_false_iff.mpr c21
    subst c21
    rw [ifF] at H
    have H':=ζa H
    clear H
    have hcz22_0:wc.cell? ⟨gb118,0,none⟩=some (.string a0_0):=(δl BK118.out 0).trans rfl
    have hcz22_1:wc.cell? ⟨gb118,1,none⟩=some (.slice A0_1 l0_1.length c0_1):=(δl BK118.out 1).trans rfl
    have hfz22_0:=δm BK118.out 0
    have hfz22_1:=δm BK118.out 1
    go_wp2
    go_loopg [25] kj1 (fun kq v25 w' => ∃ (x25_2:Int),v25 = .int .i64 x25_2∧Aside0 (impl_ClientOK.l0 kq l0_1 (l0_1.length:Int) x25_2 a0_0 l0_1=some r)∧Aside0 (kq≤kj1)∧Aside0 (w'.heap[gb118]? = some (.cells #[.string a0_0,(.slice A0_1 l0_1.length c0_1)] 25 (0,0)))∧Aside0 (Below w.heap.size w w'))
    case atStart=>exact ⟨(0),(by rfl),H',⟨Nat.le_refl _⟩,⟨by exact BK118.out⟩,⟨by repeat ((with_reducible exact HB.out))⟩⟩
    case round =>
     clear H'
     try clear c1
     try clear c2
     try clear p2
     try clear c4
     try clear c5
     try clear c6
     try clear c6b0
     try clear c6b1
     try clear c6b2
     try clear c14
     try clear c21
     try clear hcz22_0
     try clear hcz22_1
     try clear hfz22_0
     try clear hfz22_1
     try clear p2
     obtain ⟨x25_2,rfl,HA,HK2,BK118,HB⟩:=hrel
     cases gk with
     | zero=>exact absurd HA.out (by simp [impl_ClientOK.l0])
     | succ k2 =>
      have H:=HA.out
      clear HA
      simp only [impl_ClientOK.l0] at H
      by_cases c23:x25_2<(l0_1.length:Int)
      ·
       rw [if_pos c23] at H
       have c23b0:=decide_eq_true c23
       clear c23
       by_cases c24:0≤x25_2
       ·
        rw [if_pos c24] at H
        have c24b0:=decide_eq_true c24
        clear c24
        by_cases c25:x25_2<(l0_1.length:Int)
        ·
         rw [if_pos c25] at H
         have c25b0:=decide_eq_true c25
         clear c25
         obtain ⟨t126,A26,H⟩:=bsm H
         by_cases c27:t126=τ
         ·
          subst c27
          rw [ifT] at H
          obtain ⟨y127,hy127⟩ : ∃ y_:List ByteArray,y_=(([(rd_T39 l0_1 x25_2).f1]:List ByteArray)):=⟨_,rfl⟩
          replace H:((impl_isHash.f y127).bind fun t130=>(if t130=τ then (if x25_2 > 0 then (if 0≤(ζm (x25_2 - 1)) then (if (ζm (x25_2 - 1))<(l0_1.length:Int) then (if ((rd_T39 l0_1 (ζm (x25_2 - 1))).f0) > ((rd_T39 l0_1 x25_2).f0) then (some φ) else (impl_ClientOK.l0 k2 l0_1 (l0_1.length:Int) (ζm (x25_2+1)) a0_0 l0_1)) else (none)) else (none)) else (impl_ClientOK.l0 k2 l0_1 (l0_1.length:Int) (ζm (x25_2+1)) a0_0 l0_1)) else (some φ)))=some r:=by (rw [hy127];with_reducible exact H)
          have Ny127:=ζa hy127
          clear hy127
          obtain ⟨t130,A28,H⟩:=bsm H
          by_cases c29:t130=τ
          ·
           subst c29
           rw [ifT] at H
           by_cases c30:x25_2 > 0
           ·
            rw [if_pos c30] at H
            have c30b0:decide (0<x25_2)=τ:=decide_eq_true c30
            clear c30
            obtain ⟨ji31,hji31⟩ : ∃ j_:Int,(ζm (x25_2 - 1))=j_:=⟨_,rfl⟩
            replace H:(if 0≤(ji31) then (if (ji31)<(l0_1.length:Int) then (if ((rd_T39 l0_1 (ji31)).f0) > ((rd_T39 l0_1 x25_2).f0) then (some φ) else (impl_ClientOK.l0 k2 l0_1 (l0_1.length:Int) (ζm (x25_2+1)) a0_0 l0_1)) else (none)) else (none))=some r:=by (rw [hji31] at H;exact H)
            (try rw [hji31] at A26)
            (try rw [hji31] at A28)
            have hji31w:(IntKind.i64.wrap (x25_2 - 1))=ji31:=(i64_w _).trans hji31
            by_cases c32:0≤(ji31)
            ·
             rw [if_pos c32] at H
             have c32b0:=decide_eq_true c32
             clear c32
             by_cases c33:(ji31)<(l0_1.length:Int)
             ·
              rw [if_pos c33] at H
              have c33b0:=decide_eq_true c33
              clear c33
              by_cases c34:((rd_T39 l0_1 (ji31)).f0) > ((rd_T39 l0_1 x25_2).f0)
              ·
               rw [if_pos c34] at H
               have c34b0:decide (((rd_T39 l0_1 x25_2).f0)<((rd_T39 l0_1 (ji31)).f0))=τ:=decide_eq_true c34
               clear c34
               obtain rfl:=Option.some.inj H
               have p124:0≤(x25_2:Int):=of_decide_eq_true (by (with_reducible assumption))
               have q124:x25_2<(l0_1.length:Int):=of_decide_eq_true (by (with_reducible assumption))
               obtain ⟨ad124,e124,hx124_0,hx124_1⟩:=at_T39 HR0_1.out x25_2 p124 q124
               cases e124
               replace hx124_0:=(HB.out.cell (World.block_lt_of_cell? w _ hx124_0)).trans hx124_0
               replace hx124_1:=(HB.out.cell (World.block_lt_of_cell? w _ hx124_1)).trans hx124_1
               replace p124:=eq_true p124
               replace q124:=eq_true q124
               try go_wp2_with (((with_reducible refine δx (N:=4) rfl ?_);(try (refine gate_guard (by rfl) ?_;dsimp only));refine bev 4 #[.int .i64 0,.string (⟨#[]⟩:ByteArray)] 39 ?_;intro gb125 hg w35 hbox hb;have BK125:=ζa (hbox);have GW125:=ζa (gbw hg (by exact HB.out));have GE125:=ζa (gbw hg (by exact HB.out));replace HB:=ζa (δr (by exact HB.out) hb);have NB118_125:=ζa ((by rw [hg];exact Nat.ne_of_lt (blk_lt (g:=gb118) (o:=.cells #[.string a0_0,.slice (some ad124) l0_1.length c0_1] 25 (0,0)) (by exact BK118.out)):gb118≠gb125));have NB125_118:=ζa ((by rw [hg];exact Nat.ne_of_gt (blk_lt (g:=gb118) (o:=.cells #[.string a0_0,.slice (some ad124) l0_1.length c0_1] 25 (0,0)) (by exact BK118.out)):gb125≠gb118));replace BK118:=ζa (blk_below (g:=gb118) (o:=.cells #[.string a0_0,.slice (some ad124) l0_1.length c0_1] 25 (0,0)) (by exact BK118.out) hb);clear hb hbox hg;have hnb36:=NB125_118.out;have hnc36:=NB118_125.out;have hcz37_0:w35.cell? ⟨gb125,0,none⟩=some (.int .i64 0):=(δl BK125.out 0).trans rfl;have hcz37_1:w35.cell? ⟨gb125,1,none⟩=some (.string (⟨#[]⟩:ByteArray)):=(δl BK125.out 1).trans rfl;have hfz37_0:=δm BK125.out 0;have hfz37_1:=δm BK125.out 1))
               have n0_:Aside0 (((w35.setCell ⟨gb125,0,none⟩ (.int .i64 ((rd_T39 l0_1 x25_2).f0))).setCell ⟨gb125,1,none⟩ (.string ((rd_T39 l0_1 x25_2).f1))).heap[gb118]? = some (.cells #[.string a0_0,.slice (some ad124) l0_1.length c0_1] 25 (0,0))):=⟨by refine blk_far ?_ NB118_125.out _;refine blk_far ?_ NB118_125.out _;exact BK118.out⟩
               have n1_:Aside0 (((w35.setCell ⟨gb125,0,none⟩ (.int .i64 ((rd_T39 l0_1 x25_2).f0))).setCell ⟨gb125,1,none⟩ (.string ((rd_T39 l0_1 x25_2).f1))).heap[gb125]? = some (.cells #[.int .i64 ((rd_T39 l0_1 x25_2).f0),.string ((rd_T39 l0_1 x25_2).f1)] 39 (0,0))):=⟨by refine δw (cs:=#[.int .i64 ((rd_T39 l0_1 x25_2).f0),.string (⟨#[]⟩:ByteArray)]) ?_ 1 _ rfl;refine δw (cs:=#[.int .i64 0,.string (⟨#[]⟩:ByteArray)]) ?_ 0 _ rfl;exact BK125.out⟩
               have n2_:Aside0 (Below w.heap.size w ((w35.setCell ⟨gb125,0,none⟩ (.int .i64 ((rd_T39 l0_1 x25_2).f0))).setCell ⟨gb125,1,none⟩ (.string ((rd_T39 l0_1 x25_2).f1)))):=⟨by repeat ((with_reducible first|exact HB.out|refine δq ?_ GE125.out))⟩
               (try clear BK118)
               (try clear BK125)
               (try clear HB)
               generalize ((w35.setCell ⟨gb125,0,none⟩ (.int .i64 ((rd_T39 l0_1 x25_2).f0))).setCell ⟨gb125,1,none⟩ (.string ((rd_T39 l0_1 x25_2).f1)))=w38 at n0_ n1_ n2_ ⊢
               have BK118:=n0_
               have BK125:=n1_
               have HB:=n2_
               clear n0_ n1_ n2_
               replace BK118:=ζa (δp BK118.out)
               replace BK125:=ζa (δp BK125.out)
               replace HB:=ζa (δj HB.out)
               have p131:0≤((ji31):Int):=of_decide_eq_true (by (with_reducible assumption))
               have q131:(ji31)<(l0_1.length:Int):=of_decide_eq_true (by (with_reducible assumption))
               obtain ⟨ad131,e131,hx131_0,hx131_1⟩:=at_T39 HR0_1.out (ji31) p131 q131
               have hw131_1:=hx131_1
               have hw131_0:=hx131_0
               obtain rfl:ad124=ad131:=(by injection e131)
               replace hx131_0:=(HB.out.cell (World.block_lt_of_cell? w _ hx131_0)).trans hx131_0
               replace hx131_1:=(HB.out.cell (World.block_lt_of_cell? w _ hx131_1)).trans hx131_1
               replace p131:=eq_true p131
               replace q131:=eq_true q131
               refine sta 27 (fun w'=>w'.cell? ⟨gb125,0,none⟩=some (.int .i64 ((rd_T39 l0_1 x25_2).f0))∧w'.cell? ⟨gb125,1,none⟩=some (.string ((rd_T39 l0_1 x25_2).f1))∧w'.cell? ⟨gb118,0,none⟩=some (.string a0_0)∧w'.cell? ⟨gb118,1,none⟩=some (.slice (some ad124) l0_1.length c0_1)∧w'.cell? (ad124.add (((ji31)).toNat * 2))=some (.int .i64 ((rd_T39 l0_1 (ji31)).f0))∧w'.cell? ⟨(ad124.add (((ji31)).toNat * 2)).block,(ad124.add (((ji31)).toNat * 2)).off+1,none⟩=some (.string ((rd_T39 l0_1 (ji31)).f1))) [] impl_ClientOK.tab6 impl_ClientOK.bits6 ⟨(δl BK125.out 0).trans rfl,(δl BK125.out 1).trans rfl,(δl BK118.out 0).trans rfl,(δl BK118.out 1).trans rfl,((HB.out.cell (World.block_lt_of_cell? w _ hw131_0)).trans hw131_0),((HB.out.cell (World.block_lt_of_cell? w _ hw131_1)).trans hw131_1)⟩ (fun hHeld HT_ HW_ => ?_)
               generalize w38.drew=w39 at BK118 BK125 HB hx131_0 hx131_1 hHeld ⊢
               refine pu 0 30 ?_
               refine ta 1 31 ?_
               refine on 2 32 (fun K hK => ?_)
               refine gs Try.func40 #[.int .i64 ((rd_T39 l0_1 x25_2).f0)] ?_
               with_reducible refine (impl_isTime.calls ((rd_T39 l0_1 x25_2).f0) τ _ A26.out).mono ?_
               rintro e w' ⟨rfl,⟨nd,rfl⟩⟩
               refine ⟨_,rfl,?_⟩
               refine hK.out _ _ ⟨(δl BK125.out 0).trans rfl,(δl BK125.out 1).trans rfl,(δl BK118.out 0).trans rfl,(δl BK118.out 1).trans rfl,((HB.out.cell (World.block_lt_of_cell? w _ hw131_0)).trans hw131_0),((HB.out.cell (World.block_lt_of_cell? w _ hw131_1)).trans hw131_1)⟩ (fun hHeld => ?_)
               clear hK K
               refine nm 32 ?_
               refine pu 3 33 ?_
               refine pu 4 34 ?_
               refine pu 5 35 ?_
               refine ta 6 36 ?_
               refine on 7 37 (fun K hK => ?_)
               refine Kd.R_lit_step Kd.string _ 9 ?hg (N:=37) ?hd (xs:=([(rd_T39 l0_1 x25_2).f1]:List ByteArray)) (inner:=[.string ((rd_T39 l0_1 x25_2).f1)]) (ok:=fun _=>True) (okp:=fun _=>True) ?hr ?hp (fun _ hk=>hk) trivial (Below.refl _ _) (Nat.le_refl _) (by simp) ?_;(case hd=>rfl);(case hg=>rfl);(case hr=>(go_simp;done));(case hp=>exact (Reps.one (show Kd.M Kd.string _ _ _ ((rd_T39 l0_1 x25_2).f1) [.string ((rd_T39 l0_1 x25_2).f1)] from rfl) (Reps.none _ _)))
               intro v128 w40 ho41 hb hg_ hnew_
               clear hg_ hnew_
               (rw [← Ny127.out] at ho41)
               have HO129:=ζa (Kd.R_lower ho41 (δs (by repeat ((with_reducible first|exact HB.out|apply δi)))))
               replace BK118:=ζa (blk_below (g:=gb118) (o:=.cells #[.string a0_0,.slice (some ad124) l0_1.length c0_1] 25 (0,0)) (by (with_reducible repeat (refine δn ?_ _));exact BK118.out) hb)
               replace BK125:=ζa (blk_below (g:=gb125) (o:=.cells #[.int .i64 ((rd_T39 l0_1 x25_2).f0),.string ((rd_T39 l0_1 x25_2).f1)] 39 (0,0)) (by (with_reducible repeat (refine δn ?_ _));exact BK125.out) hb)
               replace HB:=ζa (δr (by repeat ((with_reducible first|exact HB.out|apply δi))) hb)
               clear hb ho41
               obtain ⟨Ao42,co42,eo42⟩:=Kd.R_slice HO129.out
               (subst eo42)
               refine hK.out _ _ ⟨(δl BK125.out 0).trans rfl,(δl BK125.out 1).trans rfl,(δl BK118.out 0).trans rfl,(δl BK118.out 1).trans rfl,((HB.out.cell (World.block_lt_of_cell? w _ hw131_0)).trans hw131_0),((HB.out.cell (World.block_lt_of_cell? w _ hw131_1)).trans hw131_1)⟩ (fun hHeld => ?_)
               clear hK K
               refine nm 37 ?_
               refine on 8 38 (fun K hK => ?_)
               refine gs Try.func41 #[.slice Ao42 y127.length co42] ?_
               with_reducible refine (impl_isHash.calls _ _ y127 τ _ ?side1 ?side2 A28.out).mono ?_
               (case side1=>repeat (exact (ζg HO129.out).2.2))
               (case side2=>exact (ζg HO129.out).2.1)
               rintro e w' ⟨rfl,⟨nd,rfl⟩⟩
               refine ⟨_,rfl,?_⟩
               refine hK.out _ _ ⟨(δl BK125.out 0).trans rfl,(δl BK125.out 1).trans rfl,(δl BK118.out 0).trans rfl,(δl BK118.out 1).trans rfl,((HB.out.cell (World.block_lt_of_cell? w _ hw131_0)).trans hw131_0),((HB.out.cell (World.block_lt_of_cell? w _ hw131_1)).trans hw131_1)⟩ (fun hHeld => ?_)
               clear hK K
               refine nm 38 ?_
               refine pu 9 39 ?_
               refine pu 10 40 ?_
               refine pu 11 41 ?_
               refine pu 12 42 ?_
               refine pu 13 43 ?_
               refine pu 14 44 ?_
               refine pu 15 45 ?_
               refine pu 17 47 ?_
               refine pu 18 48 ?_
               refine pu 22 52 ?_
               refine ta 16 46 ?_
               refine pu 19 49 ?_
               refine pu 20 50 ?_
               refine ta 21 51 ?_
               refine ta 23 53 ?_
               refine pu 24 54 ?_
               refine pu 25 55 ?_
               refine pu 26 56 ?_
               refine done_ (done_of HT_.out (by kernel_rfl)) ?_
               try go_wp2
               go_ret
               exact ⟨by rfl,by repeat ((with_reducible first|exact HB.out|apply δi))⟩
              ·
               rw [if_neg c34] at H
               have c34b0:decide (((rd_T39 l0_1 x25_2).f0)<((rd_T39 l0_1 (ji31)).f0))=φ:=decide_eq_false c34
               clear c34
               have H':=ζa H
               clear H
               have p124:0≤(x25_2:Int):=of_decide_eq_true (by (with_reducible assumption))
               have q124:x25_2<(l0_1.length:Int):=of_decide_eq_true (by (with_reducible assumption))
               obtain ⟨ad124,e124,hx124_0,hx124_1⟩:=at_T39 HR0_1.out x25_2 p124 q124
               cases e124
               replace hx124_0:=(HB.out.cell (World.block_lt_of_cell? w _ hx124_0)).trans hx124_0
               replace hx124_1:=(HB.out.cell (World.block_lt_of_cell? w _ hx124_1)).trans hx124_1
               replace p124:=eq_true p124
               replace q124:=eq_true q124
               try go_wp2_with (((with_reducible refine δx (N:=4) rfl ?_);(try (refine gate_guard (by rfl) ?_;dsimp only));refine bev 4 #[.int .i64 0,.string (⟨#[]⟩:ByteArray)] 39 ?_;intro gb125 hg w43 hbox hb;have BK125:=ζa (hbox);have GW125:=ζa (gbw hg (by exact HB.out));have GE125:=ζa (gbw hg (by exact HB.out));replace HB:=ζa (δr (by exact HB.out) hb);have NB118_125:=ζa ((by rw [hg];exact Nat.ne_of_lt (blk_lt (g:=gb118) (o:=.cells #[.string a0_0,.slice (some ad124) l0_1.length c0_1] 25 (0,0)) (by exact BK118.out)):gb118≠gb125));have NB125_118:=ζa ((by rw [hg];exact Nat.ne_of_gt (blk_lt (g:=gb118) (o:=.cells #[.string a0_0,.slice (some ad124) l0_1.length c0_1] 25 (0,0)) (by exact BK118.out)):gb125≠gb118));replace BK118:=ζa (blk_below (g:=gb118) (o:=.cells #[.string a0_0,.slice (some ad124) l0_1.length c0_1] 25 (0,0)) (by exact BK118.out) hb);clear hb hbox hg;have hnb44:=NB125_118.out;have hnc44:=NB118_125.out;have hcz45_0:w43.cell? ⟨gb125,0,none⟩=some (.int .i64 0):=(δl BK125.out 0).trans rfl;have hcz45_1:w43.cell? ⟨gb125,1,none⟩=some (.string (⟨#[]⟩:ByteArray)):=(δl BK125.out 1).trans rfl;have hfz45_0:=δm BK125.out 0;have hfz45_1:=δm BK125.out 1))
               have n0_:Aside0 (((w43.setCell ⟨gb125,0,none⟩ (.int .i64 ((rd_T39 l0_1 x25_2).f0))).setCell ⟨gb125,1,none⟩ (.string ((rd_T39 l0_1 x25_2).f1))).heap[gb118]? = some (.cells #[.string a0_0,.slice (some ad124) l0_1.length c0_1] 25 (0,0))):=⟨by refine blk_far ?_ NB118_125.out _;refine blk_far ?_ NB118_125.out _;exact BK118.out⟩
               have n1_:Aside0 (((w43.setCell ⟨gb125,0,none⟩ (.int .i64 ((rd_T39 l0_1 x25_2).f0))).setCell ⟨gb125,1,none⟩ (.string ((rd_T39 l0_1 x25_2).f1))).heap[gb125]? = some (.cells #[.int .i64 ((rd_T39 l0_1 x25_2).f0),.string ((rd_T39 l0_1 x25_2).f1)] 39 (0,0))):=⟨by refine δw (cs:=#[.int .i64 ((rd_T39 l0_1 x25_2).f0),.string (⟨#[]⟩:ByteArray)]) ?_ 1 _ rfl;refine δw (cs:=#[.int .i64 0,.string (⟨#[]⟩:ByteArray)]) ?_ 0 _ rfl;exact BK125.out⟩
               have n2_:Aside0 (Below w.heap.size w ((w43.setCell ⟨gb125,0,none⟩ (.int .i64 ((rd_T39 l0_1 x25_2).f0))).setCell ⟨gb125,1,none⟩ (.string ((rd_T39 l0_1 x25_2).f1)))):=⟨by repeat ((with_reducible first|exact HB.out|refine δq ?_ GE125.out))⟩
               (try clear BK118)
               (try clear BK125)
               (try clear HB)
               generalize ((w43.setCell ⟨gb125,0,none⟩ (.int .i64 ((rd_T39 l0_1 x25_2).f0))).setCell ⟨gb125,1,none⟩ (.string ((rd_T39 l0_1 x25_2).f1)))=w46 at n0_ n1_ n2_ ⊢
               have BK118:=n0_
               have BK125:=n1_
               have HB:=n2_
               clear n0_ n1_ n2_
               replace BK118:=ζa (δp BK118.out)
               replace BK125:=ζa (δp BK125.out)
               replace HB:=ζa (δj HB.out)
               have p131:0≤((ji31):Int):=of_decide_eq_true (by (with_reducible assumption))
               have q131:(ji31)<(l0_1.length:Int):=of_decide_eq_true (by (with_reducible assumption))
               obtain ⟨ad131,e131,hx131_0,hx131_1⟩:=at_T39 HR0_1.out (ji31) p131 q131
               have hw131_1:=hx131_1
               have hw131_0:=hx131_0
               obtain rfl:ad124=ad131:=(by injection e131)
               replace hx131_0:=(HB.out.cell (World.block_lt_of_cell? w _ hx131_0)).trans hx131_0
               replace hx131_1:=(HB.out.cell (World.block_lt_of_cell? w _ hx131_1)).trans hx131_1
               replace p131:=eq_true p131
               replace q131:=eq_true q131
               refine sta 27 (fun w'=>w'.cell? ⟨gb125,0,none⟩=some (.int .i64 ((rd_T39 l0_1 x25_2).f0))∧w'.cell? ⟨gb125,1,none⟩=some (.string ((rd_T39 l0_1 x25_2).f1))∧w'.cell? ⟨gb118,0,none⟩=some (.string a0_0)∧w'.cell? ⟨gb118,1,none⟩=some (.slice (some ad124) l0_1.length c0_1)∧w'.cell? (ad124.add (((ji31)).toNat * 2))=some (.int .i64 ((rd_T39 l0_1 (ji31)).f0))∧w'.cell? ⟨(ad124.add (((ji31)).toNat * 2)).block,(ad124.add (((ji31)).toNat * 2)).off+1,none⟩=some (.string ((rd_T39 l0_1 (ji31)).f1))) [] impl_ClientOK.tab6 impl_ClientOK.bits6 ⟨(δl BK125.out 0).trans rfl,(δl BK125.out 1).trans rfl,(δl BK118.out 0).trans rfl,(δl BK118.out 1).trans rfl,((HB.out.cell (World.block_lt_of_cell? w _ hw131_0)).trans hw131_0),((HB.out.cell (World.block_lt_of_cell? w _ hw131_1)).trans hw131_1)⟩ (fun hHeld HT_ HW_ => ?_)
               generalize w46.drew=w47 at BK118 BK125 HB hx131_0 hx131_1 hHeld ⊢
               refine pu 0 30 ?_
               refine ta 1 31 ?_
               refine on 2 32 (fun K hK => ?_)
               refine gs Try.func40 #[.int .i64 ((rd_T39 l0_1 x25_2).f0)] ?_
               with_reducible refine (impl_isTime.calls ((rd_T39 l0_1 x25_2).f0) τ _ A26.out).mono ?_
               rintro e w' ⟨rfl,⟨nd,rfl⟩⟩
               refine ⟨_,rfl,?_⟩
               refine hK.out _ _ ⟨(δl BK125.out 0).trans rfl,(δl BK125.out 1).trans rfl,(δl BK118.out 0).trans rfl,(δl BK118.out 1).trans rfl,((HB.out.cell (World.block_lt_of_cell? w _ hw131_0)).trans hw131_0),((HB.out.cell (World.block_lt_of_cell? w _ hw131_1)).trans hw131_1)⟩ (fun hHeld => ?_)
               clear hK K
               refine nm 32 ?_
               refine pu 3 33 ?_
               refine pu 4 34 ?_
               refine pu 5 35 ?_
               refine ta 6 36 ?_
               refine on 7 37 (fun K hK => ?_)
               refine Kd.R_lit_step Kd.string _ 9 ?hg (N:=37) ?hd (xs:=([(rd_T39 l0_1 x25_2).f1]:List ByteArray)) (inner:=[.string ((rd_T39 l0_1 x25_2).f1)]) (ok:=fun _=>True) (okp:=fun _=>True) ?hr ?hp (fun _ hk=>hk) trivial (Below.refl _ _) (Nat.le_refl _) (by simp) ?_;(case hd=>rfl);(case hg=>rfl);(case hr=>(go_simp;done));(case hp=>exact (Reps.one (show Kd.M Kd.string _ _ _ ((rd_T39 l0_1 x25_2).f1) [.string ((rd_T39 l0_1 x25_2).f1)] from rfl) (Reps.none _ _)))
               intro v128 w48 ho49 hb hg_ hnew_
               clear hg_ hnew_
               (rw [← Ny127.out] at ho49)
               have HO129:=ζa (Kd.R_lower ho49 (δs (by repeat ((with_reducible first|exact HB.out|apply δi)))))
               replace BK118:=ζa (blk_below (g:=gb118) (o:=.cells #[.string a0_0,.slice (some ad124) l0_1.length c0_1] 25 (0,0)) (by (with_reducible repeat (refine δn ?_ _));exact BK118.out) hb)
               replace BK125:=ζa (blk_below (g:=gb125) (o:=.cells #[.int .i64 ((rd_T39 l0_1 x25_2).f0),.string ((rd_T39 l0_1 x25_2).f1)] 39 (0,0)) (by (with_reducible repeat (refine δn ?_ _));exact BK125.out) hb)
               replace HB:=ζa (δr (by repeat ((with_reducible first|exact HB.out|apply δi))) hb)
               clear hb ho49
               obtain ⟨Ao50,co50,eo50⟩:=Kd.R_slice HO129.out
               (subst eo50)
               refine hK.out _ _ ⟨(δl BK125.out 0).trans rfl,(δl BK125.out 1).trans rfl,(δl BK118.out 0).trans rfl,(δl BK118.out 1).trans rfl,((HB.out.cell (World.block_lt_of_cell? w _ hw131_0)).trans hw131_0),((HB.out.cell (World.block_lt_of_cell? w _ hw131_1)).trans hw131_1)⟩ (fun hHeld => ?_)
               clear hK K
               refine nm 37 ?_
               refine on 8 38 (fun K hK => ?_)
               refine gs Try.func41 #[.slice Ao50 y127.length co50] ?_
               with_reducible refine (impl_isHash.calls _ _ y127 τ _ ?side1 ?side2 A28.out).mono ?_
               (case side1=>repeat (exact (ζg HO129.out).2.2))
               (case side2=>exact (ζg HO129.out).2.1)
               rintro e w' ⟨rfl,⟨nd,rfl⟩⟩
               refine ⟨_,rfl,?_⟩
               refine hK.out _ _ ⟨(δl BK125.out 0).trans rfl,(δl BK125.out 1).trans rfl,(δl BK118.out 0).trans rfl,(δl BK118.out 1).trans rfl,((HB.out.cell (World.block_lt_of_cell? w _ hw131_0)).trans hw131_0),((HB.out.cell (World.block_lt_of_cell? w _ hw131_1)).trans hw131_1)⟩ (fun hHeld => ?_)
               clear hK K
               refine nm 38 ?_
               refine pu 9 39 ?_
               refine pu 10 40 ?_
               refine pu 11 41 ?_
               refine pu 12 42 ?_
               refine pu 13 43 ?_
               refine pu 14 44 ?_
               refine pu 15 45 ?_
               refine pu 17 47 ?_
               refine pu 18 48 ?_
               refine pu 22 52 ?_
               refine ta 16 46 ?_
               refine pu 19 49 ?_
               refine pu 20 50 ?_
               refine ta 21 51 ?_
               refine ta 23 53 ?_
               refine pu 24 54 ?_
               refine pu 25 55 ?_
               refine pu 26 56 ?_
               refine done_ (done_of HT_.out (by kernel_rfl)) ?_
               try go_wp2
               go_roundg k2
               case measure=>have:=HJ1.out;have:=HK2.out;omega
               case rel=>exact ⟨(ζm (x25_2+1)),(by rfl),H',⟨by have:=HJ1.out;have:=HK2.out;omega⟩,⟨by (with_reducible repeat (refine δn ?_ _));exact BK118.out⟩,⟨by repeat ((with_reducible first|exact HB.out|apply δi))⟩⟩
             ·
              rw [if_neg c33] at H
              exact absurd H (by simp)
            ·
             rw [if_neg c32] at H
             exact absurd H (by simp)
           ·
            rw [if_neg c30] at H
            have c30b0:decide (0<x25_2)=φ:=decide_eq_false c30
            clear c30
            have H':=ζa H
            clear H
            have p124:0≤(x25_2:Int):=of_decide_eq_true (by (with_reducible assumption))
            have q124:x25_2<(l0_1.length:Int):=of_decide_eq_true (by (with_reducible assumption))
            obtain ⟨ad124,e124,hx124_0,hx124_1⟩:=at_T39 HR0_1.out x25_2 p124 q124
            cases e124
            replace hx124_0:=(HB.out.cell (World.block_lt_of_cell? w _ hx124_0)).trans hx124_0
            replace hx124_1:=(HB.out.cell (World.block_lt_of_cell? w _ hx124_1)).trans hx124_1
            replace p124:=eq_true p124
            replace q124:=eq_true q124
            try go_wp2_with (((with_reducible refine δx (N:=4) rfl ?_);(try (refine gate_guard (by rfl) ?_;dsimp only));refine bev 4 #[.int .i64 0,.string (⟨#[]⟩:ByteArray)] 39 ?_;intro gb125 hg w51 hbox hb;have BK125:=ζa (hbox);have GW125:=ζa (gbw hg (by exact HB.out));have GE125:=ζa (gbw hg (by exact HB.out));replace HB:=ζa (δr (by exact HB.out) hb);have NB118_125:=ζa ((by rw [hg];exact Nat.ne_of_lt (blk_lt (g:=gb118) (o:=.cells #[.string a0_0,.slice (some ad124) l0_1.length c0_1] 25 (0,0)) (by exact BK118.out)):gb118≠gb125));have NB125_118:=ζa ((by rw [hg];exact Nat.ne_of_gt (blk_lt (g:=gb118) (o:=.cells #[.string a0_0,.slice (some ad124) l0_1.length c0_1] 25 (0,0)) (by exact BK118.out)):gb125≠gb118));replace BK118:=ζa (blk_below (g:=gb118) (o:=.cells #[.string a0_0,.slice (some ad124) l0_1.length c0_1] 25 (0,0)) (by exact BK118.out) hb);clear hb hbox hg;have hnb52:=NB125_118.out;have hnc52:=NB118_125.out;have hcz53_0:w51.cell? ⟨gb125,0,none⟩=some (.int .i64 0):=(δl BK125.out 0).trans rfl;have hcz53_1:w51.cell? ⟨gb125,1,none⟩=some (.string (⟨#[]⟩:ByteArray)):=(δl BK125.out 1).trans rfl;have hfz53_0:=δm BK125.out 0;have hfz53_1:=δm BK125.out 1))
            have n0_:Aside0 (((w51.setCell ⟨gb125,0,none⟩ (.int .i64 ((rd_T39 l0_1 x25_2).f0))).setCell ⟨gb125,1,none⟩ (.string ((rd_T39 l0_1 x25_2).f1))).heap[gb118]? = some (.cells #[.string a0_0,.slice (some ad124) l0_1.length c0_1] 25 (0,0))):=⟨by refine blk_far ?_ NB118_125.out _;refine blk_far ?_ NB118_125.out _;exact BK118.out⟩
            have n1_:Aside0 (((w51.setCell ⟨gb125,0,none⟩ (.int .i64 ((rd_T39 l0_1 x25_2).f0))).setCell ⟨gb125,1,none⟩ (.string ((rd_T39 l0_1 x25_2).f1))).heap[gb125]? = some (.cells #[.int .i64 ((rd_T39 l0_1 x25_2).f0),.string ((rd_T39 l0_1 x25_2).f1)] 39 (0,0))):=⟨by refine δw (cs:=#[.int .i64 ((rd_T39 l0_1 x25_2).f0),.string (⟨#[]⟩:ByteArray)]) ?_ 1 _ rfl;refine δw (cs:=#[.int .i64 0,.string (⟨#[]⟩:ByteArray)]) ?_ 0 _ rfl;exact BK125.out⟩
            have n2_:Aside0 (Below w.heap.size w ((w51.setCell ⟨gb125,0,none⟩ (.int .i64 ((rd_T39 l0_1 x25_2).f0))).setCell ⟨gb125,1,none⟩ (.string ((rd_T39 l0_1 x25_2).f1)))):=⟨by repeat ((with_reducible first|exact HB.out|refine δq ?_ GE125.out))⟩
            (try clear BK118)
            (try clear BK125)
            (try clear HB)
            generalize ((w51.setCell ⟨gb125,0,none⟩ (.int .i64 ((rd_T39 l0_1 x25_2).f0))).setCell ⟨gb125,1,none⟩ (.string ((rd_T39 l0_1 x25_2).f1)))=w54 at n0_ n1_ n2_ ⊢
            have BK118:=n0_
            have BK125:=n1_
            have HB:=n2_
            clear n0_ n1_ n2_
            replace BK118:=ζa (δp BK118.out)
            replace BK125:=ζa (δp BK125.out)
            replace HB:=ζa (δj HB.out)
            refine sta 27 (fun w'=>w'.cell? ⟨gb125,0,none⟩=some (.int .i64 ((rd_T39 l0_1 x25_2).f0))∧w'.cell? ⟨gb125,1,none⟩=some (.string ((rd_T39 l0_1 x25_2).f1))) [] impl_ClientOK.tab6 impl_ClientOK.bits6 ⟨(δl BK125.out 0).trans rfl,(δl BK125.out 1).trans rfl⟩ (fun hHeld HT_ HW_ => ?_)
            generalize w54.drew=w55 at BK118 BK125 HB hHeld ⊢
            refine pu 0 30 ?_
            refine ta 1 31 ?_
            refine on 2 32 (fun K hK => ?_)
            refine gs Try.func40 #[.int .i64 ((rd_T39 l0_1 x25_2).f0)] ?_
            with_reducible refine (impl_isTime.calls ((rd_T39 l0_1 x25_2).f0) τ _ A26.out).mono ?_
            rintro e w' ⟨rfl,⟨nd,rfl⟩⟩
            refine ⟨_,rfl,?_⟩
            refine hK.out _ _ ⟨(δl BK125.out 0).trans rfl,(δl BK125.out 1).trans rfl⟩ (fun hHeld => ?_)
            clear hK K
            refine nm 32 ?_
            refine pu 3 33 ?_
            refine pu 4 34 ?_
            refine pu 5 35 ?_
            refine ta 6 36 ?_
            refine on 7 37 (fun K hK => ?_)
            refine Kd.R_lit_step Kd.string _ 9 ?hg (N:=37) ?hd (xs:=([(rd_T39 l0_1 x25_2).f1]:List ByteArray)) (inner:=[.string ((rd_T39 l0_1 x25_2).f1)]) (ok:=fun _=>True) (okp:=fun _=>True) ?hr ?hp (fun _ hk=>hk) trivial (Below.refl _ _) (Nat.le_refl _) (by simp) ?_;(case hd=>rfl);(case hg=>rfl);(case hr=>(go_simp;done));(case hp=>exact (Reps.one (show Kd.M Kd.string _ _ _ ((rd_T39 l0_1 x25_2).f1) [.string ((rd_T39 l0_1 x25_2).f1)] from rfl) (Reps.none _ _)))
            intro v128 w56 ho57 hb hg_ hnew_
            clear hg_ hnew_
            (rw [← Ny127.out] at ho57)
            have HO129:=ζa (Kd.R_lower ho57 (δs (by repeat ((with_reducible first|exact HB.out|apply δi)))))
            replace BK118:=ζa (blk_below (g:=gb118) (o:=.cells #[.string a0_0,.slice (some ad124) l0_1.length c0_1] 25 (0,0)) (by (with_reducible repeat (refine δn ?_ _));exact BK118.out) hb)
            replace BK125:=ζa (blk_below (g:=gb125) (o:=.cells #[.int .i64 ((rd_T39 l0_1 x25_2).f0),.string ((rd_T39 l0_1 x25_2).f1)] 39 (0,0)) (by (with_reducible repeat (refine δn ?_ _));exact BK125.out) hb)
            replace HB:=ζa (δr (by repeat ((with_reducible first|exact HB.out|apply δi))) hb)
            clear hb ho57
            obtain ⟨Ao58,co58,eo58⟩:=Kd.R_slice HO129.out
            (subst eo58)
            refine hK.out _ _ ⟨(δl BK125.out 0).trans rfl,(δl BK125.out 1).trans rfl⟩ (fun hHeld => ?_)
            clear hK K
            refine nm 37 ?_
            refine on 8 38 (fun K hK => ?_)
            refine gs Try.func41 #[.slice Ao58 y127.length co58] ?_
            with_reducible refine (impl_isHash.calls _ _ y127 τ _ ?side1 ?side2 A28.out).mono ?_
            (case side1=>repeat (exact (ζg HO129.out).2.2))
            (case side2=>exact (ζg HO129.out).2.1)
            rintro e w' ⟨rfl,⟨nd,rfl⟩⟩
            refine ⟨_,rfl,?_⟩
            refine hK.out _ _ ⟨(δl BK125.out 0).trans rfl,(δl BK125.out 1).trans rfl⟩ (fun hHeld => ?_)
            clear hK K
            refine nm 38 ?_
            refine pu 9 39 ?_
            refine pu 10 40 ?_
            refine pu 11 41 ?_
            refine pu 12 42 ?_
            refine pu 13 43 ?_
            refine pu 14 44 ?_
            refine ζk (i:=15) (N:=some 45) (v:=undef) (a':=?_) #[τ,τ,τ,τ,τ,τ,τ,τ,τ,τ,τ,τ,τ,τ,τ,τ,φ,φ,φ,φ,φ,φ,φ,φ,φ,φ,φ] rfl rfl (ζj HT_.out (by kernel_rfl)) (fun _ _ _ h=>h) (Or.inr ⟨by rfl,rfl⟩) ?_ ?_
            rotate_left
            · simp only [ζl,δa,δb,δc,i64_w,i32_w];rfl
            refine ζk (i:=16) (N:=some 46) (v:=undef) (a':=?_) #[τ,τ,τ,τ,τ,τ,τ,τ,τ,τ,τ,τ,τ,τ,τ,τ,τ,φ,φ,φ,φ,φ,φ,φ,φ,φ,φ] rfl rfl (ζj HT_.out (by kernel_rfl)) (fun _ _ _ h=>h) (Or.inr ⟨by rfl,rfl⟩) ?_ ?_
            rotate_left
            · simp only [ζl,δa,δb,δc,i64_w,i32_w];rfl
            refine ζk (i:=17) (N:=some 47) (v:=undef) (a':=?_) #[τ,τ,τ,τ,τ,τ,τ,τ,τ,τ,τ,τ,τ,τ,τ,τ,τ,τ,φ,φ,φ,φ,φ,φ,φ,φ,φ] rfl rfl (ζj HT_.out (by kernel_rfl)) (fun _ _ _ h=>h) (Or.inr ⟨by rfl,rfl⟩) ?_ ?_
            rotate_left
            · simp only [ζl,δa,δb,δc,i64_w,i32_w];rfl
            refine ζk (i:=18) (N:=some 48) (v:=undef) (a':=?_) #[τ,τ,τ,τ,τ,τ,τ,τ,τ,τ,τ,τ,τ,τ,τ,τ,τ,τ,τ,φ,φ,φ,φ,φ,φ,φ,φ] rfl rfl (ζj HT_.out (by kernel_rfl)) (fun _ _ _ h=>h) (Or.inr ⟨by rfl,rfl⟩) ?_ ?_
            rotate_left
            · simp only [ζl,δa,δb,δc,i64_w,i32_w];rfl
            refine ζk (i:=19) (N:=some 49) (v:=undef) (a':=?_) #[τ,τ,τ,τ,τ,τ,τ,τ,τ,τ,τ,τ,τ,τ,τ,τ,τ,τ,τ,τ,φ,φ,φ,φ,φ,φ,φ] rfl rfl (ζj HT_.out (by kernel_rfl)) (fun _ _ _ h=>h) (Or.inr ⟨by rfl,rfl⟩) ?_ ?_
            rotate_left
            · simp only [ζl,δa,δb,δc,i64_w,i32_w];rfl
            refine ζk (i:=20) (N:=some 50) (v:=undef) (a':=?_) #[τ,τ,τ,τ,τ,τ,τ,τ,τ,τ,τ,τ,τ,τ,τ,τ,τ,τ,τ,τ,τ,φ,φ,φ,φ,φ,φ] rfl rfl (ζj HT_.out (by kernel_rfl)) (fun _ _ _ h=>h) (Or.inr ⟨by rfl,rfl⟩) ?_ ?_
            rotate_left
            · simp only [ζl,δa,δb,δc,i64_w,i32_w];rfl
            refine ζk (i:=21) (N:=some 51) (v:=undef) (a':=?_) #[τ,τ,τ,τ,τ,τ,τ,τ,τ,τ,τ,τ,τ,τ,τ,τ,τ,τ,τ,τ,τ,τ,φ,φ,φ,φ,φ] rfl rfl (ζj HT_.out (by kernel_rfl)) (fun _ _ _ h=>h) (Or.inr ⟨by rfl,rfl⟩) ?_ ?_
            rotate_left
            · simp only [ζl,δa,δb,δc,i64_w,i32_w];rfl
            refine ζk (i:=22) (N:=some 52) (v:=undef) (a':=?_) #[τ,τ,τ,τ,τ,τ,τ,τ,τ,τ,τ,τ,τ,τ,τ,τ,τ,τ,τ,τ,τ,τ,τ,φ,φ,φ,φ] rfl rfl (ζj HT_.out (by kernel_rfl)) (fun _ _ _ h=>h) (Or.inr ⟨by rfl,rfl⟩) ?_ ?_
            rotate_left
            · simp only [ζl,δa,δb,δc,i64_w,i32_w];rfl
            refine ζk (i:=23) (N:=some 53) (v:=undef) (a':=?_) #[τ,τ,τ,τ,τ,τ,τ,τ,τ,τ,τ,τ,τ,τ,τ,τ,τ,τ,τ,τ,τ,τ,τ,τ,φ,φ,φ] rfl rfl (ζj HT_.out (by kernel_rfl)) (fun _ _ _ h=>h) (Or.inr ⟨by rfl,rfl⟩) ?_ ?_
            rotate_left
            · simp only [ζl,δa,δb,δc,i64_w,i32_w];rfl
            refine ζk (i:=24) (N:=some 54) (v:=undef) (a':=?_) #[τ,τ,τ,τ,τ,τ,τ,τ,τ,τ,τ,τ,τ,τ,τ,τ,τ,τ,τ,τ,τ,τ,τ,τ,τ,φ,φ] rfl rfl (ζj HT_.out (by kernel_rfl)) (fun _ _ _ h=>h) (Or.inr ⟨by rfl,rfl⟩) ?_ ?_
            rotate_left
            · simp only [ζl,δa,δb,δc,i64_w,i32_w];rfl
            refine pu 25 55 ?_
            refine pu 26 56 ?_
            refine done_ (done_of HT_.out (by kernel_rfl)) ?_
            try go_wp2
            go_roundg k2
            case measure=>have:=HJ1.out;have:=HK2.out;omega
            case rel=>exact ⟨(ζm (x25_2+1)),(by rfl),H',⟨by have:=HJ1.out;have:=HK2.out;omega⟩,⟨by (with_reducible repeat (refine δn ?_ _));exact BK118.out⟩,⟨by repeat ((with_reducible first|exact HB.out|apply δi))⟩⟩
          ·
           replace c29:=Bool.eq_false_iff.mpr c29
           subst c29
           rw [ifF] at H
           obtain rfl:=Option.some.inj H
           have p124:0≤(x25_2:Int):=of_decide_eq_true (by (with_reducible assumption))
           have q124:x25_2<(l0_1.length:Int):=of_decide_eq_true (by (with_reducible assumption))
           obtain ⟨ad124,e124,hx124_0,hx124_1⟩:=at_T39 HR0_1.out x25_2 p124 q124
           cases e124
           replace hx124_0:=(HB.out.cell (World.block_lt_of_cell? w _ hx124_0)).trans hx124_0
           replace hx124_1:=(HB.out.cell (World.block_lt_of_cell? w _ hx124_1)).trans hx124_1
           replace p124:=eq_true p124
           replace q124:=eq_true q124
           try go_wp2_with (((with_reducible refine δx (N:=4) rfl ?_);(try (refine gate_guard (by rfl) ?_;dsimp only));refine bev 4 #[.int .i64 0,.string (⟨#[]⟩:ByteArray)] 39 ?_;intro gb125 hg w59 hbox hb;have BK125:=ζa (hbox);have GW125:=ζa (gbw hg (by exact HB.out));have GE125:=ζa (gbw hg (by exact HB.out));replace HB:=ζa (δr (by exact HB.out) hb);have NB118_125:=ζa ((by rw [hg];exact Nat.ne_of_lt (blk_lt (g:=gb118) (o:=.cells #[.string a0_0,.slice (some ad124) l0_1.length c0_1] 25 (0,0)) (by exact BK118.out)):gb118≠gb125));have NB125_118:=ζa ((by rw [hg];exact Nat.ne_of_gt (blk_lt (g:=gb118) (o:=.cells #[.string a0_0,.slice (some ad124) l0_1.length c0_1] 25 (0,0)) (by exact BK118.out)):gb125≠gb118));replace BK118:=ζa (blk_below (g:=gb118) (o:=.cells #[.string a0_0,.slice (some ad124) l0_1.length c0_1] 25 (0,0)) (by exact BK118.out) hb);clear hb hbox hg;have hnb60:=NB125_118.out;have hnc60:=NB118_125.out;have hcz61_0:w59.cell? ⟨gb125,0,none⟩=some (.int .i64 0):=(δl BK125.out 0).trans rfl;have hcz61_1:w59.cell? ⟨gb125,1,none⟩=some (.string (⟨#[]⟩:ByteArray)):=(δl BK125.out 1).trans rfl;have hfz61_0:=δm BK125.out 0;have hfz61_1:=δm BK125.out 1))
           have n0_:Aside0 (((w59.setCell ⟨gb125,0,none⟩ (.int .i64 ((rd_T39 l0_1 x25_2).f0))).setCell ⟨gb125,1,none⟩ (.string ((rd_T39 l0_1 x25_2).f1))).heap[gb118]? = some (.cells #[.string a0_0,.slice (some ad124) l0_1.length c0_1] 25 (0,0))):=⟨by refine blk_far ?_ NB118_125.out _;refine blk_far ?_ NB118_125.out _;exact BK118.out⟩
           have n1_:Aside0 (((w59.setCell ⟨gb125,0,none⟩ (.int .i64 ((rd_T39 l0_1 x25_2).f0))).setCell ⟨gb125,1,none⟩ (.string ((rd_T39 l0_1 x25_2).f1))).heap[gb125]? = some (.cells #[.int .i64 ((rd_T39 l0_1 x25_2).f0),.string ((rd_T39 l0_1 x25_2).f1)] 39 (0,0))):=⟨by refine δw (cs:=#[.int .i64 ((rd_T39 l0_1 x25_2).f0),.string (⟨#[]⟩:ByteArray)]) ?_ 1 _ rfl;refine δw (cs:=#[.int .i64 0,.string (⟨#[]⟩:ByteArray)]) ?_ 0 _ rfl;exact BK125.out⟩
           have n2_:Aside0 (Below w.heap.size w ((w59.setCell ⟨gb125,0,none⟩ (.int .i64 ((rd_T39 l0_1 x25_2).f0))).setCell ⟨gb125,1,none⟩ (.string ((rd_T39 l0_1 x25_2).f1)))):=⟨by repeat ((with_reducible first|exact HB.out|refine δq ?_ GE125.out))⟩
           (try clear BK118)
           (try clear BK125)
           (try clear HB)
           generalize ((w59.setCell ⟨gb125,0,none⟩ (.int .i64 ((rd_T39 l0_1 x25_2).f0))).setCell ⟨gb125,1,none⟩ (.string ((rd_T39 l0_1 x25_2).f1)))=w62 at n0_ n1_ n2_ ⊢
           have BK118:=n0_
           have BK125:=n1_
           have HB:=n2_
           clear n0_ n1_ n2_
           replace BK118:=ζa (δp BK118.out)
           replace BK125:=ζa (δp BK125.out)
           replace HB:=ζa (δj HB.out)
           refine sta 27 (fun w'=>w'.cell? ⟨gb125,0,none⟩=some (.int .i64 ((rd_T39 l0_1 x25_2).f0))∧w'.cell? ⟨gb125,1,none⟩=some (.string ((rd_T39 l0_1 x25_2).f1))) [] impl_ClientOK.tab6 impl_ClientOK.bits6 ⟨(δl BK125.out 0).trans rfl,(δl BK125.out 1).trans rfl⟩ (fun hHeld HT_ HW_ => ?_)
           generalize w62.drew=w63 at BK118 BK125 HB hHeld ⊢
           refine pu 0 30 ?_
           refine ta 1 31 ?_
           refine on 2 32 (fun K hK => ?_)
           refine gs Try.func40 #[.int .i64 ((rd_T39 l0_1 x25_2).f0)] ?_
           with_reducible refine (impl_isTime.calls ((rd_T39 l0_1 x25_2).f0) τ _ A26.out).mono ?_
           rintro e w' ⟨rfl,⟨nd,rfl⟩⟩
           refine ⟨_,rfl,?_⟩
           refine hK.out _ _ ⟨(δl BK125.out 0).trans rfl,(δl BK125.out 1).trans rfl⟩ (fun hHeld => ?_)
           clear hK K
           refine nm 32 ?_
           refine pu 3 33 ?_
           refine pu 4 34 ?_
           refine pu 5 35 ?_
           refine ta 6 36 ?_
           refine on 7 37 (fun K hK => ?_)
           refine Kd.R_lit_step Kd.string _ 9 ?hg (N:=37) ?hd (xs:=([(rd_T39 l0_1 x25_2).f1]:List ByteArray)) (inner:=[.string ((rd_T39 l0_1 x25_2).f1)]) (ok:=fun _=>True) (okp:=fun _=>True) ?hr ?hp (fun _ hk=>hk) trivial (Below.refl _ _) (Nat.le_refl _) (by simp) ?_;(case hd=>rfl);(case hg=>rfl);(case hr=>(go_simp;done));(case hp=>exact (Reps.one (show Kd.M Kd.string _ _ _ ((rd_T39 l0_1 x25_2).f1) [.string ((rd_T39 l0_1 x25_2).f1)] from rfl) (Reps.none _ _)))
           intro v128 w64 ho65 hb hg_ hnew_
           clear hg_ hnew_
           (rw [← Ny127.out] at ho65)
           have HO129:=ζa (Kd.R_lower ho65 (δs (by repeat ((with_reducible first|exact HB.out|apply δi)))))
           replace BK118:=ζa (blk_below (g:=gb118) (o:=.cells #[.string a0_0,.slice (some ad124) l0_1.length c0_1] 25 (0,0)) (by (with_reducible repeat (refine δn ?_ _));exact BK118.out) hb)
           replace BK125:=ζa (blk_below (g:=gb125) (o:=.cells #[.int .i64 ((rd_T39 l0_1 x25_2).f0),.string ((rd_T39 l0_1 x25_2).f1)] 39 (0,0)) (by (with_reducible repeat (refine δn ?_ _));exact BK125.out) hb)
           replace HB:=ζa (δr (by repeat ((with_reducible first|exact HB.out|apply δi))) hb)
           clear hb ho65
           obtain ⟨Ao66,co66,eo66⟩:=Kd.R_slice HO129.out
           (subst eo66)
           refine hK.out _ _ ⟨(δl BK125.out 0).trans rfl,(δl BK125.out 1).trans rfl⟩ (fun hHeld => ?_)
           clear hK K
           refine nm 37 ?_
           refine on 8 38 (fun K hK => ?_)
           refine gs Try.func41 #[.slice Ao66 y127.length co66] ?_
           with_reducible refine (impl_isHash.calls _ _ y127 φ _ ?side1 ?side2 A28.out).mono ?_
           (case side1=>repeat (exact (ζg HO129.out).2.2))
           (case side2=>exact (ζg HO129.out).2.1)
           rintro e w' ⟨rfl,⟨nd,rfl⟩⟩
           refine ⟨_,rfl,?_⟩
           refine hK.out _ _ ⟨(δl BK125.out 0).trans rfl,(δl BK125.out 1).trans rfl⟩ (fun hHeld => ?_)
           clear hK K
           refine nm 38 ?_
           refine pu 9 39 ?_
           refine pu 10 40 ?_
           refine pu 11 41 ?_
           refine ζk (i:=12) (N:=some 42) (v:=undef) (a':=?_) #[τ,τ,τ,τ,τ,τ,τ,τ,τ,τ,τ,τ,τ,φ,φ,φ,φ,φ,φ,φ,φ,φ,φ,φ,φ,φ,φ] rfl rfl (ζj HT_.out (by kernel_rfl)) (fun _ _ _ h=>h) (Or.inr ⟨by rfl,rfl⟩) ?_ ?_
           rotate_left
           · simp only [ζl,δa,δb,δc,i64_w,i32_w];rfl
           refine ζk (i:=13) (N:=some 43) (v:=undef) (a':=?_) #[τ,τ,τ,τ,τ,τ,τ,τ,τ,τ,τ,τ,τ,τ,φ,φ,φ,φ,φ,φ,φ,φ,φ,φ,φ,φ,φ] rfl rfl (ζj HT_.out (by kernel_rfl)) (fun _ _ _ h=>h) (Or.inr ⟨by rfl,rfl⟩) ?_ ?_
           rotate_left
           · simp only [ζl,δa,δb,δc,i64_w,i32_w];rfl
           refine ζk (i:=14) (N:=some 44) (v:=undef) (a':=?_) #[τ,τ,τ,τ,τ,τ,τ,τ,τ,τ,τ,τ,τ,τ,τ,φ,φ,φ,φ,φ,φ,φ,φ,φ,φ,φ,φ] rfl rfl (ζj HT_.out (by kernel_rfl)) (fun _ _ _ h=>h) (Or.inr ⟨by rfl,rfl⟩) ?_ ?_
           rotate_left
           · simp only [ζl,δa,δb,δc,i64_w,i32_w];rfl
           refine ζk (i:=15) (N:=some 45) (v:=undef) (a':=?_) #[τ,τ,τ,τ,τ,τ,τ,τ,τ,τ,τ,τ,τ,τ,τ,τ,φ,φ,φ,φ,φ,φ,φ,φ,φ,φ,φ] rfl rfl (ζj HT_.out (by kernel_rfl)) (fun _ _ _ h=>h) (Or.inr ⟨by rfl,rfl⟩) ?_ ?_
           rotate_left
           · simp only [ζl,δa,δb,δc,i64_w,i32_w];rfl
           refine ζk (i:=16) (N:=some 46) (v:=undef) (a':=?_) #[τ,τ,τ,τ,τ,τ,τ,τ,τ,τ,τ,τ,τ,τ,τ,τ,τ,φ,φ,φ,φ,φ,φ,φ,φ,φ,φ] rfl rfl (ζj HT_.out (by kernel_rfl)) (fun _ _ _ h=>h) (Or.inr ⟨by rfl,rfl⟩) ?_ ?_
           rotate_left
           · simp only [ζl,δa,δb,δc,i64_w,i32_w];rfl
           refine ζk (i:=17) (N:=some 47) (v:=undef) (a':=?_) #[τ,τ,τ,τ,τ,τ,τ,τ,τ,τ,τ,τ,τ,τ,τ,τ,τ,τ,φ,φ,φ,φ,φ,φ,φ,φ,φ] rfl rfl (ζj HT_.out (by kernel_rfl)) (fun _ _ _ h=>h) (Or.inr ⟨by rfl,rfl⟩) ?_ ?_
           rotate_left
           · simp only [ζl,δa,δb,δc,i64_w,i32_w];rfl
           refine ζk (i:=18) (N:=some 48) (v:=undef) (a':=?_) #[τ,τ,τ,τ,τ,τ,τ,τ,τ,τ,τ,τ,τ,τ,τ,τ,τ,τ,τ,φ,φ,φ,φ,φ,φ,φ,φ] rfl rfl (ζj HT_.out (by kernel_rfl)) (fun _ _ _ h=>h) (Or.inr ⟨by rfl,rfl⟩) ?_ ?_
           rotate_left
           · simp only [ζl,δa,δb,δc,i64_w,i32_w];rfl
           refine ζk (i:=19) (N:=some 49) (v:=undef) (a':=?_) #[τ,τ,τ,τ,τ,τ,τ,τ,τ,τ,τ,τ,τ,τ,τ,τ,τ,τ,τ,τ,φ,φ,φ,φ,φ,φ,φ] rfl rfl (ζj HT_.out (by kernel_rfl)) (fun _ _ _ h=>h) (Or.inr ⟨by rfl,rfl⟩) ?_ ?_
           rotate_left
           · simp only [ζl,δa,δb,δc,i64_w,i32_w];rfl
           refine ζk (i:=20) (N:=some 50) (v:=undef) (a':=?_) #[τ,τ,τ,τ,τ,τ,τ,τ,τ,τ,τ,τ,τ,τ,τ,τ,τ,τ,τ,τ,τ,φ,φ,φ,φ,φ,φ] rfl rfl (ζj HT_.out (by kernel_rfl)) (fun _ _ _ h=>h) (Or.inr ⟨by rfl,rfl⟩) ?_ ?_
           rotate_left
           · simp only [ζl,δa,δb,δc,i64_w,i32_w];rfl
           refine ζk (i:=21) (N:=some 51) (v:=undef) (a':=?_) #[τ,τ,τ,τ,τ,τ,τ,τ,τ,τ,τ,τ,τ,τ,τ,τ,τ,τ,τ,τ,τ,τ,φ,φ,φ,φ,φ] rfl rfl (ζj HT_.out (by kernel_rfl)) (fun _ _ _ h=>h) (Or.inr ⟨by rfl,rfl⟩) ?_ ?_
           rotate_left
           · simp only [ζl,δa,δb,δc,i64_w,i32_w];rfl
           refine ζk (i:=22) (N:=some 52) (v:=undef) (a':=?_) #[τ,τ,τ,τ,τ,τ,τ,τ,τ,τ,τ,τ,τ,τ,τ,τ,τ,τ,τ,τ,τ,τ,τ,φ,φ,φ,φ] rfl rfl (ζj HT_.out (by kernel_rfl)) (fun _ _ _ h=>h) (Or.inr ⟨by rfl,rfl⟩) ?_ ?_
           rotate_left
           · simp only [ζl,δa,δb,δc,i64_w,i32_w];rfl
           refine ζk (i:=23) (N:=some 53) (v:=undef) (a':=?_) #[τ,τ,τ,τ,τ,τ,τ,τ,τ,τ,τ,τ,τ,τ,τ,τ,τ,τ,τ,τ,τ,τ,τ,τ,φ,φ,φ] rfl rfl (ζj HT_.out (by kernel_rfl)) (fun _ _ _ h=>h) (Or.inr ⟨by rfl,rfl⟩) ?_ ?_
           rotate_left
           · simp only [ζl,δa,δb,δc,i64_w,i32_w];rfl
           refine ζk (i:=24) (N:=some 54) (v:=undef) (a':=?_) #[τ,τ,τ,τ,τ,τ,τ,τ,τ,τ,τ,τ,τ,τ,τ,τ,τ,τ,τ,τ,τ,τ,τ,τ,τ,φ,φ] rfl rfl (ζj HT_.out (by kernel_rfl)) (fun _ _ _ h=>h) (Or.inr ⟨by rfl,rfl⟩) ?_ ?_
           rotate_left
           · simp only [ζl,δa,δb,δc,i64_w,i32_w];rfl
           refine ζk (i:=25) (N:=some 55) (v:=undef) (a':=?_) #[τ,τ,τ,τ,τ,τ,τ,τ,τ,τ,τ,τ,τ,τ,τ,τ,τ,τ,τ,τ,τ,τ,τ,τ,τ,τ,φ] rfl rfl (ζj HT_.out (by kernel_rfl)) (fun _ _ _ h=>h) (Or.inr ⟨by rfl,rfl⟩) ?_ ?_
           rotate_left
           · simp only [ζl,δa,δb,δc,i64_w,i32_w];rfl
           refine pu 26 56 ?_
           refine done_ (done_of HT_.out (by kernel_rfl)) ?_
           try go_wp2
           go_ret
           exact ⟨by rfl,by repeat ((with_reducible first|exact HB.out|apply δi))⟩
         ·
          replace c27:=Bool.eq_false_iff.mpr c27
          subst c27
          rw [ifF] at H
          obtain rfl:=Option.some.inj H
          have p124:0≤(x25_2:Int):=of_decide_eq_true (by (with_reducible assumption))
          have q124:x25_2<(l0_1.length:Int):=of_decide_eq_true (by (with_reducible assumption))
          obtain ⟨ad124,e124,hx124_0,hx124_1⟩:=at_T39 HR0_1.out x25_2 p124 q124
          cases e124
          replace hx124_0:=(HB.out.cell (World.block_lt_of_cell? w _ hx124_0)).trans hx124_0
          replace hx124_1:=(HB.out.cell (World.block_lt_of_cell? w _ hx124_1)).trans hx124_1
          replace p124:=eq_true p124
          replace q124:=eq_true q124
          try go_wp2_with (((with_reducible refine δx (N:=4) rfl ?_);(try (refine gate_guard (by rfl) ?_;dsimp only));refine bev 4 #[.int .i64 0,.string (⟨#[]⟩:ByteArray)] 39 ?_;intro gb125 hg w67 hbox hb;have BK125:=ζa (hbox);have GW125:=ζa (gbw hg (by exact HB.out));have GE125:=ζa (gbw hg (by exact HB.out));replace HB:=ζa (δr (by exact HB.out) hb);have NB118_125:=ζa ((by rw [hg];exact Nat.ne_of_lt (blk_lt (g:=gb118) (o:=.cells #[.string a0_0,.slice (some ad124) l0_1.length c0_1] 25 (0,0)) (by exact BK118.out)):gb118≠gb125));have NB125_118:=ζa ((by rw [hg];exact Nat.ne_of_gt (blk_lt (g:=gb118) (o:=.cells #[.string a0_0,.slice (some ad124) l0_1.length c0_1] 25 (0,0)) (by exact BK118.out)):gb125≠gb118));replace BK118:=ζa (blk_below (g:=gb118) (o:=.cells #[.string a0_0,.slice (some ad124) l0_1.length c0_1] 25 (0,0)) (by exact BK118.out) hb);clear hb hbox hg;have hnb68:=NB125_118.out;have hnc68:=NB118_125.out;have hcz69_0:w67.cell? ⟨gb125,0,none⟩=some (.int .i64 0):=(δl BK125.out 0).trans rfl;have hcz69_1:w67.cell? ⟨gb125,1,none⟩=some (.string (⟨#[]⟩:ByteArray)):=(δl BK125.out 1).trans rfl;have hfz69_0:=δm BK125.out 0;have hfz69_1:=δm BK125.out 1))
          have n0_:Aside0 (((w67.setCell ⟨gb125,0,none⟩ (.int .i64 ((rd_T39 l0_1 x25_2).f0))).setCell ⟨gb125,1,none⟩ (.string ((rd_T39 l0_1 x25_2).f1))).heap[gb118]? = some (.cells #[.string a0_0,.slice (some ad124) l0_1.length c0_1] 25 (0,0))):=⟨by refine blk_far ?_ NB118_125.out _;refine blk_far ?_ NB118_125.out _;exact BK118.out⟩
          have n1_:Aside0 (((w67.setCell ⟨gb125,0,none⟩ (.int .i64 ((rd_T39 l0_1 x25_2).f0))).setCell ⟨gb125,1,none⟩ (.string ((rd_T39 l0_1 x25_2).f1))).heap[gb125]? = some (.cells #[.int .i64 ((rd_T39 l0_1 x25_2).f0),.string ((rd_T39 l0_1 x25_2).f1)] 39 (0,0))):=⟨by refine δw (cs:=#[.int .i64 ((rd_T39 l0_1 x25_2).f0),.string (⟨#[]⟩:ByteArray)]) ?_ 1 _ rfl;refine δw (cs:=#[.int .i64 0,.string (⟨#[]⟩:ByteArray)]) ?_ 0 _ rfl;exact BK125.out⟩
          have n2_:Aside0 (Below w.heap.size w ((w67.setCell ⟨gb125,0,none⟩ (.int .i64 ((rd_T39 l0_1 x25_2).f0))).setCell ⟨gb125,1,none⟩ (.string ((rd_T39 l0_1 x25_2).f1)))):=⟨by repeat ((with_reducible first|exact HB.out|refine δq ?_ GE125.out))⟩
          (try clear BK118)
          (try clear BK125)
          (try clear HB)
          generalize ((w67.setCell ⟨gb125,0,none⟩ (.int .i64 ((rd_T39 l0_1 x25_2).f0))).setCell ⟨gb125,1,none⟩ (.string ((rd_T39 l0_1 x25_2).f1)))=w70 at n0_ n1_ n2_ ⊢
          have BK118:=n0_
          have BK125:=n1_
          have HB:=n2_
          clear n0_ n1_ n2_
          replace BK118:=ζa (δp BK118.out)
          replace BK125:=ζa (δp BK125.out)
          replace HB:=ζa (δj HB.out)
          refine sta 27 (fun w'=>w'.cell? ⟨gb125,0,none⟩=some (.int .i64 ((rd_T39 l0_1 x25_2).f0))∧w'.cell? ⟨gb125,1,none⟩=some (.string ((rd_T39 l0_1 x25_2).f1))) [] impl_ClientOK.tab6 impl_ClientOK.bits6 ⟨(δl BK125.out 0).trans rfl,(δl BK125.out 1).trans rfl⟩ (fun hHeld HT_ HW_ => ?_)
          generalize w70.drew=w71 at BK118 BK125 HB hHeld ⊢
          refine pu 0 30 ?_
          refine ta 1 31 ?_
          refine on 2 32 (fun K hK => ?_)
          refine gs Try.func40 #[.int .i64 ((rd_T39 l0_1 x25_2).f0)] ?_
          with_reducible refine (impl_isTime.calls ((rd_T39 l0_1 x25_2).f0) φ _ A26.out).mono ?_
          rintro e w' ⟨rfl,⟨nd,rfl⟩⟩
          refine ⟨_,rfl,?_⟩
          refine hK.out _ _ ⟨(δl BK125.out 0).trans rfl,(δl BK125.out 1).trans rfl⟩ (fun hHeld => ?_)
          clear hK K
          refine nm 32 ?_
          refine pu 3 33 ?_
          refine pu 4 34 ?_
          refine ζk (i:=5) (N:=some 35) (v:=undef) (a':=?_) #[τ,τ,τ,τ,τ,τ,φ,φ,φ,φ,φ,φ,φ,φ,φ,φ,φ,φ,φ,φ,φ,φ,φ,φ,φ,φ,φ] rfl rfl (ζj HT_.out (by kernel_rfl)) (fun _ _ _ h=>h) (Or.inr ⟨by rfl,rfl⟩) ?_ ?_
          rotate_left
          · simp only [ζl,δa,δb,δc,i64_w,i32_w];rfl
          refine ζk (i:=6) (N:=some 36) (v:=undef) (a':=?_) #[τ,τ,τ,τ,τ,τ,τ,φ,φ,φ,φ,φ,φ,φ,φ,φ,φ,φ,φ,φ,φ,φ,φ,φ,φ,φ,φ] rfl rfl (ζj HT_.out (by kernel_rfl)) (fun _ _ _ h=>h) (Or.inr ⟨by rfl,rfl⟩) ?_ ?_
          rotate_left
          · simp only [ζl,δa,δb,δc,i64_w,i32_w];rfl
          refine ζk (i:=7) (N:=some 37) (v:=undef) (a':=?_) #[τ,τ,τ,τ,τ,τ,τ,τ,φ,φ,φ,φ,φ,φ,φ,φ,φ,φ,φ,φ,φ,φ,φ,φ,φ,φ,φ] rfl rfl (ζj HT_.out (by kernel_rfl)) (fun _ _ _ h=>h) (Or.inr ⟨by rfl,rfl⟩) ?_ ?_
          rotate_left
          · simp only [ζl,δa,δb,δc,i64_w,i32_w];rfl
          refine ζk (i:=8) (N:=some 38) (v:=undef) (a':=?_) #[τ,τ,τ,τ,τ,τ,τ,τ,τ,φ,φ,φ,φ,φ,φ,φ,φ,φ,φ,φ,φ,φ,φ,φ,φ,φ,φ] rfl rfl (ζj HT_.out (by kernel_rfl)) (fun _ _ _ h=>h) (Or.inr ⟨by rfl,rfl⟩) ?_ ?_
          rotate_left
          · simp only [ζl,δa,δb,δc,i64_w,i32_w];rfl
          refine ζk (i:=9) (N:=some 39) (v:=undef) (a':=?_) #[τ,τ,τ,τ,τ,τ,τ,τ,τ,τ,φ,φ,φ,φ,φ,φ,φ,φ,φ,φ,φ,φ,φ,φ,φ,φ,φ] rfl rfl (ζj HT_.out (by kernel_rfl)) (fun _ _ _ h=>h) (Or.inr ⟨by rfl,rfl⟩) ?_ ?_
          rotate_left
          · simp only [ζl,δa,δb,δc,i64_w,i32_w];rfl
          refine pu 10 40 ?_
          refine pu 11 41 ?_
          refine ζk (i:=12) (N:=some 42) (v:=undef) (a':=?_) #[τ,τ,τ,τ,τ,τ,τ,τ,τ,τ,τ,τ,τ,φ,φ,φ,φ,φ,φ,φ,φ,φ,φ,φ,φ,φ,φ] rfl rfl (ζj HT_.out (by kernel_rfl)) (fun _ _ _ h=>h) (Or.inr ⟨by rfl,rfl⟩) ?_ ?_
          rotate_left
          · simp only [ζl,δa,δb,δc,i64_w,i32_w];rfl
          refine ζk (i:=13) (N:=some 43) (v:=undef) (a':=?_) #[τ,τ,τ,τ,τ,τ,τ,τ,τ,τ,τ,τ,τ,τ,φ,φ,φ,φ,φ,φ,φ,φ,φ,φ,φ,φ,φ] rfl rfl (ζj HT_.out (by kernel_rfl)) (fun _ _ _ h=>h) (Or.inr ⟨by rfl,rfl⟩) ?_ ?_
          rotate_left
          · simp only [ζl,δa,δb,δc,i64_w,i32_w];rfl
          refine ζk (i:=14) (N:=some 44) (v:=undef) (a':=?_) #[τ,τ,τ,τ,τ,τ,τ,τ,τ,τ,τ,τ,τ,τ,τ,φ,φ,φ,φ,φ,φ,φ,φ,φ,φ,φ,φ] rfl rfl (ζj HT_.out (by kernel_rfl)) (fun _ _ _ h=>h) (Or.inr ⟨by rfl,rfl⟩) ?_ ?_
          rotate_left
          · simp only [ζl,δa,δb,δc,i64_w,i32_w];rfl
          refine ζk (i:=15) (N:=some 45) (v:=undef) (a':=?_) #[τ,τ,τ,τ,τ,τ,τ,τ,τ,τ,τ,τ,τ,τ,τ,τ,φ,φ,φ,φ,φ,φ,φ,φ,φ,φ,φ] rfl rfl (ζj HT_.out (by kernel_rfl)) (fun _ _ _ h=>h) (Or.inr ⟨by rfl,rfl⟩) ?_ ?_
          rotate_left
          · simp only [ζl,δa,δb,δc,i64_w,i32_w];rfl
          refine ζk (i:=16) (N:=some 46) (v:=undef) (a':=?_) #[τ,τ,τ,τ,τ,τ,τ,τ,τ,τ,τ,τ,τ,τ,τ,τ,τ,φ,φ,φ,φ,φ,φ,φ,φ,φ,φ] rfl rfl (ζj HT_.out (by kernel_rfl)) (fun _ _ _ h=>h) (Or.inr ⟨by rfl,rfl⟩) ?_ ?_
          rotate_left
          · simp only [ζl,δa,δb,δc,i64_w,i32_w];rfl
          refine ζk (i:=17) (N:=some 47) (v:=undef) (a':=?_) #[τ,τ,τ,τ,τ,τ,τ,τ,τ,τ,τ,τ,τ,τ,τ,τ,τ,τ,φ,φ,φ,φ,φ,φ,φ,φ,φ] rfl rfl (ζj HT_.out (by kernel_rfl)) (fun _ _ _ h=>h) (Or.inr ⟨by rfl,rfl⟩) ?_ ?_
          rotate_left
          · simp only [ζl,δa,δb,δc,i64_w,i32_w];rfl
          refine ζk (i:=18) (N:=some 48) (v:=undef) (a':=?_) #[τ,τ,τ,τ,τ,τ,τ,τ,τ,τ,τ,τ,τ,τ,τ,τ,τ,τ,τ,φ,φ,φ,φ,φ,φ,φ,φ] rfl rfl (ζj HT_.out (by kernel_rfl)) (fun _ _ _ h=>h) (Or.inr ⟨by rfl,rfl⟩) ?_ ?_
          rotate_left
          · simp only [ζl,δa,δb,δc,i64_w,i32_w];rfl
          refine ζk (i:=19) (N:=some 49) (v:=undef) (a':=?_) #[τ,τ,τ,τ,τ,τ,τ,τ,τ,τ,τ,τ,τ,τ,τ,τ,τ,τ,τ,τ,φ,φ,φ,φ,φ,φ,φ] rfl rfl (ζj HT_.out (by kernel_rfl)) (fun _ _ _ h=>h) (Or.inr ⟨by rfl,rfl⟩) ?_ ?_
          rotate_left
          · simp only [ζl,δa,δb,δc,i64_w,i32_w];rfl
          refine ζk (i:=20) (N:=some 50) (v:=undef) (a':=?_) #[τ,τ,τ,τ,τ,τ,τ,τ,τ,τ,τ,τ,τ,τ,τ,τ,τ,τ,τ,τ,τ,φ,φ,φ,φ,φ,φ] rfl rfl (ζj HT_.out (by kernel_rfl)) (fun _ _ _ h=>h) (Or.inr ⟨by rfl,rfl⟩) ?_ ?_
          rotate_left
          · simp only [ζl,δa,δb,δc,i64_w,i32_w];rfl
          refine ζk (i:=21) (N:=some 51) (v:=undef) (a':=?_) #[τ,τ,τ,τ,τ,τ,τ,τ,τ,τ,τ,τ,τ,τ,τ,τ,τ,τ,τ,τ,τ,τ,φ,φ,φ,φ,φ] rfl rfl (ζj HT_.out (by kernel_rfl)) (fun _ _ _ h=>h) (Or.inr ⟨by rfl,rfl⟩) ?_ ?_
          rotate_left
          · simp only [ζl,δa,δb,δc,i64_w,i32_w];rfl
          refine ζk (i:=22) (N:=some 52) (v:=undef) (a':=?_) #[τ,τ,τ,τ,τ,τ,τ,τ,τ,τ,τ,τ,τ,τ,τ,τ,τ,τ,τ,τ,τ,τ,τ,φ,φ,φ,φ] rfl rfl (ζj HT_.out (by kernel_rfl)) (fun _ _ _ h=>h) (Or.inr ⟨by rfl,rfl⟩) ?_ ?_
          rotate_left
          · simp only [ζl,δa,δb,δc,i64_w,i32_w];rfl
          refine ζk (i:=23) (N:=some 53) (v:=undef) (a':=?_) #[τ,τ,τ,τ,τ,τ,τ,τ,τ,τ,τ,τ,τ,τ,τ,τ,τ,τ,τ,τ,τ,τ,τ,τ,φ,φ,φ] rfl rfl (ζj HT_.out (by kernel_rfl)) (fun _ _ _ h=>h) (Or.inr ⟨by rfl,rfl⟩) ?_ ?_
          rotate_left
          · simp only [ζl,δa,δb,δc,i64_w,i32_w];rfl
          refine ζk (i:=24) (N:=some 54) (v:=undef) (a':=?_) #[τ,τ,τ,τ,τ,τ,τ,τ,τ,τ,τ,τ,τ,τ,τ,τ,τ,τ,τ,τ,τ,τ,τ,τ,τ,φ,φ] rfl rfl (ζj HT_.out (by kernel_rfl)) (fun _ _ _ h=>h) (Or.inr ⟨by rfl,rfl⟩) ?_ ?_
          rotate_left
          · simp only [ζl,δa,δb,δc,i64_w,i32_w];rfl
          refine ζk (i:=25) (N:=some 55) (v:=undef) (a':=?_) #[τ,τ,τ,τ,τ,τ,τ,τ,τ,τ,τ,τ,τ,τ,τ,τ,τ,τ,τ,τ,τ,τ,τ,τ,τ,τ,φ] rfl rfl (ζj HT_.out (by kernel_rfl)) (fun _ _ _ h=>h) (Or.inr ⟨by rfl,rfl⟩) ?_ ?_
          rotate_left
          · simp only [ζl,δa,δb,δc,i64_w,i32_w];rfl
          refine pu 26 56 ?_
          refine done_ (done_of HT_.out (by kernel_rfl)) ?_
          try go_wp2
          go_ret
          exact ⟨by rfl,by repeat ((with_reducible first|exact HB.out|apply δi))⟩
        ·
         rw [if_neg c25] at H
         exact absurd H (by simp)
       ·
        rw [if_neg c24] at H
        exact absurd H (by simp)
      ·
       rw [if_neg c23] at H
       have c23b0:=decide_eq_false c23
       clear c23
       obtain rfl:=Option.some.inj H
       have hcz72_0:wr.cell? ⟨gb118,0,none⟩=some (.string a0_0):=(δl BK118.out 0).trans rfl
       have hcz72_1:wr.cell? ⟨gb118,1,none⟩=some (.slice A0_1 l0_1.length c0_1):=(δl BK118.out 1).trans rfl
       have hfz72_0:=δm BK118.out 0
       have hfz72_1:=δm BK118.out 1
       go_wp2
       go_ret
       exact ⟨by rfl,by repeat ((with_reducible exact HB.out))⟩


open Go.Proofs.YtggemblkhckbpaaW.PrintWords renaming gate_dst → δx
set_option maxHeartbeats 8000000
set_option maxRecDepth 100000


/-! ### slices_Clone_impl_State_impl_State: function 63 -/
def slices_Clone_impl_State_impl_State.f (l0:List (S39)):Option (List (S39)):=if l0.length≤5864062014805 then some l0 else none
theorem slices_Clone_impl_State_impl_State.some_ (ad:Addr) (c0:Nat) (l0:List (S39)) (w:World) (hr0:Kd.C k39 w (some ad) l0.length l0) (hl:l0.length * 24≤140737488355328) :
  Calls Try.prog 63 #[.slice (some ad) l0.length c0] w fun e w' => ∃ v0_:Value,e = .returned (v0_)∧Kd.R k39 39 w' w.heap.size (fun _=>True) v0_ l0∧Below w.heap.size w w':=by
 have HR:=ζa hr0
 have HL:=ζa hl
 clear hr0 hl
 have q : ∀ (w:World),(binOp .eql 23 (.slice (some ad) l0.length c0) (.slice none 0 0)).run Try.prog w = .ok (.bool φ) w:=fun w=>Lib.run_eql_slice_nil w 23 39 (some ad) l0.length c0 0 0 Try.underlying23
 go_enter Try.func63,Try.ntmps63
 go_wp2_with (first
  | ((with_reducible refine δx (N:=5) rfl ?_);refine Kd.R_lit k39 _ 39 ?hg (N:=5) ?hd (xs:=([]:List S39)) (inner:=[]) (ok:=fun _=>True) (okp:=fun _=>True) ?hr ?hp (fun _ hk=>hk) trivial (Below.refl _ _) (Nat.le_refl _) (by simp) ?_;(case hd=>rfl);(case hg=>rfl);(case hr=>first|(go_simp;done)|(go_simp;rfl));(case hp=>exact (Reps.none _ _));intro v5 w5 ho5 hb5 hg_ hnew_;clear hg_ hnew_;have HO:=ζa ho5;have HB:=ζa hb5;clear ho5 hb5)
  | ((with_reducible refine δx (N:=7) rfl ?_);refine Kd.R_append_rows (w0:=w) (Rr:=k39.K w5) k39 w.heap.size ?hg (.tmp 5) (.tmp 6) 23 39 (.agg #[(.int .i64 0),(.string ⟨#[]⟩)]) 24 rfl Try.underlying23 info39 rfl (by decide) (by decide) v5 [] l0 (some ad) l0.length c0 (fun _=>True) (fun _=>False) rfl rfl HO.out (Kd.C_below HR.out HB.out) (fun x cs h=>by rw [k39_open h];exact k39_mkM _ _ _ x) (fun _ h=>h.elim) (fun _ _=>trivial) HB.out HB.out.size (by have:=HL.out;simpa using this) ?_;(case hg=>rfl);intro v7 w7 ho7 hb7 hg_ hnew_;clear hg_ hnew_;have HO7:=ζa ho7;have HB7:=ζa hb7;clear ho7 hb7))
 go_ret
 exact ⟨_,rfl,HO7.out,HB7.out⟩
theorem slices_Clone_impl_State_impl_State.none_ (n c0:Nat) (w:World) :
  Calls Try.prog 63 #[.slice none n c0] w fun e w'=>e = .returned (.slice none 0 0)∧w=w':=by
 have q : ∀ (w:World),(binOp .eql 23 (.slice none n c0) (.slice none 0 0)).run Try.prog w = .ok (.bool τ) w:=fun w=>Lib.run_eql_slice_nil w 23 39 none n c0 0 0 Try.underlying23
 go_enter Try.func63,Try.ntmps63
 go_wp2
 go_ret
 exact ⟨rfl,rfl⟩
theorem slices_Clone_impl_State_impl_State.calls (A0:Option Addr) (c0:Nat) (l0:List (S39)) (r:List (S39)) (w:World) (hr0:Kd.C k39 w A0 l0.length l0) (hc0:l0.length≤c0) (h:slices_Clone_impl_State_impl_State.f l0=some r) :
  Calls Try.prog 63 #[.slice A0 l0.length c0] w fun e w' => ∃ v0_:Value,e = .returned (v0_)∧Kd.R k39 39 w' w.heap.size (fun _=>True) v0_ r∧Below w.heap.size w w':=by
 unfold slices_Clone_impl_State_impl_State.f at h
 by_cases hl:l0.length≤5864062014805
 ·
  rw [if_pos hl] at h
  obtain rfl:=Option.some.inj h
  cases A0 with
  | some ad=>exact slices_Clone_impl_State_impl_State.some_ ad c0 l0 w hr0 (by omega)
  | none =>
   have h0:l0.length=0:=by
    rcases Nat.eq_zero_or_pos l0.length with h0|h0
    · exact h0
    ·
     obtain ⟨ad,h,_⟩:=hr0.2.2 h0
     cases h
   obtain rfl:l0 = []:=List.eq_nil_of_length_eq_zero h0
   refine (slices_Clone_impl_State_impl_State.none_ _ c0 w).mono ?_
   rintro e w' ⟨rfl,rfl⟩
   exact ⟨_,rfl,Kd.R_nil _ _ _ _ _,Below.refl _ _⟩
 · rw [if_neg hl] at h;cases h


open Go.Proofs.YtggemblkhckbpaaW.PrintWords renaming gate_dst → δx, below_step → δr, blk_drew → δp, below_drew1 → δj, blk_cell → δl, below_size → δs, blk_frozen → δm, cell_far → δt, blk_put → δw, below_set → δq
open Go.Proofs.YtggemblkhckbpaaW.PrintLast renaming pure_ → ζk
open Go.Proofs.YtggemblkhckbpaaW.PrintWords.Kd renaming R_far → ζi
set_option maxHeartbeats 8000000
set_option maxRecDepth 100000

/-! ### impl_copyClient: function 32 -/
def impl_copyClient.f (a0_0:ByteArray) (l0_1:List (S39)):Option (ByteArray × (List (S39))):=(slices_Clone_impl_State_impl_State.f l0_1).bind fun t134=>(some (a0_0,t134))
theorem impl_copyClient.calls (a0_0:ByteArray) (A0_1:Option Addr) (c0_1:Nat) (l0_1:List (S39)) (r1:ByteArray) (r2:List (S39)) (w:World) (hr0_1:Kd.C k39 w A0_1 l0_1.length l0_1) (hc0_1:l0_1.length≤c0_1) (h:impl_copyClient.f a0_0 l0_1=some (r1,r2)) :
  Calls Try.prog 32 #[.agg #[.string a0_0,.slice A0_1 l0_1.length c0_1]] w fun e w' => ∃ v1_:Value,e = .returned (.agg #[.string r1,v1_])∧Kd.R k39 39 w' w.heap.size (fun _=>True) v1_ r2∧Below w.heap.size w w':=by
 have hu25:=Try.underlying25
 have HR0_1:=ζa hr0_1
 have HC0_1:=ζa hc0_1
 clear hr0_1 hc0_1
 have HB:=ζa (Below.refl w.heap.size w)
 have H:((slices_Clone_impl_State_impl_State.f l0_1).bind fun t134=>(some (a0_0,t134)))=some (r1,r2):=h
 clear h
 obtain ⟨t134,A2,H⟩:=bsm H
 simp only [Option.some.injEq,Prod.mk.injEq] at H
 obtain ⟨rfl,rfl⟩:=H
 go_enter Try.func32,Try.ntmps32
 try go_wp2_with (first|((with_reducible refine δx (N:=1) rfl ?_);refine bev 1 #[.string a0_0,.slice A0_1 l0_1.length c0_1] 25 ?_;intro gb132 hg w3 hbox hb;have BK132:=ζa (hbox);have GW132:=ζa (gbw hg (by exact HB.out));have GE132:=ζa (gbw hg (by exact HB.out));replace HB:=ζa (δr (by exact HB.out) hb);clear hb hbox hg)|((with_reducible refine δx (N:=2) rfl ?_);refine bev 2 #[.string (⟨#[]⟩:ByteArray),.slice none 0 0] 25 ?_;intro gb133 hg w4 hbox hb;have BK133:=ζa (hbox);have GW133:=ζa (gbw hg (by exact HB.out));have GE133:=ζa (gbw hg (by exact HB.out));replace HB:=ζa (δr (by exact HB.out) hb);have NB132_133:=ζa ((by rw [hg];exact Nat.ne_of_lt (blk_lt (g:=gb132) (o:=.cells #[.string a0_0,.slice A0_1 l0_1.length c0_1] 25 (0,0)) (by exact BK132.out)):gb132≠gb133));have NB133_132:=ζa ((by rw [hg];exact Nat.ne_of_gt (blk_lt (g:=gb132) (o:=.cells #[.string a0_0,.slice A0_1 l0_1.length c0_1] 25 (0,0)) (by exact BK132.out)):gb133≠gb132));replace BK132:=ζa (blk_below (g:=gb132) (o:=.cells #[.string a0_0,.slice A0_1 l0_1.length c0_1] 25 (0,0)) (by exact BK132.out) hb);clear hb hbox hg))
 replace BK132:=ζa (δp BK132.out)
 replace BK133:=ζa (δp BK133.out)
 replace HB:=ζa (δj HB.out)
 refine start_ (n:=7) (S:=fun w'=>w'.cell? ⟨gb132,0,none⟩=some (.string a0_0)∧w'.cell? ⟨gb132,1,none⟩=some (.slice A0_1 l0_1.length c0_1)) (ds:=[]) #[φ,φ,φ,φ,φ,φ,φ] (by kernel_rfl) rfl rfl ⟨(δl BK132.out 0).trans rfl,(δl BK132.out 1).trans rfl⟩ (fun hHeld => ?_)
 generalize w4.drew=w5 at BK132 BK133 HB hHeld ⊢
 refine ζk (i:=0) (N:=some 3) (v:=?_) (a':=?_) #[τ,φ,φ,φ,φ,φ,φ] rfl rfl (by kernel_rfl) (fun _ _ _ h=>h) (Or.inl ⟨by rfl,?_⟩) ?_ ?_
 rotate_left
 · intro w';go_simp;with_reducible rfl
 rotate_left
 · simp only [ζl,δa,δb,δc,i64_w,i32_w];rfl
 refine ζk (i:=2) (N:=some 5) (v:=?_) (a':=?_) #[τ,φ,τ,φ,φ,φ,φ] rfl rfl (by kernel_rfl) (fun _ _ _ h=>h) (Or.inl ⟨by rfl,?_⟩) ?_ ?_
 rotate_left
 · intro w';go_simp;with_reducible rfl
 rotate_left
 · simp only [ζl,δa,δb,δc,i64_w,i32_w];rfl
 refine take_ (i:=1) (N:=some 4) (v:=?_) (a':=?_) #[τ,τ,τ,φ,φ,φ,φ] rfl rfl (by kernel_rfl) (fun _ _ _ h=>h) (Or.inl ⟨by rfl,?_⟩) hHeld ?_ ?_
 rotate_left
 · rintro w' ⟨s0,s1⟩;go_simp;with_reducible rfl
 rotate_left
 · simp only [ζl,δa,δb,δc,i64_w,i32_w];rfl
 refine take_ (i:=3) (N:=some 6) (v:=?_) (a':=?_) #[τ,τ,τ,τ,φ,φ,φ] rfl rfl (by kernel_rfl) (fun _ _ _ h=>h) (Or.inl ⟨by rfl,?_⟩) hHeld ?_ ?_
 rotate_left
 · rintro w' ⟨s0,s1⟩;go_simp;with_reducible rfl
 rotate_left
 · simp only [ζl,δa,δb,δc,i64_w,i32_w];rfl
 refine one_ (i:=4) (N:=some 7) #[τ,τ,τ,τ,τ,φ,φ] rfl rfl (by kernel_rfl) (by decide) (fun K hK => ?_)
 refine gs Try.func63 #[.slice A0_1 l0_1.length c0_1] ?_
 with_reducible refine (slices_Clone_impl_State_impl_State.calls _ _ l0_1 t134 _ ?side1 ?side2 A2.out).mono ?_
 (case side1=>repeat (exact (Kd.C_below HR0_1.out HB.out)))
 (case side2=>exact HC0_1.out)
 rintro e w6 ⟨v135,rfl,ho0,hb⟩
 refine ⟨_,rfl,?_⟩
 have HO136:=ζa (Kd.R_lower ho0 (δs (by exact HB.out)))
 replace BK132:=ζa (blk_below (g:=gb132) (o:=.cells #[.string a0_0,.slice A0_1 l0_1.length c0_1] 25 (0,0)) (by exact BK132.out) hb)
 replace BK133:=ζa (blk_below (g:=gb133) (o:=.cells #[.string (⟨#[]⟩:ByteArray),.slice none 0 0] 25 (0,0)) (by exact BK133.out) hb)
 replace HB:=ζa (δr (by exact HB.out) hb)
 (try clear hb)
 (try clear hb2)
 (try clear hk)
 (try clear hi)
 (try clear ho0)
 obtain ⟨Ao7,co7,eo7⟩:=Kd.R_slice HO136.out
 (subst eo7)
 refine hK.out _ _ ⟨(δl BK132.out 0).trans rfl,(δl BK132.out 1).trans rfl⟩ (fun hHeld => ?_)
 clear hK K
 refine nm 7 ?_
 refine ζk (i:=5) (N:=some 8) (v:=?_) (a':=?_) #[τ,τ,τ,τ,τ,τ,φ] rfl rfl (by kernel_rfl) (fun _ _ _ h=>h) (Or.inl ⟨by rfl,?_⟩) ?_ ?_
 rotate_left
 · intro w';go_simp;with_reducible rfl
 rotate_left
 · simp only [ζl,δa,δb,δc,i64_w,i32_w];rfl
 refine one_ (i:=6) (N:=none) #[τ,τ,τ,τ,τ,τ,τ] rfl rfl (by kernel_rfl) (by decide) (fun K hK => ?_)
 have hs8:w6.cell? ⟨gb133,0,none⟩=some (.string (⟨#[]⟩:ByteArray)):=(δl BK133.out 0).trans rfl
 have hfs8:=δm BK133.out 0
 have hns8_0:=NB132_133.out
 have hms8_0:=NB133_132.out
 have hs9:w6.cell? ⟨gb133,1,none⟩=some (.slice none 0 0):=(δl BK133.out 1).trans rfl
 have hfs9:=δm BK133.out 1
 have hns9_0:=NB132_133.out
 have hms9_0:=NB133_132.out
 refine skip_ (w1:=?_) (by rfl) rfl ?_ ?_
 rotate_left
 ·
  go_simp
  rfl
 refine hK.out _ _ ⟨((δt (p:=⟨gb133,_,none⟩) NB132_133.out _).trans (((δt (p:=⟨gb133,_,none⟩) NB132_133.out _).trans (hHeld.1)))),((δt (p:=⟨gb133,_,none⟩) NB132_133.out _).trans (((δt (p:=⟨gb133,_,none⟩) NB132_133.out _).trans (hHeld.2))))⟩ (fun hHeld => ?_)
 clear hK K
 refine done_ (by kernel_rfl) ?_
 try go_wp2
 refine bodyPost_ret (results_cell_row rfl _ _ gb133 25 #[.string a0_0,.slice Ao7 t134.length co7] (0,0) _ rfl (by refine δw (cs:=#[.string a0_0,.slice none 0 0]) ?_ 1 _ rfl;refine δw (cs:=#[.string (⟨#[]⟩:ByteArray),.slice none 0 0]) ?_ 0 _ rfl;exact BK133.out) Try.underlying25 rfl (by kernel_rfl)) rfl ?_
 exact ⟨_,by rfl,by exact Kd.R_mono (ζi (p:=⟨gb133,1,none⟩) (ζi (p:=⟨gb133,0,none⟩) (Kd.R_types HO136.out BK133.out (by decide)) (fun _ hk=>hk.2) (.string a0_0)) (fun _ hk=>hk.2) (.slice Ao7 t134.length co7)) (fun _ hk=>trivial),by repeat ((with_reducible first|exact HB.out|refine δq ?_ GE133.out))⟩


open Go.Proofs.YtggemblkhckbpaaW.PrintWords renaming gate_dst → δx, below_step → δr, blk_drew → δp, below_drew1 → δj, blk_cell → δl
set_option maxHeartbeats 8000000
set_option maxRecDepth 100000

/-! ### impl_Header_bytes: function 37 -/
def impl_Header_bytes.f (k:Nat) (a0_0:Int) (a0_1:Int) (a0_2:ByteArray) (a0_3:ByteArray):Option (ByteArray):=(impl_number.f k a0_0 1).bind fun t138=>((impl_number.f k a0_1 4).bind fun t139=>(if t138.size+t139.size≤9223372036854775807 then (if (t138 ++ t139).size+a0_2.size≤9223372036854775807 then (if ((t138 ++ t139) ++ a0_2).size+a0_3.size≤9223372036854775807 then (some (((t138 ++ t139) ++ a0_2) ++ a0_3)) else (none)) else (none)) else (none)))
def impl_Header_bytes.T1:Bool × List (List Nat × List Nat):=(τ,[([],[]),([0],[0]),([1],[1]),([],[]),([3],[3]),([4,2],[4]),([2,5],[2,5]),([],[]),([7],[7]),([6,8],[6,8]),([],[]),([10],[10]),([9,11],[9,11]),([12,5,0,1,2,3,4,5,6,7,8,9,10,11,12],[12])])
def impl_Header_bytes.B1:List Nat:=[0,1,3,0,8,31,63,0,128,511,0,1024,4095,8191]
theorem impl_Header_bytes.tab1:rtab .any (opsOf Try.f37 1)=impl_Header_bytes.T1:=by kernel_rfl
theorem impl_Header_bytes.bits1:waitsOk impl_Header_bytes.T1.2 impl_Header_bytes.B1=τ:=by kernel_rfl
theorem impl_Header_bytes.calls (k:Nat) (a0_0:Int) (a0_1:Int) (a0_2:ByteArray) (a0_3:ByteArray) (r:ByteArray) (w:World) (h:impl_Header_bytes.f k a0_0 a0_1 a0_2 a0_3=some r) :
  Calls Try.prog 37 #[.agg #[.int .i64 a0_0,.int .i64 a0_1,.string a0_2,.string a0_3]] w fun e w'=>e = .returned (.string r)∧Below w.heap.size w w':=by
 have hu28:=Try.underlying28
 have HB:=ζa (Below.refl w.heap.size w)
 have H:((impl_number.f k a0_0 1).bind fun t138=>((impl_number.f k a0_1 4).bind fun t139=>(if t138.size+t139.size≤9223372036854775807 then (if (t138 ++ t139).size+a0_2.size≤9223372036854775807 then (if ((t138 ++ t139) ++ a0_2).size+a0_3.size≤9223372036854775807 then (some (((t138 ++ t139) ++ a0_2) ++ a0_3)) else (none)) else (none)) else (none))))=some r:=h
 clear h
 obtain ⟨t138,A2,H⟩:=bsm H
 obtain ⟨t139,A3,H⟩:=bsm H
 by_cases c4:t138.size+t139.size≤9223372036854775807
 ·
  rw [if_pos c4] at H
  have c4b0:=eq_true c4
  have c4b1:=decide_eq_true c4
  try have c4b2:(9223372036854775807<t138.size+t139.size)=False:=eq_false (Nat.not_lt.2 c4)
  by_cases c5:(t138 ++ t139).size+a0_2.size≤9223372036854775807
  ·
   rw [if_pos c5] at H
   have c5b0:=eq_true c5
   have c5b1:=decide_eq_true c5
   try have c5b2:(9223372036854775807<(t138 ++ t139).size+a0_2.size)=False:=eq_false (Nat.not_lt.2 c5)
   have c5b3:(9223372036854775807<t138.size+t139.size+a0_2.size)=False:=eq_false (by have h_:=c5;simp only [ByteArray.size_append] at h_;omega)
   by_cases c6:((t138 ++ t139) ++ a0_2).size+a0_3.size≤9223372036854775807
   ·
    rw [if_pos c6] at H
    have c6b0:=eq_true c6
    have c6b1:=decide_eq_true c6
    try have c6b2:(9223372036854775807<((t138 ++ t139) ++ a0_2).size+a0_3.size)=False:=eq_false (Nat.not_lt.2 c6)
    have c6b3:(9223372036854775807<t138.size+t139.size+a0_2.size+a0_3.size)=False:=eq_false (by have h_:=c6;simp only [ByteArray.size_append] at h_;omega)
    obtain rfl:=Option.some.inj H
    go_enter Try.func37,Try.ntmps37
    try go_wp2_with (((with_reducible refine δx (N:=1) rfl ?_);refine bev 1 #[.int .i64 a0_0,.int .i64 a0_1,.string a0_2,.string a0_3] 28 ?_;intro gb137 hg w7 hbox hb;have BK137:=ζa (hbox);have GW137:=ζa (gbw hg (by exact HB.out));have GE137:=ζa (gbw hg (by exact HB.out));replace HB:=ζa (δr (by exact HB.out) hb);clear hb hbox hg))
    replace BK137:=ζa (δp BK137.out)
    replace HB:=ζa (δj HB.out)
    refine sta 14 (fun w'=>w'.cell? ⟨gb137,0,none⟩=some (.int .i64 a0_0)∧w'.cell? ⟨gb137,1,none⟩=some (.int .i64 a0_1)∧w'.cell? ⟨gb137,2,none⟩=some (.string a0_2)∧w'.cell? ⟨gb137,3,none⟩=some (.string a0_3)) [] impl_Header_bytes.tab1 impl_Header_bytes.bits1 ⟨(δl BK137.out 0).trans rfl,(δl BK137.out 1).trans rfl,(δl BK137.out 2).trans rfl,(δl BK137.out 3).trans rfl⟩ (fun hHeld HT_ HW_ => ?_)
    generalize w7.drew=w8 at BK137 HB hHeld ⊢
    refine pu 0 3 ?_
    refine pu 3 6 ?_
    refine pu 7 10 ?_
    refine pu 10 13 ?_
    refine ta 1 4 ?_
    refine ta 4 7 ?_
    refine ta 8 11 ?_
    refine ta 11 14 ?_
    refine on 2 5 (fun K hK => ?_)
    refine gs Try.func67 #[.int .i64 a0_0,.int .i64 1] ?_
    with_reducible refine (impl_number.calls k a0_0 1 t138 _ A2.out).mono ?_
    rintro e w9 ⟨rfl,hb⟩
    refine ⟨_,rfl,?_⟩
    replace BK137:=ζa (blk_below (g:=gb137) (o:=.cells #[.int .i64 a0_0,.int .i64 a0_1,.string a0_2,.string a0_3] 28 (0,0)) (by exact BK137.out) hb)
    replace HB:=ζa (δr (by exact HB.out) hb)
    (try clear hb)
    (try clear hb2)
    (try clear hk)
    (try clear hi)
    refine hK.out _ _ ⟨(δl BK137.out 0).trans rfl,(δl BK137.out 1).trans rfl,(δl BK137.out 2).trans rfl,(δl BK137.out 3).trans rfl⟩ (fun hHeld => ?_)
    clear hK K
    refine nm 5 ?_
    refine on 5 8 (fun K hK => ?_)
    refine gs Try.func67 #[.int .i64 a0_1,.int .i64 4] ?_
    with_reducible refine (impl_number.calls k a0_1 4 t139 _ A3.out).mono ?_
    rintro e w10 ⟨rfl,hb⟩
    refine ⟨_,rfl,?_⟩
    replace BK137:=ζa (blk_below (g:=gb137) (o:=.cells #[.int .i64 a0_0,.int .i64 a0_1,.string a0_2,.string a0_3] 28 (0,0)) (by exact BK137.out) hb)
    replace HB:=ζa (δr (by exact HB.out) hb)
    (try clear hb)
    (try clear hb2)
    (try clear hk)
    (try clear hi)
    refine hK.out _ _ ⟨(δl BK137.out 0).trans rfl,(δl BK137.out 1).trans rfl,(δl BK137.out 2).trans rfl,(δl BK137.out 3).trans rfl⟩ (fun hHeld => ?_)
    clear hK K
    refine nm 8 ?_
    refine pu 6 9 ?_
    refine pu 9 12 ?_
    refine pu 12 15 ?_
    refine pu 13 2 ?_
    refine done_ (done_of HT_.out (by kernel_rfl)) ?_
    try go_wp2
    go_ret
    exact ⟨by rfl,by repeat ((with_reducible exact HB.out))⟩
   ·
    rw [if_neg c6] at H
    exact absurd H (by simp)
  ·
   rw [if_neg c5] at H
   exact absurd H (by simp)
 ·
  rw [if_neg c4] at H
  exact absurd H (by simp)


open Go.Proofs.YtggemblkhckbpaaW.PrintWords renaming gate_dst → δx, below_step → δr, blk_cell → δl, blk_frozen → δm, gate_callee → δv
set_option maxHeartbeats 8000000
set_option maxRecDepth 100000

/-! ### impl_Header_hash: function 34 -/
def impl_Header_hash.f (k:Nat) (a0_0:Int) (a0_1:Int) (a0_2:ByteArray) (a0_3:ByteArray):Option (ByteArray):=(impl_Header_bytes.f k a0_0 a0_1 a0_2 a0_3).bind fun t141=>(if 6+t141.size≤9223372036854775807 then ((impl_hash.f ((⟨#[104,101,97,100,101,114]⟩:ByteArray) ++ t141)).bind fun t142=>(some t142)) else (none))
theorem impl_Header_hash.calls (k:Nat) (a0_0:Int) (a0_1:Int) (a0_2:ByteArray) (a0_3:ByteArray) (r:ByteArray) (w:World) (h:impl_Header_hash.f k a0_0 a0_1 a0_2 a0_3=some r) :
  Calls Try.prog 34 #[.agg #[.int .i64 a0_0,.int .i64 a0_1,.string a0_2,.string a0_3]] w fun e w'=>e = .returned (.string r)∧Below w.heap.size w w':=by
 have hu28:=Try.underlying28
 have HB:=ζa (Below.refl w.heap.size w)
 have H:((impl_Header_bytes.f k a0_0 a0_1 a0_2 a0_3).bind fun t141=>(if 6+t141.size≤9223372036854775807 then ((impl_hash.f ((⟨#[104,101,97,100,101,114]⟩:ByteArray) ++ t141)).bind fun t142=>(some t142)) else (none)))=some r:=h
 clear h
 obtain ⟨t141,A2,H⟩:=bsm H
 by_cases c3:6+t141.size≤9223372036854775807
 ·
  rw [if_pos c3] at H
  have c3b0:=eq_true c3
  have c3b1:=decide_eq_true c3
  try have c3b2:(9223372036854775807<6+t141.size)=False:=eq_false (Nat.not_lt.2 c3)
  obtain ⟨t142,A4,H⟩:=bsm H
  obtain rfl:=Option.some.inj H
  go_enter Try.func34,Try.ntmps34
  go_wp2_with (first|((with_reducible refine δx (N:=1) rfl ?_);refine bev 1 #[.int .i64 a0_0,.int .i64 a0_1,.string a0_2,.string a0_3] 28 ?_;intro gb140 hg w5 hbox hb;have BK140:=ζa (hbox);have GW140:=ζa (gbw hg (by exact HB.out));have GE140:=ζa (gbw hg (by exact HB.out));replace HB:=ζa (δr (by exact HB.out) hb);clear hb hbox hg;have hcz6_0:w5.cell? ⟨gb140,0,none⟩=some (.int .i64 a0_0):=(δl BK140.out 0).trans rfl;have hcz6_1:w5.cell? ⟨gb140,1,none⟩=some (.int .i64 a0_1):=(δl BK140.out 1).trans rfl;have hcz6_2:w5.cell? ⟨gb140,2,none⟩=some (.string a0_2):=(δl BK140.out 2).trans rfl;have hcz6_3:w5.cell? ⟨gb140,3,none⟩=some (.string a0_3):=(δl BK140.out 3).trans rfl;have hfz6_0:=δm BK140.out 0;have hfz6_1:=δm BK140.out 1;have hfz6_2:=δm BK140.out 2;have hfz6_3:=δm BK140.out 3)|((with_reducible refine δv (f:=37) rfl ?_);refine gl 4 Try.func37 #[.agg #[.int .i64 a0_0,.int .i64 a0_1,.string a0_2,.string a0_3]] ?_;(with_reducible refine (impl_Header_bytes.calls k a0_0 a0_1 a0_2 a0_3 t141 _ A2.out).mono ?_);rintro e w7 ⟨rfl,hb⟩;refine ⟨_,rfl,?_⟩;replace BK140:=ζa (blk_below (g:=gb140) (o:=.cells #[.int .i64 a0_0,.int .i64 a0_1,.string a0_2,.string a0_3] 28 (0,0)) (by exact BK140.out) hb);replace HB:=ζa (δr (by exact HB.out) hb);(try clear hb);(try clear hb2);(try clear hk);(try clear hi))|((with_reducible refine δv (f:=64) rfl ?_);refine gl 6 Try.func64 #[.string ((⟨#[104,101,97,100,101,114]⟩:ByteArray) ++ t141)] ?_;(with_reducible refine (impl_hash.calls ((⟨#[104,101,97,100,101,114]⟩:ByteArray) ++ t141) t142 _ A4.out).mono ?_);rintro e w8 ⟨rfl,hb⟩;refine ⟨_,rfl,?_⟩;replace BK140:=ζa (blk_below (g:=gb140) (o:=.cells #[.int .i64 a0_0,.int .i64 a0_1,.string a0_2,.string a0_3] 28 (0,0)) (by exact BK140.out) hb);replace HB:=ζa (δr (by exact HB.out) hb);(try clear hb);(try clear hb2);(try clear hk);(try clear hi)))
  go_ret
  exact ⟨by rfl,by repeat ((with_reducible exact HB.out))⟩
 ·
  rw [if_neg c3] at H
  exact absurd H (by simp)

end Go.Proofs.Ytggemblkhckbpaa.Q
