/- Parts of the proof: what single Go functions compute, each with its walk, and plain laws over these. -/
import Derived.Test.YtabmfhnhmoiljaaGreatDoorM0
import Derived.Test.YtabmfhnhmoiljaaGreatDoorM2
import Derived.Test.YtabmfhnhmoiljaaGreatDoorM1
import Derived.IntWalk
import Derived.Laws.BitsLemmas
import Derived.Test.YtabmfhnhmoiljaaGreatDoorVMore
import Derived.Lib.ItoaNum
import Derived.Lib.AtoiAllCases
import Derived.Lib.Strings
import Derived.Lib.Bytealg
import Derived.Sort.Walk0
namespace Go.Proofs.YtabmfhnhmoiljaaGreatDoor.Q
open Go.RowKit Go.Proofs.YtabmfhnhmoiljaaGreatDoorW.PrintWords Go.Proofs.YtabmfhnhmoiljaaGreatDoorW.PrintLast Go.Proofs.YtabmfhnhmoiljaaGreatDoorW.PrintMore
open Go.Proofs.YtabmfhnhmoiljaaGreatDoorW.PrintWords.Aside0 renaming mk → ζa
open Go.Proofs.YtabmfhnhmoiljaaGreatDoorW.PrintWords renaming gate_dst → δx, box_event → δz, below_step → δr, below_alloc → δk, pw_below_drewN → δi, below_drew1 → δj, below_size → δs, blk_drew → δp, blk_cell → δl, below_set → δq, blk_drewN → δn, blk_alloc → δo
open Go.Proofs.YtabmfhnhmoiljaaGreatDoorW.PrintLast renaming pure_ → ζk, any_of → ζj
open Go.Act renaming put → ζl
open List renaming setIfInBounds_toArray → δa, set_cons_zero → δb, set_cons_succ → δc, map_toArray → δd, map_cons → δe, map_nil → δf, length_drop → δg, length_take → δh
open Go.Proofs.YtabmfhnhmoiljaaGreatDoorW.PrintWords.Kd renaming R_reads' → ζg, R_below → ζh, R_alloc → ζd, R_drewN → ζc, R_drew → ζe
open Bool renaming true → τ, false → φ
attribute [local go_sem] max2_int min2_int max_two min_two max_three min_three max_four min_four   -- for this text's walks alone
set_option linter.unusedVariables false
set_option linter.unusedSimpArgs false

/-! ### impl_transfer_data: function 96 -/
def impl_transfer_data.f (k:Nat) (a0_0:ByteArray) (a0_1:Int) (a0_2:ByteArray) (a0_3:ByteArray):Option (ByteArray):=(impl_amountText.f a0_1).bind fun t439=>((impl_fields.f k (([(⟨#[116]⟩:ByteArray),a0_0,t439,a0_2,a0_3]:List ByteArray))).bind fun t443=>(some t443))
def impl_transfer_data.T1:Bool × List (List Nat × List Nat):=(τ,[([],[]),([0],[0]),([],[]),([2],[2]),([3],[3]),([],[]),([5],[5]),([],[]),([7],[7]),([1,4,6,8],[1,4,6,8]),([9,4],[9]),([10,10,0,1,2,3,4,5,6,7,8,9,10],[10])])
def impl_transfer_data.B1:List Nat:=[0,1,0,4,12,0,32,0,128,511,1023,2047]
theorem impl_transfer_data.tab1:rtab .any (opsOf Tryz.f96 1)=impl_transfer_data.T1:=by kernel_rfl
theorem impl_transfer_data.bits1:waitsOk impl_transfer_data.T1.2 impl_transfer_data.B1=τ:=by kernel_rfl
set_option maxHeartbeats 8000000 in
set_option maxRecDepth 100000 in
theorem impl_transfer_data.calls (k:Nat) (a0_0:ByteArray) (a0_1:Int) (a0_2:ByteArray) (a0_3:ByteArray) (r:ByteArray) (w:World) (hT0:TabsOK w) (h:impl_transfer_data.f k a0_0 a0_1 a0_2 a0_3=some r) :
  Calls Tryz.prog 96 #[.agg #[.string a0_0,.int .i64 a0_1,.string a0_2,.string a0_3]] w fun e w'=>e = .returned (.string r)∧Below w.heap.size w w':=by
 have HT0:=ζa hT0
 clear hT0
 have hu61:=Tryz.underlying61
 have HB:=ζa (Below.refl w.heap.size w)
 have H:((impl_amountText.f a0_1).bind fun t439=>((impl_fields.f k (([(⟨#[116]⟩:ByteArray),a0_0,t439,a0_2,a0_3]:List ByteArray))).bind fun t443=>(some t443)))=some r:=h
 clear h
 replace H:=Option.bind_eq_some_iff.mp H
 obtain ⟨t439,A20,H⟩:=H
 replace H:((impl_fields.f k (([(⟨#[116]⟩:ByteArray),a0_0,t439,a0_2,a0_3]:List ByteArray))).bind fun t443=>(some t443))=some r:=H
 have A2:=ζa A20
 clear A20
 obtain ⟨y440,hy440⟩ : ∃ y_:List ByteArray,y_=(([(⟨#[116]⟩:ByteArray),a0_0,t439,a0_2,a0_3]:List ByteArray)):=⟨_,rfl⟩
 replace H:((impl_fields.f k y440).bind fun t443=>(some t443))=some r:=by first|(rw [hy440];with_reducible exact H)|(have H2_:=(Option.bind_some _ _).symm.trans H;rw [hy440];with_reducible exact H2_)|(have H2_:=(Option.bind_some _ _).symm.trans H;with_reducible exact H2_)|with_reducible exact H|(rw [hy440];exact H)|exact H
 have Ny440:=ζa hy440
 clear hy440
 replace H:=Option.bind_eq_some_iff.mp H
 obtain ⟨t443,A30,H⟩:=H
 replace H:(some t443)=some r:=H
 have A3:=ζa A30
 clear A30
 obtain rfl:=Option.some.inj H
 go_enter Tryz.func96,Tryz.ntmps96
 try go_wp2_with (first|((with_reducible refine δx (N:=1) rfl ?_);refine δz ?hg (N:=1) ?hd (cs:=#[.string a0_0,.int .i64 a0_1,.string a0_2,.string a0_3]) (t:=61) ?hr ?_;(case hd=>rfl);(case hg=>rfl);(case hr=>first|(go_simp;done)|(go_simp;rfl));intro gb438 hg w4 hbox hb;have n0_:=ζa (δr (by repeat (first|(with_reducible first|exact HB.out|apply δk|apply δi|apply δj)|exact HB.out)) hb);have n1_:=ζa (hbox);have n2_:=ζa ((by rw [hg];exact (δs (by repeat (first|(with_reducible first|exact HB.out|apply δk|apply δi|apply δj)|exact HB.out))):w.heap.size≤gb438));have n3_:=ζa ((by rw [hg];exact (δs (by repeat (first|(with_reducible first|exact HB.out|apply δk|apply δi|apply δj)|exact HB.out))):w.heap.size≤gb438));clear HB;have HB:=n0_;have BK438:=n1_;have GW438:=n2_;have GE438:=n3_;clear n0_ n1_ n2_ n3_;clear hb hbox hg))
 have n0_:=ζa (δp BK438.out)
 have n1_:=ζa (δj HB.out)
 clear BK438
 clear HB
 have BK438:=n0_
 have HB:=n1_
 clear n0_ n1_
 refine start_ (n:=12) (S:=fun w'=>w'.cell? ⟨gb438,0,none⟩=some (.string a0_0)∧w'.cell? ⟨gb438,1,none⟩=some (.int .i64 a0_1)∧w'.cell? ⟨gb438,2,none⟩=some (.string a0_2)∧w'.cell? ⟨gb438,3,none⟩=some (.string a0_3)) (ds:=[]) #[φ,φ,φ,φ,φ,φ,φ,φ,φ,φ,φ,φ] (by kernel_rfl) rfl rfl ⟨(δl BK438.out 0).trans rfl,(δl BK438.out 1).trans rfl,(δl BK438.out 2).trans rfl,(δl BK438.out 3).trans rfl⟩ (fun hHeld => ?_);refine with_tabW impl_transfer_data.tab1 impl_transfer_data.bits1 (fun HT_ HW_ => ?_)
 generalize w4.drew=w5 at BK438 HB hHeld ⊢
 refine ζk (i:=0) (N:=some 3) (v:=?_) (a':=?_) #[τ,φ,φ,φ,φ,φ,φ,φ,φ,φ,φ,φ] rfl rfl (ζj HT_.out (by kernel_rfl)) (fun _ _ _ h=>h) (Or.inl ⟨by rfl,?_⟩) ?_ ?_
 rotate_left
 · intro w';go_simp;with_reducible rfl
 rotate_left
 · simp only [ζl,δa,δb,δc,i64_w,i32_w];rfl
 refine ζk (i:=2) (N:=some 5) (v:=?_) (a':=?_) #[τ,φ,τ,φ,φ,φ,φ,φ,φ,φ,φ,φ] rfl rfl (ζj HT_.out (by kernel_rfl)) (fun _ _ _ h=>h) (Or.inl ⟨by rfl,?_⟩) ?_ ?_
 rotate_left
 · intro w';go_simp;with_reducible rfl
 rotate_left
 · simp only [ζl,δa,δb,δc,i64_w,i32_w];rfl
 refine ζk (i:=5) (N:=some 8) (v:=?_) (a':=?_) #[τ,φ,τ,φ,φ,τ,φ,φ,φ,φ,φ,φ] rfl rfl (ζj HT_.out (by kernel_rfl)) (fun _ _ _ h=>h) (Or.inl ⟨by rfl,?_⟩) ?_ ?_
 rotate_left
 · intro w';go_simp;with_reducible rfl
 rotate_left
 · simp only [ζl,δa,δb,δc,i64_w,i32_w];rfl
 refine ζk (i:=7) (N:=some 10) (v:=?_) (a':=?_) #[τ,φ,τ,φ,φ,τ,φ,τ,φ,φ,φ,φ] rfl rfl (ζj HT_.out (by kernel_rfl)) (fun _ _ _ h=>h) (Or.inl ⟨by rfl,?_⟩) ?_ ?_
 rotate_left
 · intro w';go_simp;with_reducible rfl
 rotate_left
 · simp only [ζl,δa,δb,δc,i64_w,i32_w];rfl
 refine take_ (i:=1) (N:=some 4) (v:=?_) (a':=?_) #[τ,τ,τ,φ,φ,τ,φ,τ,φ,φ,φ,φ] rfl rfl (take_ofW HT_.out HW_.out (by kernel_rfl)) (fun _ _ _ h=>h) (Or.inl ⟨by rfl,?_⟩) hHeld ?_ ?_
 rotate_left
 · rintro w' ⟨s0,s1,s2,s3⟩;go_simp;with_reducible rfl
 rotate_left
 · simp only [ζl,δa,δb,δc,i64_w,i32_w];rfl
 refine take_ (i:=3) (N:=some 6) (v:=?_) (a':=?_) #[τ,τ,τ,τ,φ,τ,φ,τ,φ,φ,φ,φ] rfl rfl (take_ofW HT_.out HW_.out (by kernel_rfl)) (fun _ _ _ h=>h) (Or.inl ⟨by rfl,?_⟩) hHeld ?_ ?_
 rotate_left
 · rintro w' ⟨s0,s1,s2,s3⟩;go_simp;with_reducible rfl
 rotate_left
 · simp only [ζl,δa,δb,δc,i64_w,i32_w];rfl
 refine take_ (i:=6) (N:=some 9) (v:=?_) (a':=?_) #[τ,τ,τ,τ,φ,τ,τ,τ,φ,φ,φ,φ] rfl rfl (take_ofW HT_.out HW_.out (by kernel_rfl)) (fun _ _ _ h=>h) (Or.inl ⟨by rfl,?_⟩) hHeld ?_ ?_
 rotate_left
 · rintro w' ⟨s0,s1,s2,s3⟩;go_simp;with_reducible rfl
 rotate_left
 · simp only [ζl,δa,δb,δc,i64_w,i32_w];rfl
 refine take_ (i:=8) (N:=some 11) (v:=?_) (a':=?_) #[τ,τ,τ,τ,φ,τ,τ,τ,τ,φ,φ,φ] rfl rfl (take_ofW HT_.out HW_.out (by kernel_rfl)) (fun _ _ _ h=>h) (Or.inl ⟨by rfl,?_⟩) hHeld ?_ ?_
 rotate_left
 · rintro w' ⟨s0,s1,s2,s3⟩;go_simp;with_reducible rfl
 rotate_left
 · simp only [ζl,δa,δb,δc,i64_w,i32_w];rfl
 refine one_ (i:=4) (N:=some 7) #[τ,τ,τ,τ,τ,τ,τ,τ,τ,φ,φ,φ] rfl rfl (one_of HT_.out (by kernel_rfl)) (by decide) (fun K hK => ?_)
 refine goes_ Tryz.func147 (by kernel_rfl) rfl #[.int .i64 a0_1] (by rfl) rfl rfl (by (try simp only [δd,δe,δf]);first|done|rfl|(simp only [δg,δh];rfl)) ?_
 with_reducible refine (impl_amountText.calls a0_1 t439 _ (HT0.out.below (by repeat (first|(with_reducible first|exact HB.out|apply δk|apply δi|apply δj|refine δq ?_ GE438.out)|exact HB.out))) A2.out).mono ?_
 rintro e w6 ⟨rfl,hb⟩
 refine ⟨_,rfl,?_⟩
 have n0_:=ζa (blk_below (g:=gb438) (o:=.cells #[.string a0_0,.int .i64 a0_1,.string a0_2,.string a0_3] 61 (0,0)) (by (with_reducible repeat (first|refine δn ?_ _|refine δp ?_|refine δo ?_ _));exact BK438.out) hb)
 have n1_:=ζa (δr (by repeat (first|(with_reducible first|exact HB.out|apply δk|apply δi|apply δj|refine δq ?_ GE438.out)|exact HB.out)) hb)
 clear BK438
 clear HB
 have BK438:=n0_
 have HB:=n1_
 clear n0_ n1_
 (try clear hb)
 (try clear hb2)
 (try clear hk)
 (try clear hi)
 refine hK.out _ _ ⟨(δl BK438.out 0).trans rfl,(δl BK438.out 1).trans rfl,(δl BK438.out 2).trans rfl,(δl BK438.out 3).trans rfl⟩ (fun hHeld => ?_)
 clear hK K
 refine norm_ (a':=?_) ?_ ?_
 rotate_left
 ·
  show ζl _ (some 7) _=_
  simp only [ζl,δa,δb,δc,i64_w,i32_w];rfl
 refine one_ (i:=9) (N:=some 12) #[τ,τ,τ,τ,τ,τ,τ,τ,τ,τ,φ,φ] rfl rfl (one_of HT_.out (by kernel_rfl)) (by decide) (fun K hK => ?_)
 refine Kd.R_lit_step Kd.string _ 9 ?hg (N:=12) ?hd (xs:=([(⟨#[116]⟩:ByteArray),a0_0,t439,a0_2,a0_3]:List ByteArray)) (inner:=[.string (⟨#[116]⟩:ByteArray),.string a0_0,.string t439,.string a0_2,.string a0_3]) (ok:=fun _=>True) (okp:=fun _=>True) ?hr ?hp (fun _ hk=>hk) trivial (Below.refl _ _) (Nat.le_refl _) (by simp) ?_;(case hd=>rfl);(case hg=>rfl);(case hr=>first|(go_simp;done)|(go_simp;rfl));(case hp=>exact (Reps.one (show Kd.M Kd.string _ _ _ (⟨#[116]⟩:ByteArray) [.string (⟨#[116]⟩:ByteArray)] from rfl) (Reps.one (show Kd.M Kd.string _ _ _ a0_0 [.string a0_0] from rfl) (Reps.one (show Kd.M Kd.string _ _ _ t439 [.string t439] from rfl) (Reps.one (show Kd.M Kd.string _ _ _ a0_2 [.string a0_2] from rfl) (Reps.one (show Kd.M Kd.string _ _ _ a0_3 [.string a0_3] from rfl) (Reps.none _ _)))))))
 intro v441 w7 ho8 hb hg_ hnew_
 clear hg_ hnew_
 (first|rw [← Ny440.out] at ho8|(simp only [Int.reduceToNat] at ho8;rw [← Ny440.out] at ho8))
 have n0_:=ζa (Kd.R_lower ho8 (δs (by repeat (first|(with_reducible first|exact HB.out|apply δk|apply δi|apply δj|refine δq ?_ GE438.out)|exact HB.out))))
 have n1_:=ζa (blk_below (g:=gb438) (o:=.cells #[.string a0_0,.int .i64 a0_1,.string a0_2,.string a0_3] 61 (0,0)) (by (with_reducible repeat (first|refine δn ?_ _|refine δp ?_|refine δo ?_ _));exact BK438.out) hb)
 have n2_:=ζa (δr (by repeat (first|(with_reducible first|exact HB.out|apply δk|apply δi|apply δj|refine δq ?_ GE438.out)|exact HB.out)) hb)
 clear BK438
 clear HB
 have HO442:=n0_
 have BK438:=n1_
 have HB:=n2_
 clear n0_ n1_ n2_
 clear hb ho8
 obtain ⟨Ao9,co9,eo9⟩:=Kd.R_slice HO442.out
 (first|subst eo9|(injection eo9 with f1_ f2_ f3_;have f4_:=f1_.symm;have f5_:=f3_.symm;clear f1_ f2_ f3_;subst f4_;subst f5_))
 refine hK.out _ _ ⟨(δl BK438.out 0).trans rfl,(δl BK438.out 1).trans rfl,(δl BK438.out 2).trans rfl,(δl BK438.out 3).trans rfl⟩ (fun hHeld => ?_)
 clear hK K
 refine norm_ (a':=?_) ?_ ?_
 rotate_left
 ·
  show ζl _ (some 12) _=_
  simp only [ζl,δa,δb,δc,i64_w,i32_w];rfl
 refine one_ (i:=10) (N:=some 13) #[τ,τ,τ,τ,τ,τ,τ,τ,τ,τ,τ,φ] rfl rfl (one_of HT_.out (by kernel_rfl)) (by decide) (fun K hK => ?_)
 refine goes_ Tryz.func146 (by kernel_rfl) rfl #[.slice Ao9 y440.length co9] (by rfl) rfl rfl (by (try simp only [δd,δe,δf]);first|done|rfl|(simp only [δg,δh];rfl)) ?_
 with_reducible refine (impl_fields.calls k _ _ y440 t443 _ ?side1 ?side2 A3.out).mono ?_
 (case side1=>repeat (first|exact (ζg HO442.out).2.2|(with_reducible refine Kd.C_alloc ?_ _)|(with_reducible refine Kd.C_drewN ?_ _)|(with_reducible refine Kd.C_drew ?_)))
 (case side2=>exact (ζg HO442.out).2.1)
 rintro e w10 ⟨rfl,hb⟩
 refine ⟨_,rfl,?_⟩
 have n0_:=ζa (ζh (by (with_reducible repeat (first|apply ζd|apply ζc|apply ζe));exact HO442.out) hb)
 have n1_:=ζa (blk_below (g:=gb438) (o:=.cells #[.string a0_0,.int .i64 a0_1,.string a0_2,.string a0_3] 61 (0,0)) (by (with_reducible repeat (first|refine δn ?_ _|refine δp ?_|refine δo ?_ _));exact BK438.out) hb)
 have n2_:=ζa (δr (by repeat (first|(with_reducible first|exact HB.out|apply δk|apply δi|apply δj|refine δq ?_ GE438.out)|exact HB.out)) hb)
 clear HO442
 clear BK438
 clear HB
 have HO442:=n0_
 have BK438:=n1_
 have HB:=n2_
 clear n0_ n1_ n2_
 (try clear hb)
 (try clear hb2)
 (try clear hk)
 (try clear hi)
 refine hK.out _ _ ⟨(δl BK438.out 0).trans rfl,(δl BK438.out 1).trans rfl,(δl BK438.out 2).trans rfl,(δl BK438.out 3).trans rfl⟩ (fun hHeld => ?_)
 clear hK K
 refine norm_ (a':=?_) ?_ ?_
 rotate_left
 ·
  show ζl _ (some 13) _=_
  simp only [ζl,δa,δb,δc,i64_w,i32_w];rfl
 refine ζk (i:=11) (N:=some 2) (v:=?_) (a':=?_) #[τ,τ,τ,τ,τ,τ,τ,τ,τ,τ,τ,τ] rfl rfl (ζj HT_.out (by kernel_rfl)) (fun _ _ _ h=>h) (Or.inl ⟨by rfl,?_⟩) ?_ ?_
 rotate_left
 · intro w';go_simp;with_reducible rfl
 rotate_left
 · simp only [ζl,δa,δb,δc,i64_w,i32_w];rfl
 refine done_ (done_of HT_.out (by kernel_rfl)) ?_
 try go_wp2
 go_ret
 exact ⟨by first|rfl|(simp [errW_none,errW_some] <;> rfl)|(simp [*,errW_none,errW_some] <;> rfl),by repeat (first|(with_reducible first|exact HB.out|apply δk|apply δi|apply δj|refine δq ?_ GE438.out)|exact HB.out)⟩


open Go.Proofs.YtabmfhnhmoiljaaGreatDoorW.PrintWords renaming gate_dst → δx, box_event → δz, below_step → δr, below_alloc → δk, below_drew1 → δj, pw_below_drewN → δi, blk_cell → δl, blk_frozen → δm, blk_alloc → δo, blk_drew → δp, blk_drewN → δn
open Go.Proofs.YtabmfhnhmoiljaaGreatDoorW.PrintWords.Kd renaming R_below → ζh, R_alloc → ζd, R_drew → ζe, R_drewN → ζc

/-! ### impl_sendCoins: function 52 -/
def impl_sendCoins.f (k:Nat) (name:ByteArray) (list:List S51) (t_0:ByteArray) (t_1:Int) (t_2:ByteArray) (t_3:ByteArray):Option (List S51 × ByteArray × Int) :=
 (impl_transfer_isRight.f k t_0 t_1 t_2 t_3).bind fun q1=>if q1=τ then (if t_0.toList=name.toList then ((impl_move.F k t_2 (⟨#[101,115,99,114,111,119]⟩:ByteArray) t_0 t_1 list).bind fun q2=>if q2.2=0 then ((impl_transfer_data.f k t_0 t_1 t_2 t_3).bind fun q3=>some (q2.1,q3,0)) else (some (q2.1,(⟨#[]⟩:ByteArray),q2.2))) else ((impl_otherName.f name).bind fun q4=>(impl_voucherOf.f q4).bind fun q5=>if t_0.toList=q5.toList then ((impl_burn.F k t_2 t_0 t_1 list).bind fun q6=>if q6.2=0 then ((impl_transfer_data.f k t_0 t_1 t_2 t_3).bind fun q7=>some (q6.1,q7,0)) else (some (q6.1,(⟨#[]⟩:ByteArray),q6.2))) else ((slices_Clone_impl_Pair_impl_Pair.f list).bind fun q8=>some (q8,(⟨#[]⟩:ByteArray),3)))) else ((slices_Clone_impl_Pair_impl_Pair.f list).bind fun q9=>some (q9,(⟨#[]⟩:ByteArray),4))
set_option maxHeartbeats 4000000 in
set_option maxRecDepth 100000 in
theorem impl_sendCoins.calls (k:Nat) (name:ByteArray) (A_list:Option Addr) (c_list:Nat) (list:List S51) (t_0:ByteArray) (t_1:Int) (t_2:ByteArray) (t_3:ByteArray) (r1:List S51) (r2:ByteArray) (r3:Int) (w:World) (hr0_list:Kd.C k51 w A_list list.length list) (hc0_list:list.length≤c_list) (hT0:TabsOK w) (h:impl_sendCoins.f k name list t_0 t_1 t_2 t_3=some (r1,r2,r3)) :
  Calls Tryz.prog 52 #[.string name,.slice A_list list.length c_list,.agg #[.string t_0,.int .i64 t_1,.string t_2,.string t_3]] w fun e w' => ∃ v0_:Value,e = .returned (.tuple #[v0_,.string r2,.int .i64 r3])∧Kd.R k51 51 w' w.heap.size (fun _=>True) v0_ r1∧Below w.heap.size w w':=by
 have HR0_list:=ζa hr0_list
 have HC0_list:=ζa hc0_list
 clear hr0_list hc0_list
 have HT0:=ζa hT0
 clear hT0
 have HB0:=ζa (Below.refl w.heap.size w)
 unfold impl_sendCoins.f at h
 have HH:=ζa h
 clear h
 go_enter Tryz.func52,Tryz.ntmps52
 have h:=HH.out
 clear HH
 obtain ⟨ok,h2_,h⟩:=Option.bind_eq_some_iff.mp h
 have HH:=ζa h
 have H2:=ζa h2_
 clear h h2_
 go_wp2_with (first|((with_reducible refine δx (N:=5) rfl ?_);refine δz ?hg (N:=5) ?hd (cs:=#[.string t_0,.int .i64 t_1,.string t_2,.string t_3]) (t:=61) ?hr ?_;(case hd=>rfl);(case hg=>rfl);(case hr=>first|(go_simp;done)|(go_simp;rfl));intro gbt hg w1 hbox hb;have hbc:=δr (show Below w.heap.size w _ from by repeat (first|exact Below.refl _ _|apply δk|apply δj|apply δi)) hb;have GEt:Aside0 (w.heap.size≤gbt):=⟨by rw [hg];exact Below.size (show Below w.heap.size w _ from by repeat (first|exact Below.refl _ _|apply δk|apply δj|apply δi))⟩;have GWt:Aside0 (w.heap.size≤gbt):=⟨Nat.le_trans HB0.out.size GEt.out⟩;have BKt:=ζa hbox;have m_:=ζa (δr HB0.out hbc);have HB1:=m_;clear m_;clear hb hbc hbox hg;have hzt_0:=(δl BKt.out 0).trans rfl;have hzt_1:=(δl BKt.out 1).trans rfl;have hzt_2:=(δl BKt.out 2).trans rfl;have hzt_3:=(δl BKt.out 3).trans rfl;have hft_0:=δm BKt.out 0;have hft_1:=δm BKt.out 1;have hft_2:=δm BKt.out 2;have hft_3:=δm BKt.out 3))
 refine (impl_transfer_isRight.calls k t_0 t_1 t_2 t_3 ok _ H2.out).mono ?_
 rintro e w2 ⟨rfl,hb⟩
 have m_:=ζa (blk_below (by repeat (first|exact BKt.out|apply δo|apply δp|apply δn)) hb)
 clear BKt
 have BKt:=m_
 clear m_
 clear hzt_0 hft_0 hzt_1 hft_1 hzt_2 hft_2 hzt_3 hft_3
 have m_:=ζa (δr (by repeat (first|exact HB1.out|apply δk|apply δj|apply δi)) hb)
 clear hb
 have HB2:=m_
 clear m_
 have hzt_0:=(δl BKt.out 0).trans rfl
 have hft_0:=δm BKt.out 0
 have hzt_1:=(δl BKt.out 1).trans rfl
 have hft_1:=δm BKt.out 1
 have hzt_2:=(δl BKt.out 2).trans rfl
 have hft_2:=δm BKt.out 2
 have hzt_3:=(δl BKt.out 3).trans rfl
 have hft_3:=δm BKt.out 3
 have h:=HH.out
 clear HH
 cases ok with
 | true =>
  rw [if_pos rfl] at h
  have HH:=ζa h
  clear h
  go_wp2_with fail
  refine (impl_move.calls k t_2 ((⟨#[101,115,99,114,111,119]⟩:ByteArray)) t_0 t_1 _ (HT0.out.below (by repeat (first|exact HB2.out|apply δk|apply δj|apply δi)))).mono ?_
  rintro e w4 ⟨g_m,lb_m,rfl,hch,hb⟩
  have m_:=ζa (blk_below (by repeat (first|exact BKt.out|apply δo|apply δp|apply δn)) hb)
  clear BKt
  have BKt:=m_
  clear m_
  clear hzt_0 hft_0 hzt_1 hft_1 hzt_2 hft_2 hzt_3 hft_3
  have m_:=ζa (δr (by repeat (first|exact HB2.out|apply δk|apply δj|apply δi)) hb)
  clear hb
  have HB4:=m_
  clear m_
  have CH_m:=ζa hch
  have eg_m : ∀ args w,(callFunc g_m args).run Tryz.prog w = .ok (.enter g_m args) w:=hch.enters
  clear hch
  have hzt_0:=(δl BKt.out 0).trans rfl
  have hft_0:=δm BKt.out 0
  have hzt_1:=(δl BKt.out 1).trans rfl
  have hft_1:=δm BKt.out 1
  have hzt_2:=(δl BKt.out 2).trans rfl
  have hft_2:=δm BKt.out 2
  have hzt_3:=(δl BKt.out 3).trans rfl
  have hft_3:=δm BKt.out 3
  have h:=HH.out
  clear HH
  by_cases cc5:t_0.toList=name.toList
  ·
   rw [if_pos cc5] at h
   have HH:=ζa h
   clear h
   have f5a:(t_0.toList == name.toList)=τ:=beq_iff_eq.mpr cc5
   have f5b:(t_0.toList != name.toList)=φ:=bne_eq_false_iff_eq.mpr cc5
   have C5:=ζa cc5
   clear cc5
   have h:=HH.out
   clear HH
   obtain ⟨⟨o1,c1⟩,h6_,h⟩:=Option.bind_eq_some_iff.mp h
   have HH:=ζa h
   have H6:=ζa h6_
   clear h h6_
   go_wp2_with fail
   refine (CH_m.out.calls _ A_list c_list list o1 c1 (by repeat (first|exact Below.refl _ _|apply δk|apply δj|apply δi)) (by repeat (first|exact Kd.C_below HR0_list.out HB4.out|apply Kd.C_alloc|apply Kd.C_drew|apply Kd.C_drewN)) HC0_list.out H6.out).mono ?_
   rintro e w6 ⟨v6,rfl,ho,hb⟩
   have m_:=ζa (blk_below (by repeat (first|exact BKt.out|apply δo|apply δp|apply δn)) hb)
   clear BKt
   have BKt:=m_
   clear m_
   clear hzt_0 hft_0 hzt_1 hft_1 hzt_2 hft_2 hzt_3 hft_3
   have ho':=Kd.R_lower ho (Below.size (show Below w.heap.size w _ from by repeat (first|exact HB4.out|apply δk|apply δj|apply δi)))
   obtain ⟨adr6,cap6,rfl,hl6,hq6⟩:=Kd.R_reads ho'
   have HC6:=ζa hl6
   have HRn6:=ζa hq6
   have HOn6:=ζa ho'
   clear hl6 hq6 ho ho'
   have m_:=ζa (δr (by repeat (first|exact HB4.out|apply δk|apply δj|apply δi)) hb)
   clear hb
   have HB6:=m_
   clear m_
   have hzt_0:=(δl BKt.out 0).trans rfl
   have hft_0:=δm BKt.out 0
   have hzt_1:=(δl BKt.out 1).trans rfl
   have hft_1:=δm BKt.out 1
   have hzt_2:=(δl BKt.out 2).trans rfl
   have hft_2:=δm BKt.out 2
   have hzt_3:=(δl BKt.out 3).trans rfl
   have hft_3:=δm BKt.out 3
   have h:=HH.out
   clear HH
   by_cases cc7:c1=0
   ·
    rw [if_pos cc7] at h
    have HH:=ζa h
    clear h
    have f7a:(c1 == 0)=τ:=beq_iff_eq.mpr cc7
    have f7b:(c1 != 0)=φ:=bne_eq_false_iff_eq.mpr cc7
    have C7:=ζa cc7
    clear cc7
    have h:=HH.out
    clear HH
    obtain ⟨d1,h8_,h⟩:=Option.bind_eq_some_iff.mp h
    have HH:=ζa h
    have H8:=ζa h8_
    clear h h8_
    go_wp2_with fail
    refine (impl_transfer_data.calls k t_0 t_1 t_2 t_3 d1 _ (HT0.out.below (by repeat (first|exact HB6.out|apply δk|apply δj|apply δi))) H8.out).mono ?_
    rintro e w8 ⟨rfl,hb⟩
    have m_:=ζa (Kd.C_below (by repeat (first|exact HRn6.out|apply Kd.C_alloc|apply Kd.C_drew|apply Kd.C_drewN)) hb)
    clear HRn6
    have HRn6:=m_
    clear m_
    have m_:=ζa (ζh (by repeat (first|exact HOn6.out|apply ζd|apply ζe|apply ζc)) hb)
    clear HOn6
    have HOn6:=m_
    clear m_
    have m_:=ζa (blk_below (by repeat (first|exact BKt.out|apply δo|apply δp|apply δn)) hb)
    clear BKt
    have BKt:=m_
    clear m_
    clear hzt_0 hft_0 hzt_1 hft_1 hzt_2 hft_2 hzt_3 hft_3
    have m_:=ζa (δr (by repeat (first|exact HB6.out|apply δk|apply δj|apply δi)) hb)
    clear hb
    have HB8:=m_
    clear m_
    have hzt_0:=(δl BKt.out 0).trans rfl
    have hft_0:=δm BKt.out 0
    have hzt_1:=(δl BKt.out 1).trans rfl
    have hft_1:=δm BKt.out 1
    have hzt_2:=(δl BKt.out 2).trans rfl
    have hft_2:=δm BKt.out 2
    have hzt_3:=(δl BKt.out 3).trans rfl
    have hft_3:=δm BKt.out 3
    have h:=HH.out
    clear HH
    simp only [Option.some.injEq,Prod.mk.injEq] at h
    obtain ⟨rfl,rfl,rfl⟩:=h
    go_wp2
    go_ret3
    exact ⟨_,rfl,(by repeat (first|exact HOn6.out|apply ζd|apply ζe|apply ζc)),(by repeat (first|exact HB8.out|apply δk|apply δj|apply δi))⟩
   ·
    rw [if_neg cc7] at h
    have HH:=ζa h
    clear h
    have f7a:(c1 == 0)=φ:=beq_eq_false_iff_ne.mpr cc7
    have f7b:(c1 != 0)=τ:=bne_iff_ne.mpr cc7
    have C7:=ζa cc7
    clear cc7
    have h:=HH.out
    clear HH
    simp only [Option.some.injEq,Prod.mk.injEq] at h
    obtain ⟨rfl,rfl,rfl⟩:=h
    go_wp2
    go_ret3
    exact ⟨_,rfl,(by repeat (first|exact HOn6.out|apply ζd|apply ζe|apply ζc)),(by repeat (first|exact HB6.out|apply δk|apply δj|apply δi))⟩
  ·
   rw [if_neg cc5] at h
   have HH:=ζa h
   clear h
   have f5a:(t_0.toList == name.toList)=φ:=beq_eq_false_iff_ne.mpr cc5
   have f5b:(t_0.toList != name.toList)=τ:=bne_iff_ne.mpr cc5
   have C5:=ζa cc5
   clear cc5
   have h:=HH.out
   clear HH
   obtain ⟨x1,h9_,h⟩:=Option.bind_eq_some_iff.mp h
   have HH:=ζa h
   have H9:=ζa h9_
   clear h h9_
   go_wp2_with fail
   refine (impl_otherName.calls name x1 _ H9.out).mono ?_
   rintro e w9 ⟨rfl,hd⟩
   have hb:=hd.below
   clear hd
   have m_:=ζa (blk_below (by repeat (first|exact BKt.out|apply δo|apply δp|apply δn)) hb)
   clear BKt
   have BKt:=m_
   clear m_
   have m_:=ζa (CH_m.out.below (δr (by repeat (first|exact Below.refl _ _|apply δk|apply δj|apply δi)) hb))
   clear CH_m
   have CH_m:=m_
   clear m_
   clear hzt_0 hft_0 hzt_1 hft_1 hzt_2 hft_2 hzt_3 hft_3
   have m_:=ζa (δr (by repeat (first|exact HB4.out|apply δk|apply δj|apply δi)) hb)
   clear hb
   have HB9:=m_
   clear m_
   have hzt_0:=(δl BKt.out 0).trans rfl
   have hft_0:=δm BKt.out 0
   have hzt_1:=(δl BKt.out 1).trans rfl
   have hft_1:=δm BKt.out 1
   have hzt_2:=(δl BKt.out 2).trans rfl
   have hft_2:=δm BKt.out 2
   have hzt_3:=(δl BKt.out 3).trans rfl
   have hft_3:=δm BKt.out 3
   have h:=HH.out
   clear HH
   obtain ⟨v1,h10_,h⟩:=Option.bind_eq_some_iff.mp h
   have HH:=ζa h
   have H10:=ζa h10_
   clear h h10_
   go_wp2_with fail
   refine (impl_voucherOf.calls x1 v1 _ H10.out).mono ?_
   rintro e w10 ⟨rfl,hd⟩
   have hb:=hd.below
   clear hd
   have m_:=ζa (blk_below (by repeat (first|exact BKt.out|apply δo|apply δp|apply δn)) hb)
   clear BKt
   have BKt:=m_
   clear m_
   have m_:=ζa (CH_m.out.below (δr (by repeat (first|exact Below.refl _ _|apply δk|apply δj|apply δi)) hb))
   clear CH_m
   have CH_m:=m_
   clear m_
   clear hzt_0 hft_0 hzt_1 hft_1 hzt_2 hft_2 hzt_3 hft_3
   have m_:=ζa (δr (by repeat (first|exact HB9.out|apply δk|apply δj|apply δi)) hb)
   clear hb
   have HB10:=m_
   clear m_
   have hzt_0:=(δl BKt.out 0).trans rfl
   have hft_0:=δm BKt.out 0
   have hzt_1:=(δl BKt.out 1).trans rfl
   have hft_1:=δm BKt.out 1
   have hzt_2:=(δl BKt.out 2).trans rfl
   have hft_2:=δm BKt.out 2
   have hzt_3:=(δl BKt.out 3).trans rfl
   have hft_3:=δm BKt.out 3
   have h:=HH.out
   clear HH
   by_cases cc11:t_0.toList=v1.toList
   ·
    rw [if_pos cc11] at h
    have HH:=ζa h
    clear h
    have f11a:(t_0.toList == v1.toList)=τ:=beq_iff_eq.mpr cc11
    have f11b:(t_0.toList != v1.toList)=φ:=bne_eq_false_iff_eq.mpr cc11
    have C11:=ζa cc11
    clear cc11
    go_wp2_with fail
    refine (impl_burn.calls k t_2 t_0 t_1 _ (HT0.out.below (by repeat (first|exact HB10.out|apply δk|apply δj|apply δi)))).mono ?_
    rintro e w12 ⟨g_b,lb_b,rfl,hch,hb⟩
    have m_:=ζa (blk_below (by repeat (first|exact BKt.out|apply δo|apply δp|apply δn)) hb)
    clear BKt
    have BKt:=m_
    clear m_
    have m_:=ζa (CH_m.out.below (δr (by repeat (first|exact Below.refl _ _|apply δk|apply δj|apply δi)) hb))
    clear CH_m
    have CH_m:=m_
    clear m_
    clear hzt_0 hft_0 hzt_1 hft_1 hzt_2 hft_2 hzt_3 hft_3
    have m_:=ζa (δr (by repeat (first|exact HB10.out|apply δk|apply δj|apply δi)) hb)
    clear hb
    have HB12:=m_
    clear m_
    have CH_b:=ζa hch
    have eg_b : ∀ args w,(callFunc g_b args).run Tryz.prog w = .ok (.enter g_b args) w:=hch.enters
    clear hch
    have hzt_0:=(δl BKt.out 0).trans rfl
    have hft_0:=δm BKt.out 0
    have hzt_1:=(δl BKt.out 1).trans rfl
    have hft_1:=δm BKt.out 1
    have hzt_2:=(δl BKt.out 2).trans rfl
    have hft_2:=δm BKt.out 2
    have hzt_3:=(δl BKt.out 3).trans rfl
    have hft_3:=δm BKt.out 3
    have h:=HH.out
    clear HH
    obtain ⟨⟨o1,c1⟩,h13_,h⟩:=Option.bind_eq_some_iff.mp h
    have HH:=ζa h
    have H13:=ζa h13_
    clear h h13_
    go_wp2_with fail
    refine (CH_b.out.calls _ A_list c_list list o1 c1 (by repeat (first|exact Below.refl _ _|apply δk|apply δj|apply δi)) (by repeat (first|exact Kd.C_below HR0_list.out HB12.out|apply Kd.C_alloc|apply Kd.C_drew|apply Kd.C_drewN)) HC0_list.out H13.out).mono ?_
    rintro e w13 ⟨v13,rfl,ho,hb⟩
    have m_:=ζa (blk_below (by repeat (first|exact BKt.out|apply δo|apply δp|apply δn)) hb)
    clear BKt
    have BKt:=m_
    clear m_
    have m_:=ζa (CH_m.out.below (δr (by repeat (first|exact Below.refl _ _|apply δk|apply δj|apply δi)) hb))
    clear CH_m
    have CH_m:=m_
    clear m_
    clear hzt_0 hft_0 hzt_1 hft_1 hzt_2 hft_2 hzt_3 hft_3
    have ho':=Kd.R_lower ho (Below.size (show Below w.heap.size w _ from by repeat (first|exact HB12.out|apply δk|apply δj|apply δi)))
    obtain ⟨adr13,cap13,rfl,hl13,hq13⟩:=Kd.R_reads ho'
    have HC13:=ζa hl13
    have HRn13:=ζa hq13
    have HOn13:=ζa ho'
    clear hl13 hq13 ho ho'
    have m_:=ζa (δr (by repeat (first|exact HB12.out|apply δk|apply δj|apply δi)) hb)
    clear hb
    have HB13:=m_
    clear m_
    have hzt_0:=(δl BKt.out 0).trans rfl
    have hft_0:=δm BKt.out 0
    have hzt_1:=(δl BKt.out 1).trans rfl
    have hft_1:=δm BKt.out 1
    have hzt_2:=(δl BKt.out 2).trans rfl
    have hft_2:=δm BKt.out 2
    have hzt_3:=(δl BKt.out 3).trans rfl
    have hft_3:=δm BKt.out 3
    have h:=HH.out
    clear HH
    by_cases cc14:c1=0
    ·
     rw [if_pos cc14] at h
     have HH:=ζa h
     clear h
     have f14a:(c1 == 0)=τ:=beq_iff_eq.mpr cc14
     have f14b:(c1 != 0)=φ:=bne_eq_false_iff_eq.mpr cc14
     have C14:=ζa cc14
     clear cc14
     have h:=HH.out
     clear HH
     obtain ⟨d1,h15_,h⟩:=Option.bind_eq_some_iff.mp h
     have HH:=ζa h
     have H15:=ζa h15_
     clear h h15_
     go_wp2_with fail
     refine (impl_transfer_data.calls k t_0 t_1 t_2 t_3 d1 _ (HT0.out.below (by repeat (first|exact HB13.out|apply δk|apply δj|apply δi))) H15.out).mono ?_
     rintro e w15 ⟨rfl,hb⟩
     have m_:=ζa (Kd.C_below (by repeat (first|exact HRn13.out|apply Kd.C_alloc|apply Kd.C_drew|apply Kd.C_drewN)) hb)
     clear HRn13
     have HRn13:=m_
     clear m_
     have m_:=ζa (ζh (by repeat (first|exact HOn13.out|apply ζd|apply ζe|apply ζc)) hb)
     clear HOn13
     have HOn13:=m_
     clear m_
     have m_:=ζa (blk_below (by repeat (first|exact BKt.out|apply δo|apply δp|apply δn)) hb)
     clear BKt
     have BKt:=m_
     clear m_
     have m_:=ζa (CH_m.out.below (δr (by repeat (first|exact Below.refl _ _|apply δk|apply δj|apply δi)) hb))
     clear CH_m
     have CH_m:=m_
     clear m_
     clear hzt_0 hft_0 hzt_1 hft_1 hzt_2 hft_2 hzt_3 hft_3
     have m_:=ζa (δr (by repeat (first|exact HB13.out|apply δk|apply δj|apply δi)) hb)
     clear hb
     have HB15:=m_
     clear m_
     have hzt_0:=(δl BKt.out 0).trans rfl
     have hft_0:=δm BKt.out 0
     have hzt_1:=(δl BKt.out 1).trans rfl
     have hft_1:=δm BKt.out 1
     have hzt_2:=(δl BKt.out 2).trans rfl
     have hft_2:=δm BKt.out 2
     have hzt_3:=(δl BKt.out 3).trans rfl
     have hft_3:=δm BKt.out 3
     have h:=HH.out
     clear HH
     simp only [Option.some.injEq,Prod.mk.injEq] at h
     obtain ⟨rfl,rfl,rfl⟩:=h
     go_wp2
     go_ret3
     exact ⟨_,rfl,(by repeat (first|exact HOn13.out|apply ζd|apply ζe|apply ζc)),(by repeat (first|exact HB15.out|apply δk|apply δj|apply δi))⟩
    ·
     rw [if_neg cc14] at h
     have HH:=ζa h
     clear h
     have f14a:(c1 == 0)=φ:=beq_eq_false_iff_ne.mpr cc14
     have f14b:(c1 != 0)=τ:=bne_iff_ne.mpr cc14
     have C14:=ζa cc14
     clear cc14
     have h:=HH.out
     clear HH
     simp only [Option.some.injEq,Prod.mk.injEq] at h
     obtain ⟨rfl,rfl,rfl⟩:=h
     go_wp2
     go_ret3
     exact ⟨_,rfl,(by repeat (first|exact HOn13.out|apply ζd|apply ζe|apply ζc)),(by repeat (first|exact HB13.out|apply δk|apply δj|apply δi))⟩
   ·
    rw [if_neg cc11] at h
    have HH:=ζa h
    clear h
    have f11a:(t_0.toList == v1.toList)=φ:=beq_eq_false_iff_ne.mpr cc11
    have f11b:(t_0.toList != v1.toList)=τ:=bne_iff_ne.mpr cc11
    have C11:=ζa cc11
    clear cc11
    have h:=HH.out
    clear HH
    obtain ⟨o2,h16_,h⟩:=Option.bind_eq_some_iff.mp h
    have HH:=ζa h
    have H16:=ζa h16_
    clear h h16_
    go_wp2_with fail
    refine (slices_Clone_impl_Pair_impl_Pair.calls A_list c_list list o2 _ (by repeat (first|exact Kd.C_below HR0_list.out HB10.out|apply Kd.C_alloc|apply Kd.C_drew|apply Kd.C_drewN)) HC0_list.out H16.out).mono ?_
    rintro e w16 ⟨v16,rfl,ho,hb⟩
    have m_:=ζa (blk_below (by repeat (first|exact BKt.out|apply δo|apply δp|apply δn)) hb)
    clear BKt
    have BKt:=m_
    clear m_
    have m_:=ζa (CH_m.out.below (δr (by repeat (first|exact Below.refl _ _|apply δk|apply δj|apply δi)) hb))
    clear CH_m
    have CH_m:=m_
    clear m_
    clear hzt_0 hft_0 hzt_1 hft_1 hzt_2 hft_2 hzt_3 hft_3
    have ho':=Kd.R_lower ho (Below.size (show Below w.heap.size w _ from by repeat (first|exact HB10.out|apply δk|apply δj|apply δi)))
    obtain ⟨adr16,cap16,rfl,hl16,hq16⟩:=Kd.R_reads ho'
    have HC16:=ζa hl16
    have HRn16:=ζa hq16
    have HOn16:=ζa ho'
    clear hl16 hq16 ho ho'
    have m_:=ζa (δr (by repeat (first|exact HB10.out|apply δk|apply δj|apply δi)) hb)
    clear hb
    have HB16:=m_
    clear m_
    have hzt_0:=(δl BKt.out 0).trans rfl
    have hft_0:=δm BKt.out 0
    have hzt_1:=(δl BKt.out 1).trans rfl
    have hft_1:=δm BKt.out 1
    have hzt_2:=(δl BKt.out 2).trans rfl
    have hft_2:=δm BKt.out 2
    have hzt_3:=(δl BKt.out 3).trans rfl
    have hft_3:=δm BKt.out 3
    have h:=HH.out
    clear HH
    simp only [Option.some.injEq,Prod.mk.injEq] at h
    obtain ⟨rfl,rfl,rfl⟩:=h
    go_wp2
    go_ret3
    exact ⟨_,rfl,(by repeat (first|exact HOn16.out|apply ζd|apply ζe|apply ζc)),(by repeat (first|exact HB16.out|apply δk|apply δj|apply δi))⟩
 | false =>
  rw [if_neg (by decide)] at h
  have HH:=ζa h
  clear h
  have h:=HH.out
  clear HH
  obtain ⟨o2,h17_,h⟩:=Option.bind_eq_some_iff.mp h
  have HH:=ζa h
  have H17:=ζa h17_
  clear h h17_
  go_wp2_with fail
  refine (slices_Clone_impl_Pair_impl_Pair.calls A_list c_list list o2 _ (by repeat (first|exact Kd.C_below HR0_list.out HB2.out|apply Kd.C_alloc|apply Kd.C_drew|apply Kd.C_drewN)) HC0_list.out H17.out).mono ?_
  rintro e w17 ⟨v17,rfl,ho,hb⟩
  have m_:=ζa (blk_below (by repeat (first|exact BKt.out|apply δo|apply δp|apply δn)) hb)
  clear BKt
  have BKt:=m_
  clear m_
  clear hzt_0 hft_0 hzt_1 hft_1 hzt_2 hft_2 hzt_3 hft_3
  have ho':=Kd.R_lower ho (Below.size (show Below w.heap.size w _ from by repeat (first|exact HB2.out|apply δk|apply δj|apply δi)))
  obtain ⟨adr17,cap17,rfl,hl17,hq17⟩:=Kd.R_reads ho'
  have HC17:=ζa hl17
  have HRn17:=ζa hq17
  have HOn17:=ζa ho'
  clear hl17 hq17 ho ho'
  have m_:=ζa (δr (by repeat (first|exact HB2.out|apply δk|apply δj|apply δi)) hb)
  clear hb
  have HB17:=m_
  clear m_
  have hzt_0:=(δl BKt.out 0).trans rfl
  have hft_0:=δm BKt.out 0
  have hzt_1:=(δl BKt.out 1).trans rfl
  have hft_1:=δm BKt.out 1
  have hzt_2:=(δl BKt.out 2).trans rfl
  have hft_2:=δm BKt.out 2
  have hzt_3:=(δl BKt.out 3).trans rfl
  have hft_3:=δm BKt.out 3
  have h:=HH.out
  clear HH
  simp only [Option.some.injEq,Prod.mk.injEq] at h
  obtain ⟨rfl,rfl,rfl⟩:=h
  go_wp2
  go_ret3
  exact ⟨_,rfl,(by repeat (first|exact HOn17.out|apply ζd|apply ζe|apply ζc)),(by repeat (first|exact HB17.out|apply δk|apply δj|apply δi))⟩


open Go.Proofs.YtabmfhnhmoiljaaGreatDoorW.PrintWords renaming gate_dst → δx, below_size → δs, below_alloc → δk, pw_below_drewN → δi, below_drew1 → δj, below_step → δr, gate_callee → δv
open List renaming map_toArray → δd, map_cons → δe, map_nil → δf, length_drop → δg, length_take → δh

/-! ### impl_SendCoins: function 24 -/
def impl_SendCoins.f (k:Nat) (a0:ByteArray) (l1:List (S51)) (a2:ByteArray) (a3:Int) (a4:ByteArray) (a5:ByteArray):Option ((List (S51)) × ByteArray × Int):=(impl_nameCode.f k a0 l1 (([a2,a4,a5]:List ByteArray))).bind fun t447=>(if t447=0 then ((impl_sendCoins.f k a0 l1 a2 a3 a4 a5).bind fun bt448=>(some (bt448.1,bt448.2.1,bt448.2.2))) else (some (([]:List (S51)),(⟨#[]⟩:ByteArray),t447)))
set_option maxHeartbeats 8000000 in
set_option maxRecDepth 100000 in
theorem impl_SendCoins.calls (k:Nat) (a0:ByteArray) (A1:Option Addr) (c1:Nat) (l1:List (S51)) (a2:ByteArray) (a3:Int) (a4:ByteArray) (a5:ByteArray) (r1:List (S51)) (r2:ByteArray) (r3:Int) (w:World) (hr1:Kd.C k51 w A1 l1.length l1) (hc1:l1.length≤c1) (hT0:TabsOK w) (h:impl_SendCoins.f k a0 l1 a2 a3 a4 a5=some (r1,r2,r3)) :
  Calls Tryz.prog 24 #[.string a0,.slice A1 l1.length c1,.string a2,.int .i64 a3,.string a4,.string a5] w fun e w' => ∃ v0_:Value,e = .returned (.tuple #[v0_,.string r2,.int .i64 r3])∧Kd.R k51 51 w' w.heap.size (fun _=>True) v0_ r1∧Below w.heap.size w w':=by
 have HT0:=ζa hT0
 clear hT0
 have hu61:=Tryz.underlying61
 have HR1:=ζa hr1
 have HC1:=ζa hc1
 clear hr1 hc1
 have HB:=ζa (Below.refl w.heap.size w)
 have H:((impl_nameCode.f k a0 l1 (([a2,a4,a5]:List ByteArray))).bind fun t447=>(if t447=0 then ((impl_sendCoins.f k a0 l1 a2 a3 a4 a5).bind fun bt448=>(some (bt448.1,bt448.2.1,bt448.2.2))) else (some (([]:List (S51)),(⟨#[]⟩:ByteArray),t447))))=some (r1,r2,r3):=h
 clear h
 obtain ⟨y444,hy444⟩ : ∃ y_:List ByteArray,y_=(([a2,a4,a5]:List ByteArray)):=⟨_,rfl⟩
 replace H:((impl_nameCode.f k a0 l1 y444).bind fun t447=>(if t447=0 then ((impl_sendCoins.f k a0 l1 a2 a3 a4 a5).bind fun bt448=>(some (bt448.1,bt448.2.1,bt448.2.2))) else (some (([]:List (S51)),(⟨#[]⟩:ByteArray),t447))))=some (r1,r2,r3):=by first|(rw [hy444];with_reducible exact H)|(have H2_:=(Option.bind_some _ _).symm.trans H;rw [hy444];with_reducible exact H2_)|(have H2_:=(Option.bind_some _ _).symm.trans H;with_reducible exact H2_)|with_reducible exact H|(rw [hy444];exact H)|exact H
 have Ny444:=ζa hy444
 clear hy444
 replace H:=Option.bind_eq_some_iff.mp H
 obtain ⟨t447,A70,H⟩:=H
 replace H:(if t447=0 then ((impl_sendCoins.f k a0 l1 a2 a3 a4 a5).bind fun bt448=>(some (bt448.1,bt448.2.1,bt448.2.2))) else (some (([]:List (S51)),(⟨#[]⟩:ByteArray),t447)))=some (r1,r2,r3):=H
 have A7:=ζa A70
 clear A70
 by_cases c8:t447=0
 ·
  rw [if_pos c8] at H
  have c8b0:(t447 == 0)=τ:=beq_iff_eq.mpr c8
  have c8b1:(t447 != 0)=φ:=bne_eq_false_iff_eq.mpr c8
  clear c8
  replace H:=Option.bind_eq_some_iff.mp H
  obtain ⟨⟨t448,t451,t452⟩,A90,H⟩:=H
  replace H:(some (t448,t451,t452))=some (r1,r2,r3):=H
  have A9:=ζa A90
  clear A90
  simp only [Option.some.injEq,Prod.mk.injEq] at H
  obtain ⟨rfl,rfl,rfl⟩:=H
  go_enter Tryz.func24,Tryz.ntmps24
  go_wp2_with (first|((with_reducible refine δx (N:=21) rfl ?_);refine Kd.R_lit Kd.string _ 9 ?hg (N:=21) ?hd (xs:=([a2,a4,a5]:List ByteArray)) (inner:=[.string a2,.string a4,.string a5]) (ok:=fun _=>True) (okp:=fun _=>True) ?hr ?hp (fun _ hk=>hk) trivial (Below.refl _ _) (Nat.le_refl _) (by simp) ?_;(case hd=>rfl);(case hg=>rfl);(case hr=>first|(go_simp;done)|(go_simp;rfl));(case hp=>exact (Reps.one (show Kd.M Kd.string _ _ _ a2 [.string a2] from rfl) (Reps.one (show Kd.M Kd.string _ _ _ a4 [.string a4] from rfl) (Reps.one (show Kd.M Kd.string _ _ _ a5 [.string a5] from rfl) (Reps.none _ _)))));intro v445 w10 ho11 hb hg_ hnew_;clear hg_ hnew_;(first|rw [← Ny444.out] at ho11|(simp only [Int.reduceToNat] at ho11;rw [← Ny444.out] at ho11));have n0_:=ζa (Kd.R_lower ho11 (δs (by repeat (first|(with_reducible first|exact HB.out|apply δk|apply δi|apply δj)|exact HB.out))));have n1_:=ζa (δr (by repeat (first|(with_reducible first|exact HB.out|apply δk|apply δi|apply δj)|exact HB.out)) hb);clear HB;have HO446:=n0_;have HB:=n1_;clear n0_ n1_;clear hb ho11;obtain ⟨Ao12,co12,eo12⟩:=Kd.R_slice HO446.out;subst eo12)|((with_reducible refine δv (f:=45) rfl ?_);refine goesL_ (some 22) rfl rfl Tryz.func45 (by kernel_rfl) rfl #[.string a0,.slice A1 l1.length c1,.slice Ao12 y444.length co12] rfl (by (try simp only [δd,δe,δf]);first|done|rfl|(simp only [δg,δh];rfl)) ?_;(with_reducible refine (impl_nameCode.calls k a0 _ _ l1 _ _ y444 t447 _ ?side1 ?side2 ?side3 ?side4 A7.out).mono ?_);(case side1=>repeat (first|exact (Kd.C_below HR1.out HB.out)|(with_reducible refine Kd.C_alloc ?_ _)|(with_reducible refine Kd.C_drewN ?_ _)|(with_reducible refine Kd.C_drew ?_)));(case side2=>exact HC1.out);(case side3=>repeat (first|exact (ζg HO446.out).2.2|(with_reducible refine Kd.C_alloc ?_ _)|(with_reducible refine Kd.C_drewN ?_ _)|(with_reducible refine Kd.C_drew ?_)));(case side4=>exact (ζg HO446.out).2.1);rintro e w13 ⟨rfl,hb⟩;refine ⟨_,rfl,?_⟩;have n0_:=ζa (ζh (by (with_reducible repeat (first|apply ζd|apply ζc|apply ζe));exact HO446.out) hb);have n1_:=ζa (δr (by repeat (first|(with_reducible first|exact HB.out|apply δk|apply δi|apply δj)|exact HB.out)) hb);clear HO446;clear HB;have HO446:=n0_;have HB:=n1_;clear n0_ n1_;(try clear hb);(try clear hb2);(try clear hk);(try clear hi))|((with_reducible refine δv (f:=52) rfl ?_);refine goesL_ (some 33) rfl rfl Tryz.func52 (by kernel_rfl) rfl #[.string a0,.slice A1 l1.length c1,.agg #[.string a2,.int .i64 a3,.string a4,.string a5]] rfl (by (try simp only [δd,δe,δf]);first|done|rfl|(simp only [δg,δh];rfl)) ?_;(with_reducible refine (impl_sendCoins.calls k a0 _ _ l1 a2 a3 a4 a5 t448 t451 t452 _ ?side1 ?side2 (HT0.out.below (by repeat (first|(with_reducible first|exact HB.out|apply δk|apply δi|apply δj)|exact HB.out))) A9.out).mono ?_);(case side1=>repeat (first|exact (Kd.C_below HR1.out HB.out)|(with_reducible refine Kd.C_alloc ?_ _)|(with_reducible refine Kd.C_drewN ?_ _)|(with_reducible refine Kd.C_drew ?_)));(case side2=>exact HC1.out);rintro e w14 ⟨v449,rfl,ho0,hb⟩;refine ⟨_,rfl,?_⟩;have n0_:=ζa (ζh (by (with_reducible repeat (first|apply ζd|apply ζc|apply ζe));exact HO446.out) hb);have n1_:=ζa (Kd.R_lower ho0 (δs (by repeat (first|(with_reducible first|exact HB.out|apply δk|apply δi|apply δj)|exact HB.out))));have n2_:=ζa (δr (by repeat (first|(with_reducible first|exact HB.out|apply δk|apply δi|apply δj)|exact HB.out)) hb);clear HO446;clear HB;have HO446:=n0_;have HO450:=n1_;have HB:=n2_;clear n0_ n1_ n2_;(try clear hb);(try clear hb2);(try clear hk);(try clear hi);(try clear ho0)))
  go_ret3
  exact ⟨_,by first|rfl|(simp [errW_none,errW_some] <;> rfl)|(simp [*,errW_none,errW_some] <;> rfl),by (with_reducible repeat (first|apply ζd|apply ζc|apply ζe));exact HO450.out,by repeat (first|(with_reducible first|exact HB.out|apply δk|apply δi|apply δj)|exact HB.out)⟩
 ·
  rw [if_neg c8] at H
  have c8b0:(t447 == 0)=φ:=beq_eq_false_iff_ne.mpr c8
  have c8b1:(t447 != 0)=τ:=bne_iff_ne.mpr c8
  simp only [Option.some.injEq,Prod.mk.injEq] at H
  obtain ⟨rfl,rfl,rfl⟩:=H
  go_enter Tryz.func24,Tryz.ntmps24
  go_wp2_with (first|((with_reducible refine δx (N:=21) rfl ?_);refine Kd.R_lit Kd.string _ 9 ?hg (N:=21) ?hd (xs:=([a2,a4,a5]:List ByteArray)) (inner:=[.string a2,.string a4,.string a5]) (ok:=fun _=>True) (okp:=fun _=>True) ?hr ?hp (fun _ hk=>hk) trivial (Below.refl _ _) (Nat.le_refl _) (by simp) ?_;(case hd=>rfl);(case hg=>rfl);(case hr=>first|(go_simp;done)|(go_simp;rfl));(case hp=>exact (Reps.one (show Kd.M Kd.string _ _ _ a2 [.string a2] from rfl) (Reps.one (show Kd.M Kd.string _ _ _ a4 [.string a4] from rfl) (Reps.one (show Kd.M Kd.string _ _ _ a5 [.string a5] from rfl) (Reps.none _ _)))));intro v445 w15 ho16 hb hg_ hnew_;clear hg_ hnew_;(first|rw [← Ny444.out] at ho16|(simp only [Int.reduceToNat] at ho16;rw [← Ny444.out] at ho16));have n0_:=ζa (Kd.R_lower ho16 (δs (by repeat (first|(with_reducible first|exact HB.out|apply δk|apply δi|apply δj)|exact HB.out))));have n1_:=ζa (δr (by repeat (first|(with_reducible first|exact HB.out|apply δk|apply δi|apply δj)|exact HB.out)) hb);clear HB;have HO446:=n0_;have HB:=n1_;clear n0_ n1_;clear hb ho16;obtain ⟨Ao17,co17,eo17⟩:=Kd.R_slice HO446.out;subst eo17)|((with_reducible refine δv (f:=45) rfl ?_);refine goesL_ (some 22) rfl rfl Tryz.func45 (by kernel_rfl) rfl #[.string a0,.slice A1 l1.length c1,.slice Ao17 y444.length co17] rfl (by (try simp only [δd,δe,δf]);first|done|rfl|(simp only [δg,δh];rfl)) ?_;(with_reducible refine (impl_nameCode.calls k a0 _ _ l1 _ _ y444 t447 _ ?side1 ?side2 ?side3 ?side4 A7.out).mono ?_);(case side1=>repeat (first|exact (Kd.C_below HR1.out HB.out)|(with_reducible refine Kd.C_alloc ?_ _)|(with_reducible refine Kd.C_drewN ?_ _)|(with_reducible refine Kd.C_drew ?_)));(case side2=>exact HC1.out);(case side3=>repeat (first|exact (ζg HO446.out).2.2|(with_reducible refine Kd.C_alloc ?_ _)|(with_reducible refine Kd.C_drewN ?_ _)|(with_reducible refine Kd.C_drew ?_)));(case side4=>exact (ζg HO446.out).2.1);rintro e w18 ⟨rfl,hb⟩;refine ⟨_,rfl,?_⟩;have n0_:=ζa (ζh (by (with_reducible repeat (first|apply ζd|apply ζc|apply ζe));exact HO446.out) hb);have n1_:=ζa (δr (by repeat (first|(with_reducible first|exact HB.out|apply δk|apply δi|apply δj)|exact HB.out)) hb);clear HO446;clear HB;have HO446:=n0_;have HB:=n1_;clear n0_ n1_;(try clear hb);(try clear hb2);(try clear hk);(try clear hi)))
  go_ret3
  exact ⟨_,by first|rfl|(simp [errW_none,errW_some] <;> rfl)|(simp [*,errW_none,errW_some] <;> rfl),by first|exact Kd.R_nil _ _ _ _ _|exact Kd.N_nil _ _ _ _ _|exact Kd.V_nil _ _ _ _ _|exact Kd.Q_nil _ _ _ _ _|exact Kd.S_nil _ _ _ _ _,by repeat (first|(with_reducible first|exact HB.out|apply δk|apply δi|apply δj)|exact HB.out)⟩


open Go.Proofs.YtabmfhnhmoiljaaGreatDoorW.PrintWords renaming below_alloc → δk, pw_below_drewN → δi, below_drew1 → δj, gate_callee → δv, below_step → δr, below_size → δs
open List renaming map_toArray → δd, map_cons → δe, map_nil → δf, length_drop → δg, length_take → δh, setIfInBounds_toArray → δa, set_cons_zero → δb, set_cons_succ → δc
open Go.Proofs.YtabmfhnhmoiljaaGreatDoorW.PrintWords.Kd renaming R_reads' → ζg, R_alloc → ζd, R_drewN → ζc, R_drew → ζe, R_below → ζh

/-! ### laws_FnExactSendCoins: function 5 -/
mutual
def laws_FnExactSendCoins.j0:Nat→ByteArray→List (S49)→ByteArray→Int→ByteArray→ByteArray→List (S51)→ByteArray→Int→List (S51)→List (S51)→ByteArray→Int→Bool→Option (Bool)
 | 0,_,_,_,_,_,_,_,_,_,_,_,_,_,_=>none
 | k+1,x0,x1,x2,x3,x4,x5,x14,x15,x16,x17,x18,x19,x20,x82=>if x82=τ then (some φ) else ((laws_toPairS.f k x1).bind fun t471=>((laws_eqPairS.f k x17 t471).bind fun t474=>(if t474=τ then ((laws_markPairS.f k x17 1).bind fun bt475=>(if bt475.1<0 then (laws_FnExactSendCoins.j1 k x0 x1 x2 x3 x4 x5 x14 x15 x16 x18 τ) else ((laws_eqPairS.f k x18 x14).bind fun t477=>(if t477=τ then (if x19.toList=x15.toList then (laws_FnExactSendCoins.j1 k x0 x1 x2 x3 x4 x5 x14 x15 x16 x18 (x20 != x16)) else (laws_FnExactSendCoins.j1 k x0 x1 x2 x3 x4 x5 x14 x15 x16 x18 τ)) else (laws_FnExactSendCoins.j1 k x0 x1 x2 x3 x4 x5 x14 x15 x16 x18 τ))))) else (some φ))))
def laws_FnExactSendCoins.j1:Nat→ByteArray→List (S49)→ByteArray→Int→ByteArray→ByteArray→List (S51)→ByteArray→Int→List (S51)→Bool→Option (Bool)
 | 0,_,_,_,_,_,_,_,_,_,_,_=>none
 | k+1,x0,x1,x2,x3,x4,x5,x14,x15,x16,x18,x108=>if x108=τ then (some φ) else ((laws_markPairS.f k x18 1).bind fun bt478=>((laws_heldPairS.f k bt478.2 1).bind fun t480=>(if t480<0 then (some φ) else (if t480=bt478.1 then ((laws_toPairS.f k x1).bind fun t481=>((impl_SendCoins.f k x0 t481 x2 x3 x4 x5).bind fun bt484=>((laws_eqPairS.f k bt484.1 x14).bind fun t489=>(if t489=τ then (if bt484.2.1.toList=x15.toList then (laws_FnExactSendCoins.j2 k bt478.2 bt478.1 (bt484.2.2 != x16)) else (laws_FnExactSendCoins.j2 k bt478.2 bt478.1 τ)) else (laws_FnExactSendCoins.j2 k bt478.2 bt478.1 τ))))) else (some φ)))))
def laws_FnExactSendCoins.j2:Nat→List (S51)→Int→Bool→Option (Bool)
 | 0,_,_,_=>none
 | k+1,x18,x22,x145=>if x145=τ then (some φ) else ((laws_heldPairS.f k x18 1).bind fun t490=>(if t490<0 then (some φ) else (if t490=x22 then (some τ) else (some φ))))
end
def laws_FnExactSendCoins.f (k:Nat) (a0:ByteArray) (l1:List (S49)) (a2:ByteArray) (a3:Int) (a4:ByteArray) (a5:ByteArray):Option (Bool):=if (a0.size:Int) > 1048576 then (some τ) else (if (a2.size:Int) > 1048576 then (some τ) else (if (a4.size:Int) > 1048576 then (some τ) else (if (a5.size:Int) > 1048576 then (some τ) else ((laws_szPairS.f k l1 1048576).bind fun t453=>(if t453<0 then (some τ) else ((laws_toPairS.f k l1).bind fun t454=>((spec_SendCoins.f k a0 t454 a2 a3 a4 a5).bind fun bt457=>((laws_toPairS.f k l1).bind fun t462=>((impl_SendCoins.f k a0 t462 a2 a3 a4 a5).bind fun bt465=>((laws_eqPairS.f k bt465.1 bt457.1).bind fun t470=>(if t470=τ then (if bt465.2.1.toList=bt457.2.1.toList then (laws_FnExactSendCoins.j0 k a0 l1 a2 a3 a4 a5 bt457.1 bt457.2.1 bt457.2.2 t462 bt465.1 bt465.2.1 bt465.2.2 (bt465.2.2 != bt457.2.2)) else (laws_FnExactSendCoins.j0 k a0 l1 a2 a3 a4 a5 bt457.1 bt457.2.1 bt457.2.2 t462 bt465.1 bt465.2.1 bt465.2.2 τ)) else (laws_FnExactSendCoins.j0 k a0 l1 a2 a3 a4 a5 bt457.1 bt457.2.1 bt457.2.2 t462 bt465.1 bt465.2.1 bt465.2.2 τ))))))))))))
set_option maxHeartbeats 8000000 in
set_option maxRecDepth 100000 in
theorem laws_FnExactSendCoins.calls (k:Nat) (a0:ByteArray) (A1:Option Addr) (c1:Nat) (l1:List (S49)) (a2:ByteArray) (a3:Int) (a4:ByteArray) (a5:ByteArray) (r:Bool) (w:World) (hr1:Kd.C k49 w A1 l1.length l1) (hc1:l1.length≤c1) (hT0:TabsOK w) (h:laws_FnExactSendCoins.f k a0 l1 a2 a3 a4 a5=some r) :
  Calls Tryz.prog 5 #[.string a0,.slice A1 l1.length c1,.string a2,.int .i64 a3,.string a4,.string a5] w fun e w'=>e = .returned (.bool r)∧Below w.heap.size w w':=by
 have HT0:=ζa hT0
 clear hT0
 have HR1:=ζa hr1
 have HC1:=ζa hc1
 clear hr1 hc1
 have HB:=ζa (Below.refl w.heap.size w)
 have H:(if (a0.size:Int) > 1048576 then (some τ) else (if (a2.size:Int) > 1048576 then (some τ) else (if (a4.size:Int) > 1048576 then (some τ) else (if (a5.size:Int) > 1048576 then (some τ) else ((laws_szPairS.f k l1 1048576).bind fun t453=>(if t453<0 then (some τ) else ((laws_toPairS.f k l1).bind fun t454=>((spec_SendCoins.f k a0 t454 a2 a3 a4 a5).bind fun bt457=>((laws_toPairS.f k l1).bind fun t462=>((impl_SendCoins.f k a0 t462 a2 a3 a4 a5).bind fun bt465=>((laws_eqPairS.f k bt465.1 bt457.1).bind fun t470=>(if t470=τ then (if bt465.2.1.toList=bt457.2.1.toList then (laws_FnExactSendCoins.j0 k a0 l1 a2 a3 a4 a5 bt457.1 bt457.2.1 bt457.2.2 t462 bt465.1 bt465.2.1 bt465.2.2 (bt465.2.2 != bt457.2.2)) else (laws_FnExactSendCoins.j0 k a0 l1 a2 a3 a4 a5 bt457.1 bt457.2.1 bt457.2.2 t462 bt465.1 bt465.2.1 bt465.2.2 τ)) else (laws_FnExactSendCoins.j0 k a0 l1 a2 a3 a4 a5 bt457.1 bt457.2.1 bt457.2.2 t462 bt465.1 bt465.2.1 bt465.2.2 τ)))))))))))))=some r:=h
 clear h
 by_cases c7:(a0.size:Int) > 1048576
 ·
  rw [if_pos c7] at H
  have c7b0:decide (1048576<(a0.size:Int))=τ:=decide_eq_true c7
  have c7b1:decide (1048576<a0.size)=τ:=decide_eq_true (by omega)
  clear c7
  obtain rfl:=Option.some.inj H
  go_enter Tryz.func5,Tryz.ntmps5
  go_wp2
  go_ret
  exact ⟨by first|rfl|(simp [errW_none,errW_some] <;> rfl)|(simp [*,errW_none,errW_some] <;> rfl),by repeat (first|(with_reducible first|exact HB.out|apply δk|apply δi|apply δj)|exact HB.out)⟩
 ·
  rw [if_neg c7] at H
  have c7b0:decide (1048576<(a0.size:Int))=φ:=decide_eq_false c7
  have c7b1:decide (1048576<a0.size)=φ:=decide_eq_false (by omega)
  clear c7
  by_cases c8:(a2.size:Int) > 1048576
  ·
   rw [if_pos c8] at H
   have c8b0:decide (1048576<(a2.size:Int))=τ:=decide_eq_true c8
   have c8b1:decide (1048576<a2.size)=τ:=decide_eq_true (by omega)
   clear c8
   obtain rfl:=Option.some.inj H
   go_enter Tryz.func5,Tryz.ntmps5
   go_wp2
   go_ret
   exact ⟨by first|rfl|(simp [errW_none,errW_some] <;> rfl)|(simp [*,errW_none,errW_some] <;> rfl),by repeat (first|(with_reducible first|exact HB.out|apply δk|apply δi|apply δj)|exact HB.out)⟩
  ·
   rw [if_neg c8] at H
   have c8b0:decide (1048576<(a2.size:Int))=φ:=decide_eq_false c8
   have c8b1:decide (1048576<a2.size)=φ:=decide_eq_false (by omega)
   clear c8
   by_cases c9:(a4.size:Int) > 1048576
   ·
    rw [if_pos c9] at H
    have c9b0:decide (1048576<(a4.size:Int))=τ:=decide_eq_true c9
    have c9b1:decide (1048576<a4.size)=τ:=decide_eq_true (by omega)
    clear c9
    obtain rfl:=Option.some.inj H
    go_enter Tryz.func5,Tryz.ntmps5
    go_wp2
    go_ret
    exact ⟨by first|rfl|(simp [errW_none,errW_some] <;> rfl)|(simp [*,errW_none,errW_some] <;> rfl),by repeat (first|(with_reducible first|exact HB.out|apply δk|apply δi|apply δj)|exact HB.out)⟩
   ·
    rw [if_neg c9] at H
    have c9b0:decide (1048576<(a4.size:Int))=φ:=decide_eq_false c9
    have c9b1:decide (1048576<a4.size)=φ:=decide_eq_false (by omega)
    clear c9
    by_cases c10:(a5.size:Int) > 1048576
    ·
     rw [if_pos c10] at H
     have c10b0:decide (1048576<(a5.size:Int))=τ:=decide_eq_true c10
     have c10b1:decide (1048576<a5.size)=τ:=decide_eq_true (by omega)
     clear c10
     obtain rfl:=Option.some.inj H
     go_enter Tryz.func5,Tryz.ntmps5
     go_wp2
     go_ret
     exact ⟨by first|rfl|(simp [errW_none,errW_some] <;> rfl)|(simp [*,errW_none,errW_some] <;> rfl),by repeat (first|(with_reducible first|exact HB.out|apply δk|apply δi|apply δj)|exact HB.out)⟩
    ·
     rw [if_neg c10] at H
     have c10b0:decide (1048576<(a5.size:Int))=φ:=decide_eq_false c10
     have c10b1:decide (1048576<a5.size)=φ:=decide_eq_false (by omega)
     clear c10
     replace H:=Option.bind_eq_some_iff.mp H
     obtain ⟨t453,A110,H⟩:=H
     replace H:(if t453<0 then (some τ) else ((laws_toPairS.f k l1).bind fun t454=>((spec_SendCoins.f k a0 t454 a2 a3 a4 a5).bind fun bt457=>((laws_toPairS.f k l1).bind fun t462=>((impl_SendCoins.f k a0 t462 a2 a3 a4 a5).bind fun bt465=>((laws_eqPairS.f k bt465.1 bt457.1).bind fun t470=>(if t470=τ then (if bt465.2.1.toList=bt457.2.1.toList then (laws_FnExactSendCoins.j0 k a0 l1 a2 a3 a4 a5 bt457.1 bt457.2.1 bt457.2.2 t462 bt465.1 bt465.2.1 bt465.2.2 (bt465.2.2 != bt457.2.2)) else (laws_FnExactSendCoins.j0 k a0 l1 a2 a3 a4 a5 bt457.1 bt457.2.1 bt457.2.2 t462 bt465.1 bt465.2.1 bt465.2.2 τ)) else (laws_FnExactSendCoins.j0 k a0 l1 a2 a3 a4 a5 bt457.1 bt457.2.1 bt457.2.2 t462 bt465.1 bt465.2.1 bt465.2.2 τ))))))))=some r:=H
     have A11:=ζa A110
     clear A110
     by_cases c12:t453<0
     ·
      rw [if_pos c12] at H
      have c12b0:decide (t453<0)=τ:=decide_eq_true c12
      clear c12
      obtain rfl:=Option.some.inj H
      go_enter Tryz.func5,Tryz.ntmps5
      go_wp2_with (first|((with_reducible refine δv (f:=14) rfl ?_);refine goesL_ (some 41) rfl rfl Tryz.func14 (by kernel_rfl) rfl #[.slice A1 l1.length c1,.int .i64 1048576] rfl (by (try simp only [δd,δe,δf]);first|done|rfl|(simp only [δg,δh];rfl)) ?_;(with_reducible refine (laws_szPairS.calls k _ _ l1 1048576 t453 _ ?side1 ?side2 A11.out).mono ?_);(case side1=>repeat (first|exact HR1.out|(with_reducible refine Kd.C_alloc ?_ _)|(with_reducible refine Kd.C_drewN ?_ _)|(with_reducible refine Kd.C_drew ?_)));(case side2=>exact HC1.out);rintro e w13 ⟨rfl,hb⟩;refine ⟨_,rfl,?_⟩;have n0_:=ζa (δr (by repeat (first|(with_reducible first|exact HB.out|apply δk|apply δi|apply δj)|exact HB.out)) hb);clear HB;have HB:=n0_;clear n0_;(try clear hb);(try clear hb2);(try clear hk);(try clear hi)))
      go_ret
      exact ⟨by first|rfl|(simp [errW_none,errW_some] <;> rfl)|(simp [*,errW_none,errW_some] <;> rfl),by repeat (first|(with_reducible first|exact HB.out|apply δk|apply δi|apply δj)|exact HB.out)⟩
     ·
      rw [if_neg c12] at H
      have c12b0:decide (t453<0)=φ:=decide_eq_false c12
      clear c12
      replace H:=Option.bind_eq_some_iff.mp H
      obtain ⟨t454,A140,H⟩:=H
      replace H:((spec_SendCoins.f k a0 t454 a2 a3 a4 a5).bind fun bt457=>((laws_toPairS.f k l1).bind fun t462=>((impl_SendCoins.f k a0 t462 a2 a3 a4 a5).bind fun bt465=>((laws_eqPairS.f k bt465.1 bt457.1).bind fun t470=>(if t470=τ then (if bt465.2.1.toList=bt457.2.1.toList then (laws_FnExactSendCoins.j0 k a0 l1 a2 a3 a4 a5 bt457.1 bt457.2.1 bt457.2.2 t462 bt465.1 bt465.2.1 bt465.2.2 (bt465.2.2 != bt457.2.2)) else (laws_FnExactSendCoins.j0 k a0 l1 a2 a3 a4 a5 bt457.1 bt457.2.1 bt457.2.2 t462 bt465.1 bt465.2.1 bt465.2.2 τ)) else (laws_FnExactSendCoins.j0 k a0 l1 a2 a3 a4 a5 bt457.1 bt457.2.1 bt457.2.2 t462 bt465.1 bt465.2.1 bt465.2.2 τ))))))=some r:=H
      have A14:=ζa A140
      clear A140
      replace H:=Option.bind_eq_some_iff.mp H
      obtain ⟨⟨t457,t458,t459⟩,A150,H⟩:=H
      replace H:((laws_toPairS.f k l1).bind fun t462=>((impl_SendCoins.f k a0 t462 a2 a3 a4 a5).bind fun bt465=>((laws_eqPairS.f k bt465.1 t457).bind fun t470=>(if t470=τ then (if bt465.2.1.toList=t458.toList then (laws_FnExactSendCoins.j0 k a0 l1 a2 a3 a4 a5 t457 t458 t459 t462 bt465.1 bt465.2.1 bt465.2.2 (bt465.2.2 != t459)) else (laws_FnExactSendCoins.j0 k a0 l1 a2 a3 a4 a5 t457 t458 t459 t462 bt465.1 bt465.2.1 bt465.2.2 τ)) else (laws_FnExactSendCoins.j0 k a0 l1 a2 a3 a4 a5 t457 t458 t459 t462 bt465.1 bt465.2.1 bt465.2.2 τ)))))=some r:=H
      have A15:=ζa A150
      clear A150
      replace H:=Option.bind_eq_some_iff.mp H
      obtain ⟨t462,A160,H⟩:=H
      replace H:((impl_SendCoins.f k a0 t462 a2 a3 a4 a5).bind fun bt465=>((laws_eqPairS.f k bt465.1 t457).bind fun t470=>(if t470=τ then (if bt465.2.1.toList=t458.toList then (laws_FnExactSendCoins.j0 k a0 l1 a2 a3 a4 a5 t457 t458 t459 t462 bt465.1 bt465.2.1 bt465.2.2 (bt465.2.2 != t459)) else (laws_FnExactSendCoins.j0 k a0 l1 a2 a3 a4 a5 t457 t458 t459 t462 bt465.1 bt465.2.1 bt465.2.2 τ)) else (laws_FnExactSendCoins.j0 k a0 l1 a2 a3 a4 a5 t457 t458 t459 t462 bt465.1 bt465.2.1 bt465.2.2 τ))))=some r:=H
      have A16:=ζa A160
      clear A160
      replace H:=Option.bind_eq_some_iff.mp H
      obtain ⟨⟨t465,t466,t467⟩,A170,H⟩:=H
      replace H:((laws_eqPairS.f k t465 t457).bind fun t470=>(if t470=τ then (if t466.toList=t458.toList then (laws_FnExactSendCoins.j0 k a0 l1 a2 a3 a4 a5 t457 t458 t459 t462 t465 t466 t467 (t467 != t459)) else (laws_FnExactSendCoins.j0 k a0 l1 a2 a3 a4 a5 t457 t458 t459 t462 t465 t466 t467 τ)) else (laws_FnExactSendCoins.j0 k a0 l1 a2 a3 a4 a5 t457 t458 t459 t462 t465 t466 t467 τ)))=some r:=H
      have A17:=ζa A170
      clear A170
      have HC18:=ζa H
      clear H
      go_enter Tryz.func5,Tryz.ntmps5
      go_upto_region 16 with (first|((with_reducible refine δv (f:=14) rfl ?_);refine goesL_ (some 41) rfl rfl Tryz.func14 (by kernel_rfl) rfl #[.slice A1 l1.length c1,.int .i64 1048576] rfl (by (try simp only [δd,δe,δf]);first|done|rfl|(simp only [δg,δh];rfl)) ?_;(with_reducible refine (laws_szPairS.calls k _ _ l1 1048576 t453 _ ?side1 ?side2 A11.out).mono ?_);(case side1=>repeat (first|exact HR1.out|(with_reducible refine Kd.C_alloc ?_ _)|(with_reducible refine Kd.C_drewN ?_ _)|(with_reducible refine Kd.C_drew ?_)));(case side2=>exact HC1.out);rintro e w19 ⟨rfl,hb⟩;refine ⟨_,rfl,?_⟩;have n0_:=ζa (δr (by repeat (first|(with_reducible first|exact HB.out|apply δk|apply δi|apply δj)|exact HB.out)) hb);clear HB;have HB:=n0_;clear n0_;(try clear hb);(try clear hb2);(try clear hk);(try clear hi))|((with_reducible refine δv (f:=16) rfl ?_);refine goesL_ (some 47) rfl rfl Tryz.func16 (by kernel_rfl) rfl #[.slice A1 l1.length c1] rfl (by (try simp only [δd,δe,δf]);first|done|rfl|(simp only [δg,δh];rfl)) ?_;(with_reducible refine (laws_toPairS.calls k _ _ l1 t454 _ ?side1 ?side2 A14.out).mono ?_);(case side1=>repeat (first|exact (Kd.C_below HR1.out HB.out)|(with_reducible refine Kd.C_alloc ?_ _)|(with_reducible refine Kd.C_drewN ?_ _)|(with_reducible refine Kd.C_drew ?_)));(case side2=>exact HC1.out);rintro e w20 ⟨v455,rfl,ho0,hb⟩;refine ⟨_,rfl,?_⟩;have n0_:=ζa (Kd.R_lower ho0 (δs (by repeat (first|(with_reducible first|exact HB.out|apply δk|apply δi|apply δj)|exact HB.out))));have n1_:=ζa (δr (by repeat (first|(with_reducible first|exact HB.out|apply δk|apply δi|apply δj)|exact HB.out)) hb);clear HB;have HO456:=n0_;have HB:=n1_;clear n0_ n1_;(try clear hb);(try clear hb2);(try clear hk);(try clear hi);(try clear ho0);obtain ⟨Ao21,co21,eo21⟩:=Kd.R_slice HO456.out;subst eo21)|((with_reducible refine δv (f:=23) rfl ?_);refine goesL_ (some 52) rfl rfl Tryz.func23 (by kernel_rfl) rfl #[.string a0,.slice Ao21 t454.length co21,.string a2,.int .i64 a3,.string a4,.string a5] rfl (by (try simp only [δd,δe,δf]);first|done|rfl|(simp only [δg,δh];rfl)) ?_;(with_reducible refine (spec_SendCoins.calls k a0 _ _ t454 a2 a3 a4 a5 t457 t458 t459 _ ?side1 ?side2 A15.out).mono ?_);(case side1=>repeat (first|exact (ζg HO456.out).2.2|(with_reducible refine Kd.C_alloc ?_ _)|(with_reducible refine Kd.C_drewN ?_ _)|(with_reducible refine Kd.C_drew ?_)));(case side2=>exact (ζg HO456.out).2.1);rintro e w22 ⟨v460,rfl,ho0,hb⟩;refine ⟨_,rfl,?_⟩;have n0_:=ζa (Kd.R_elder' (by (with_reducible repeat (first|apply ζd|apply ζc|apply ζe));exact HO456.out) (Kd.R_base ho0) hb);have n1_:=ζa (Kd.R_lower (Kd.R_new' ho0 (Kd.R_lt (by (with_reducible repeat (first|apply ζd|apply ζc|apply ζe));exact HO456.out))) (δs (by repeat (first|(with_reducible first|exact HB.out|apply δk|apply δi|apply δj)|exact HB.out))));have n2_:=ζa (δr (by repeat (first|(with_reducible first|exact HB.out|apply δk|apply δi|apply δj)|exact HB.out)) hb);clear HO456;clear HB;have HO456:=n0_;have HO461:=n1_;have HB:=n2_;clear n0_ n1_ n2_;(try clear hb);(try clear hb2);(try clear hk);(try clear hi);(try clear ho0))|((with_reducible refine δv (f:=16) rfl ?_);refine goesL_ (some 57) rfl rfl Tryz.func16 (by kernel_rfl) rfl #[.slice A1 l1.length c1] rfl (by (try simp only [δd,δe,δf]);first|done|rfl|(simp only [δg,δh];rfl)) ?_;(with_reducible refine (laws_toPairS.calls k _ _ l1 t462 _ ?side1 ?side2 A16.out).mono ?_);(case side1=>repeat (first|exact (Kd.C_below HR1.out HB.out)|(with_reducible refine Kd.C_alloc ?_ _)|(with_reducible refine Kd.C_drewN ?_ _)|(with_reducible refine Kd.C_drew ?_)));(case side2=>exact HC1.out);rintro e w23 ⟨v463,rfl,ho0,hb⟩;refine ⟨_,rfl,?_⟩;have n0_:=ζa (Kd.R_elder' (by (with_reducible repeat (first|apply ζd|apply ζc|apply ζe));exact HO456.out) (Kd.R_base ho0) hb);have n1_:=ζa (Kd.R_elder' (by (with_reducible repeat (first|apply ζd|apply ζc|apply ζe));exact HO461.out) (Kd.R_base ho0) hb);have n2_:=ζa (Kd.R_lower (Kd.R_new' (Kd.R_new' ho0 (Kd.R_lt (by (with_reducible repeat (first|apply ζd|apply ζc|apply ζe));exact HO456.out))) (Kd.R_lt (by (with_reducible repeat (first|apply ζd|apply ζc|apply ζe));exact HO461.out))) (δs (by repeat (first|(with_reducible first|exact HB.out|apply δk|apply δi|apply δj)|exact HB.out))));have n3_:=ζa (δr (by repeat (first|(with_reducible first|exact HB.out|apply δk|apply δi|apply δj)|exact HB.out)) hb);clear HO456;clear HO461;clear HB;have HO456:=n0_;have HO461:=n1_;have HO464:=n2_;have HB:=n3_;clear n0_ n1_ n2_ n3_;(try clear hb);(try clear hb2);(try clear hk);(try clear hi);(try clear ho0);obtain ⟨Ao24,co24,eo24⟩:=Kd.R_slice HO464.out;subst eo24)|((with_reducible refine δv (f:=24) rfl ?_);refine goesL_ (some 65) rfl rfl Tryz.func24 (by kernel_rfl) rfl #[.string a0,.slice Ao24 t462.length co24,.string a2,.int .i64 a3,.string a4,.string a5] rfl (by (try simp only [δd,δe,δf]);first|done|rfl|(simp only [δg,δh];rfl)) ?_;(with_reducible refine (impl_SendCoins.calls k a0 _ _ t462 a2 a3 a4 a5 t465 t466 t467 _ ?side1 ?side2 (HT0.out.below (by repeat (first|(with_reducible first|exact HB.out|apply δk|apply δi|apply δj)|exact HB.out))) A17.out).mono ?_);(case side1=>repeat (first|exact (ζg HO464.out).2.2|(with_reducible refine Kd.C_alloc ?_ _)|(with_reducible refine Kd.C_drewN ?_ _)|(with_reducible refine Kd.C_drew ?_)));(case side2=>exact (ζg HO464.out).2.1);rintro e w25 ⟨v468,rfl,ho0,hb⟩;refine ⟨_,rfl,?_⟩;have n0_:=ζa (Kd.R_elder' (by (with_reducible repeat (first|apply ζd|apply ζc|apply ζe));exact HO456.out) (Kd.R_base ho0) hb);have n1_:=ζa (Kd.R_elder' (by (with_reducible repeat (first|apply ζd|apply ζc|apply ζe));exact HO461.out) (Kd.R_base ho0) hb);have n2_:=ζa (Kd.R_elder' (by (with_reducible repeat (first|apply ζd|apply ζc|apply ζe));exact HO464.out) (Kd.R_base ho0) hb);have n3_:=ζa (Kd.R_lower (Kd.R_new' (Kd.R_new' (Kd.R_new' ho0 (Kd.R_lt (by (with_reducible repeat (first|apply ζd|apply ζc|apply ζe));exact HO456.out))) (Kd.R_lt (by (with_reducible repeat (first|apply ζd|apply ζc|apply ζe));exact HO461.out))) (Kd.R_lt (by (with_reducible repeat (first|apply ζd|apply ζc|apply ζe));exact HO464.out))) (δs (by repeat (first|(with_reducible first|exact HB.out|apply δk|apply δi|apply δj)|exact HB.out))));have n4_:=ζa (δr (by repeat (first|(with_reducible first|exact HB.out|apply δk|apply δi|apply δj)|exact HB.out)) hb);clear HO456;clear HO461;clear HO464;clear HB;have HO456:=n0_;have HO461:=n1_;have HO464:=n2_;have HO469:=n3_;have HB:=n4_;clear n0_ n1_ n2_ n3_ n4_;(try clear hb);(try clear hb2);(try clear hk);(try clear hi);(try clear ho0)))
      (try simp only [ζl,δa,δb,δc])
      go_cut [82] (fun v82 wc => ∃ (kq:Nat) (x82_17:Bool),v82 = .bool x82_17∧Aside0 (laws_FnExactSendCoins.j0 kq a0 l1 a2 a3 a4 a5 t457 t458 t459 t462 t465 t466 t467 x82_17=some r)∧Aside0 (kq≤k)∧Aside0 (Kd.R k51 51 wc w.heap.size (fun k_=>some k_≠((.slice Ao24 t462.length co24):Value).ownBlock∧some k_≠(v468:Value).ownBlock) v460 t457)∧Aside0 (Kd.R k51 51 wc w.heap.size (fun k_=>some k_≠(v460:Value).ownBlock∧some k_≠(v468:Value).ownBlock) (.slice Ao24 t462.length co24) t462)∧Aside0 (Kd.R k51 51 wc w.heap.size (fun k_=>some k_≠(v460:Value).ownBlock∧some k_≠((.slice Ao24 t462.length co24):Value).ownBlock) v468 t465)∧Aside0 (Below w.heap.size w wc))
      case first =>
       have H:=HC18.out
       clear HC18
       replace H:=Option.bind_eq_some_iff.mp H
       obtain ⟨t470,A260,H⟩:=H
       replace H:(if t470=τ then (if t466.toList=t458.toList then (laws_FnExactSendCoins.j0 k a0 l1 a2 a3 a4 a5 t457 t458 t459 t462 t465 t466 t467 (t467 != t459)) else (laws_FnExactSendCoins.j0 k a0 l1 a2 a3 a4 a5 t457 t458 t459 t462 t465 t466 t467 τ)) else (laws_FnExactSendCoins.j0 k a0 l1 a2 a3 a4 a5 t457 t458 t459 t462 t465 t466 t467 τ))=some r:=H
       have A26:=ζa A260
       clear A260
       by_cases c27:t470=τ
       ·
        subst c27
        have H1:(if t466.toList=t458.toList then (laws_FnExactSendCoins.j0 k a0 l1 a2 a3 a4 a5 t457 t458 t459 t462 t465 t466 t467 (t467 != t459)) else (laws_FnExactSendCoins.j0 k a0 l1 a2 a3 a4 a5 t457 t458 t459 t462 t465 t466 t467 τ))=some r:=by rw [if_pos rfl] at H;exact H
        clear H
        have H:=H1
        clear H1
        by_cases c28:t466.toList=t458.toList
        ·
         rw [if_pos c28] at H
         have c28b0:(t466.toList == t458.toList)=τ:=beq_iff_eq.mpr c28
         have c28b1:(t466.toList != t458.toList)=φ:=bne_eq_false_iff_eq.mpr c28
         clear c28
         (first|rw [c28b0]|(simp only [i64_w,i32_w];rw [c28b0])|skip)
         have H':=ζa H
         clear H
         obtain ⟨Ao29,co29,eo29⟩:=Kd.R_slice HO469.out
         subst eo29
         obtain ⟨Ao30,co30,eo30⟩:=Kd.R_slice HO461.out
         subst eo30
         go_wp2_with (first|((with_reducible refine δv (f:=18) rfl ?_);refine goesL_ (some 71) rfl rfl Tryz.func18 (by kernel_rfl) rfl #[.slice Ao29 t465.length co29,.slice Ao30 t457.length co30] rfl (by (try simp only [δd,δe,δf]);first|done|rfl|(simp only [δg,δh];rfl)) ?_;(with_reducible refine (laws_eqPairS.calls k _ _ t465 _ _ t457 τ _ ?side1 ?side2 ?side3 ?side4 A26.out).mono ?_);(case side1=>repeat (first|exact (ζg HO469.out).2.2|(with_reducible refine Kd.C_alloc ?_ _)|(with_reducible refine Kd.C_drewN ?_ _)|(with_reducible refine Kd.C_drew ?_)));(case side2=>exact (ζg HO469.out).2.1);(case side3=>repeat (first|exact (ζg HO461.out).2.2|(with_reducible refine Kd.C_alloc ?_ _)|(with_reducible refine Kd.C_drewN ?_ _)|(with_reducible refine Kd.C_drew ?_)));(case side4=>exact (ζg HO461.out).2.1);rintro e w31 ⟨rfl,hb⟩;refine ⟨_,rfl,?_⟩;have n0_:=ζa (ζh (by (with_reducible repeat (first|apply ζd|apply ζc|apply ζe));exact HO456.out) hb);have n1_:=ζa (ζh (by (with_reducible repeat (first|apply ζd|apply ζc|apply ζe));exact HO461.out) hb);have n2_:=ζa (ζh (by (with_reducible repeat (first|apply ζd|apply ζc|apply ζe));exact HO464.out) hb);have n3_:=ζa (ζh (by (with_reducible repeat (first|apply ζd|apply ζc|apply ζe));exact HO469.out) hb);have n4_:=ζa (δr (by repeat (first|(with_reducible first|exact HB.out|apply δk|apply δi|apply δj)|exact HB.out)) hb);clear HO456;clear HO461;clear HO464;clear HO469;clear HB;have HO456:=n0_;have HO461:=n1_;have HO464:=n2_;have HO469:=n3_;have HB:=n4_;clear n0_ n1_ n2_ n3_ n4_;(try clear hb);(try clear hb2);(try clear hk);(try clear hi)))
         go_meet
         case rel=>exact ⟨_,((t467 != t459)),(by first|rfl|(simp;done)|(simp [*];done)),H',⟨by first|omega|exact Nat.le_refl _⟩,⟨by (with_reducible repeat (first|apply ζd|apply ζc|apply ζe));exact Kd.R_mono HO461.out (fun _ hk=>⟨hk.1.2,hk.2⟩)⟩,⟨by (with_reducible repeat (first|apply ζd|apply ζc|apply ζe));exact Kd.R_mono HO464.out (fun _ hk=>⟨hk.1.2,hk.2⟩)⟩,⟨by (with_reducible repeat (first|apply ζd|apply ζc|apply ζe));exact Kd.R_mono HO469.out (fun _ hk=>⟨hk.1.2,hk.2⟩)⟩,⟨by repeat (first|(with_reducible first|exact HB.out|apply δk|apply δi|apply δj)|exact HB.out)⟩⟩
        ·
         rw [if_neg c28] at H
         have c28b0:(t466.toList == t458.toList)=φ:=beq_eq_false_iff_ne.mpr c28
         have c28b1:(t466.toList != t458.toList)=τ:=bne_iff_ne.mpr c28
         (first|rw [c28b0]|(simp only [i64_w,i32_w];rw [c28b0])|skip)
         have H':=ζa H
         clear H
         obtain ⟨Ao32,co32,eo32⟩:=Kd.R_slice HO469.out
         subst eo32
         obtain ⟨Ao33,co33,eo33⟩:=Kd.R_slice HO461.out
         subst eo33
         go_wp2_with (first|((with_reducible refine δv (f:=18) rfl ?_);refine goesL_ (some 71) rfl rfl Tryz.func18 (by kernel_rfl) rfl #[.slice Ao32 t465.length co32,.slice Ao33 t457.length co33] rfl (by (try simp only [δd,δe,δf]);first|done|rfl|(simp only [δg,δh];rfl)) ?_;(with_reducible refine (laws_eqPairS.calls k _ _ t465 _ _ t457 τ _ ?side1 ?side2 ?side3 ?side4 A26.out).mono ?_);(case side1=>repeat (first|exact (ζg HO469.out).2.2|(with_reducible refine Kd.C_alloc ?_ _)|(with_reducible refine Kd.C_drewN ?_ _)|(with_reducible refine Kd.C_drew ?_)));(case side2=>exact (ζg HO469.out).2.1);(case side3=>repeat (first|exact (ζg HO461.out).2.2|(with_reducible refine Kd.C_alloc ?_ _)|(with_reducible refine Kd.C_drewN ?_ _)|(with_reducible refine Kd.C_drew ?_)));(case side4=>exact (ζg HO461.out).2.1);rintro e w34 ⟨rfl,hb⟩;refine ⟨_,rfl,?_⟩;have n0_:=ζa (ζh (by (with_reducible repeat (first|apply ζd|apply ζc|apply ζe));exact HO456.out) hb);have n1_:=ζa (ζh (by (with_reducible repeat (first|apply ζd|apply ζc|apply ζe));exact HO461.out) hb);have n2_:=ζa (ζh (by (with_reducible repeat (first|apply ζd|apply ζc|apply ζe));exact HO464.out) hb);have n3_:=ζa (ζh (by (with_reducible repeat (first|apply ζd|apply ζc|apply ζe));exact HO469.out) hb);have n4_:=ζa (δr (by repeat (first|(with_reducible first|exact HB.out|apply δk|apply δi|apply δj)|exact HB.out)) hb);clear HO456;clear HO461;clear HO464;clear HO469;clear HB;have HO456:=n0_;have HO461:=n1_;have HO464:=n2_;have HO469:=n3_;have HB:=n4_;clear n0_ n1_ n2_ n3_ n4_;(try clear hb);(try clear hb2);(try clear hk);(try clear hi)))
         go_meet
         case rel=>exact ⟨_,(τ),(by first|rfl|(simp;done)|(simp [*];done)),H',⟨by first|omega|exact Nat.le_refl _⟩,⟨by (with_reducible repeat (first|apply ζd|apply ζc|apply ζe));exact Kd.R_mono HO461.out (fun _ hk=>⟨hk.1.2,hk.2⟩)⟩,⟨by (with_reducible repeat (first|apply ζd|apply ζc|apply ζe));exact Kd.R_mono HO464.out (fun _ hk=>⟨hk.1.2,hk.2⟩)⟩,⟨by (with_reducible repeat (first|apply ζd|apply ζc|apply ζe));exact Kd.R_mono HO469.out (fun _ hk=>⟨hk.1.2,hk.2⟩)⟩,⟨by repeat (first|(with_reducible first|exact HB.out|apply δk|apply δi|apply δj)|exact HB.out)⟩⟩
       ·
        replace c27:=Bool.eq_false_iff.mpr c27
        subst c27
        have H1:(laws_FnExactSendCoins.j0 k a0 l1 a2 a3 a4 a5 t457 t458 t459 t462 t465 t466 t467 τ)=some r:=by rw [if_neg (show ¬ (φ=τ) by decide)] at H;exact H
        clear H
        have H:=H1
        clear H1
        have H':=ζa H
        clear H
        obtain ⟨Ao35,co35,eo35⟩:=Kd.R_slice HO469.out
        subst eo35
        obtain ⟨Ao36,co36,eo36⟩:=Kd.R_slice HO461.out
        subst eo36
        go_wp2_with (first|((with_reducible refine δv (f:=18) rfl ?_);refine goesL_ (some 71) rfl rfl Tryz.func18 (by kernel_rfl) rfl #[.slice Ao35 t465.length co35,.slice Ao36 t457.length co36] rfl (by (try simp only [δd,δe,δf]);first|done|rfl|(simp only [δg,δh];rfl)) ?_;(with_reducible refine (laws_eqPairS.calls k _ _ t465 _ _ t457 φ _ ?side1 ?side2 ?side3 ?side4 A26.out).mono ?_);(case side1=>repeat (first|exact (ζg HO469.out).2.2|(with_reducible refine Kd.C_alloc ?_ _)|(with_reducible refine Kd.C_drewN ?_ _)|(with_reducible refine Kd.C_drew ?_)));(case side2=>exact (ζg HO469.out).2.1);(case side3=>repeat (first|exact (ζg HO461.out).2.2|(with_reducible refine Kd.C_alloc ?_ _)|(with_reducible refine Kd.C_drewN ?_ _)|(with_reducible refine Kd.C_drew ?_)));(case side4=>exact (ζg HO461.out).2.1);rintro e w37 ⟨rfl,hb⟩;refine ⟨_,rfl,?_⟩;have n0_:=ζa (ζh (by (with_reducible repeat (first|apply ζd|apply ζc|apply ζe));exact HO456.out) hb);have n1_:=ζa (ζh (by (with_reducible repeat (first|apply ζd|apply ζc|apply ζe));exact HO461.out) hb);have n2_:=ζa (ζh (by (with_reducible repeat (first|apply ζd|apply ζc|apply ζe));exact HO464.out) hb);have n3_:=ζa (ζh (by (with_reducible repeat (first|apply ζd|apply ζc|apply ζe));exact HO469.out) hb);have n4_:=ζa (δr (by repeat (first|(with_reducible first|exact HB.out|apply δk|apply δi|apply δj)|exact HB.out)) hb);clear HO456;clear HO461;clear HO464;clear HO469;clear HB;have HO456:=n0_;have HO461:=n1_;have HO464:=n2_;have HO469:=n3_;have HB:=n4_;clear n0_ n1_ n2_ n3_ n4_;(try clear hb);(try clear hb2);(try clear hk);(try clear hi)))
        go_meet
        case rel=>exact ⟨_,(τ),(by first|rfl|(simp;done)|(simp [*];done)),H',⟨by first|omega|exact Nat.le_refl _⟩,⟨by (with_reducible repeat (first|apply ζd|apply ζc|apply ζe));exact Kd.R_mono HO461.out (fun _ hk=>⟨hk.1.2,hk.2⟩)⟩,⟨by (with_reducible repeat (first|apply ζd|apply ζc|apply ζe));exact Kd.R_mono HO464.out (fun _ hk=>⟨hk.1.2,hk.2⟩)⟩,⟨by (with_reducible repeat (first|apply ζd|apply ζc|apply ζe));exact Kd.R_mono HO469.out (fun _ hk=>⟨hk.1.2,hk.2⟩)⟩,⟨by repeat (first|(with_reducible first|exact HB.out|apply δk|apply δi|apply δj)|exact HB.out)⟩⟩
      case rest =>
       clear HC18
       try clear c1
       try clear c2
       try clear p2
       try clear c5
       try clear c7
       try clear c7b0
       try clear c7b1
       try clear c8
       try clear c8b0
       try clear c8b1
       try clear c9
       try clear c9b0
       try clear c9b1
       try clear c10
       try clear c10b0
       try clear c10b1
       try clear c12
       try clear c12b0
       try clear c14
       try clear c16
       try clear c18
       try clear c23
       try clear c24
       try clear c27
       try clear c28
       try clear c28b0
       try clear c28b1
       obtain ⟨kq,x82_17,rfl,HA,HJ17,HO_14,HO_17,HO_18,HB⟩:=hcut
       cases kq with
       | zero=>exact absurd HA.out (by simp [laws_FnExactSendCoins.j0])
       | succ kj17 =>
        have H:=HA.out
        clear HA
        simp only [laws_FnExactSendCoins.j0] at H
        by_cases c38:x82_17=τ
        ·
         subst c38
         have H1:(some φ)=some r:=by rw [if_pos rfl] at H;exact H
         clear H
         have H:=H1
         clear H1
         obtain rfl:=Option.some.inj H
         go_wp2
         go_ret
         exact ⟨by first|rfl|(simp [errW_none,errW_some] <;> rfl)|(simp [*,errW_none,errW_some] <;> rfl),by repeat (first|(with_reducible first|exact HB.out|apply δk|apply δi|apply δj)|exact HB.out)⟩
        ·
         replace c38:=Bool.eq_false_iff.mpr c38
         subst c38
         have H1:((laws_toPairS.f kj17 l1).bind fun t471=>((laws_eqPairS.f kj17 t462 t471).bind fun t474=>(if t474=τ then ((laws_markPairS.f kj17 t462 1).bind fun bt475=>(if bt475.1<0 then (laws_FnExactSendCoins.j1 kj17 a0 l1 a2 a3 a4 a5 t457 t458 t459 t465 τ) else ((laws_eqPairS.f kj17 t465 t457).bind fun t477=>(if t477=τ then (if t466.toList=t458.toList then (laws_FnExactSendCoins.j1 kj17 a0 l1 a2 a3 a4 a5 t457 t458 t459 t465 (t467 != t459)) else (laws_FnExactSendCoins.j1 kj17 a0 l1 a2 a3 a4 a5 t457 t458 t459 t465 τ)) else (laws_FnExactSendCoins.j1 kj17 a0 l1 a2 a3 a4 a5 t457 t458 t459 t465 τ))))) else (some φ))))=some r:=by rw [if_neg (show ¬ (φ=τ) by decide)] at H;exact H
         clear H
         have H:=H1
         clear H1
         replace H:=Option.bind_eq_some_iff.mp H
         obtain ⟨t471,A390,H⟩:=H
         replace H:((laws_eqPairS.f kj17 t462 t471).bind fun t474=>(if t474=τ then ((laws_markPairS.f kj17 t462 1).bind fun bt475=>(if bt475.1<0 then (laws_FnExactSendCoins.j1 kj17 a0 l1 a2 a3 a4 a5 t457 t458 t459 t465 τ) else ((laws_eqPairS.f kj17 t465 t457).bind fun t477=>(if t477=τ then (if t466.toList=t458.toList then (laws_FnExactSendCoins.j1 kj17 a0 l1 a2 a3 a4 a5 t457 t458 t459 t465 (t467 != t459)) else (laws_FnExactSendCoins.j1 kj17 a0 l1 a2 a3 a4 a5 t457 t458 t459 t465 τ)) else (laws_FnExactSendCoins.j1 kj17 a0 l1 a2 a3 a4 a5 t457 t458 t459 t465 τ))))) else (some φ)))=some r:=H
         have A39:=ζa A390
         clear A390
         replace H:=Option.bind_eq_some_iff.mp H
         obtain ⟨t474,A400,H⟩:=H
         replace H:(if t474=τ then ((laws_markPairS.f kj17 t462 1).bind fun bt475=>(if bt475.1<0 then (laws_FnExactSendCoins.j1 kj17 a0 l1 a2 a3 a4 a5 t457 t458 t459 t465 τ) else ((laws_eqPairS.f kj17 t465 t457).bind fun t477=>(if t477=τ then (if t466.toList=t458.toList then (laws_FnExactSendCoins.j1 kj17 a0 l1 a2 a3 a4 a5 t457 t458 t459 t465 (t467 != t459)) else (laws_FnExactSendCoins.j1 kj17 a0 l1 a2 a3 a4 a5 t457 t458 t459 t465 τ)) else (laws_FnExactSendCoins.j1 kj17 a0 l1 a2 a3 a4 a5 t457 t458 t459 t465 τ))))) else (some φ))=some r:=H
         have A40:=ζa A400
         clear A400
         by_cases c41:t474=τ
         ·
          subst c41
          have H1:((laws_markPairS.f kj17 t462 1).bind fun bt475=>(if bt475.1<0 then (laws_FnExactSendCoins.j1 kj17 a0 l1 a2 a3 a4 a5 t457 t458 t459 t465 τ) else ((laws_eqPairS.f kj17 t465 t457).bind fun t477=>(if t477=τ then (if t466.toList=t458.toList then (laws_FnExactSendCoins.j1 kj17 a0 l1 a2 a3 a4 a5 t457 t458 t459 t465 (t467 != t459)) else (laws_FnExactSendCoins.j1 kj17 a0 l1 a2 a3 a4 a5 t457 t458 t459 t465 τ)) else (laws_FnExactSendCoins.j1 kj17 a0 l1 a2 a3 a4 a5 t457 t458 t459 t465 τ)))))=some r:=by rw [if_pos rfl] at H;exact H
          clear H
          have H:=H1
          clear H1
          replace H:=Option.bind_eq_some_iff.mp H
          obtain ⟨⟨t475,t476⟩,A420,H⟩:=H
          replace H:(if t475<0 then (laws_FnExactSendCoins.j1 kj17 a0 l1 a2 a3 a4 a5 t457 t458 t459 t465 τ) else ((laws_eqPairS.f kj17 t465 t457).bind fun t477=>(if t477=τ then (if t466.toList=t458.toList then (laws_FnExactSendCoins.j1 kj17 a0 l1 a2 a3 a4 a5 t457 t458 t459 t465 (t467 != t459)) else (laws_FnExactSendCoins.j1 kj17 a0 l1 a2 a3 a4 a5 t457 t458 t459 t465 τ)) else (laws_FnExactSendCoins.j1 kj17 a0 l1 a2 a3 a4 a5 t457 t458 t459 t465 τ))))=some r:=H
          have A42:=ζa A420
          clear A420
          have HC43:=ζa H
          clear H
          go_upto_region 22 with (first|((with_reducible refine δv (f:=16) rfl ?_);refine goesL_ (some 85) rfl rfl Tryz.func16 (by kernel_rfl) rfl #[.slice A1 l1.length c1] rfl (by (try simp only [δd,δe,δf]);first|done|rfl|(simp only [δg,δh];rfl)) ?_;(with_reducible refine (laws_toPairS.calls kj17 _ _ l1 t471 _ ?side1 ?side2 A39.out).mono ?_);(case side1=>repeat (first|exact (Kd.C_below HR1.out HB.out)|(with_reducible refine Kd.C_alloc ?_ _)|(with_reducible refine Kd.C_drewN ?_ _)|(with_reducible refine Kd.C_drew ?_)));(case side2=>exact HC1.out);rintro e w44 ⟨v472,rfl,ho0,hb⟩;refine ⟨_,rfl,?_⟩;have n0_:=ζa (Kd.R_elder' (by (with_reducible repeat (first|apply ζd|apply ζc|apply ζe));exact HO_14.out) (Kd.R_base ho0) hb);have n1_:=ζa (Kd.R_elder' (by (with_reducible repeat (first|apply ζd|apply ζc|apply ζe));exact HO_17.out) (Kd.R_base ho0) hb);have n2_:=ζa (Kd.R_elder' (by (with_reducible repeat (first|apply ζd|apply ζc|apply ζe));exact HO_18.out) (Kd.R_base ho0) hb);have n3_:=ζa (Kd.R_lower (Kd.R_new' (Kd.R_new' (Kd.R_new' ho0 (Kd.R_lt (by (with_reducible repeat (first|apply ζd|apply ζc|apply ζe));exact HO_14.out))) (Kd.R_lt (by (with_reducible repeat (first|apply ζd|apply ζc|apply ζe));exact HO_17.out))) (Kd.R_lt (by (with_reducible repeat (first|apply ζd|apply ζc|apply ζe));exact HO_18.out))) (δs (by repeat (first|(with_reducible first|exact HB.out|apply δk|apply δi|apply δj)|exact HB.out))));have n4_:=ζa (δr (by repeat (first|(with_reducible first|exact HB.out|apply δk|apply δi|apply δj)|exact HB.out)) hb);clear HO_14;clear HO_17;clear HO_18;clear HB;have HO_14:=n0_;have HO_17:=n1_;have HO_18:=n2_;have HO473:=n3_;have HB:=n4_;clear n0_ n1_ n2_ n3_ n4_;(try clear hb);(try clear hb2);(try clear hk);(try clear hi);(try clear ho0);obtain ⟨Ao45,co45,eo45⟩:=Kd.R_slice HO473.out;subst eo45)|((with_reducible refine δv (f:=18) rfl ?_);refine goesL_ (some 86) rfl rfl Tryz.func18 (by kernel_rfl) rfl #[.slice Ao24 t462.length co24,.slice Ao45 t471.length co45] rfl (by (try simp only [δd,δe,δf]);first|done|rfl|(simp only [δg,δh];rfl)) ?_;(with_reducible refine (laws_eqPairS.calls kj17 _ _ t462 _ _ t471 τ _ ?side1 ?side2 ?side3 ?side4 A40.out).mono ?_);(case side1=>repeat (first|exact (ζg HO_17.out).2.2|(with_reducible refine Kd.C_alloc ?_ _)|(with_reducible refine Kd.C_drewN ?_ _)|(with_reducible refine Kd.C_drew ?_)));(case side2=>exact (ζg HO_17.out).2.1);(case side3=>repeat (first|exact (ζg HO473.out).2.2|(with_reducible refine Kd.C_alloc ?_ _)|(with_reducible refine Kd.C_drewN ?_ _)|(with_reducible refine Kd.C_drew ?_)));(case side4=>exact (ζg HO473.out).2.1);rintro e w46 ⟨rfl,hb⟩;refine ⟨_,rfl,?_⟩;have n0_:=ζa (ζh (by (with_reducible repeat (first|apply ζd|apply ζc|apply ζe));exact HO_14.out) hb);have n1_:=ζa (ζh (by (with_reducible repeat (first|apply ζd|apply ζc|apply ζe));exact HO_17.out) hb);have n2_:=ζa (ζh (by (with_reducible repeat (first|apply ζd|apply ζc|apply ζe));exact HO_18.out) hb);have n3_:=ζa (ζh (by (with_reducible repeat (first|apply ζd|apply ζc|apply ζe));exact HO473.out) hb);have n4_:=ζa (δr (by repeat (first|(with_reducible first|exact HB.out|apply δk|apply δi|apply δj)|exact HB.out)) hb);clear HO_14;clear HO_17;clear HO_18;clear HO473;clear HB;have HO_14:=n0_;have HO_17:=n1_;have HO_18:=n2_;have HO473:=n3_;have HB:=n4_;clear n0_ n1_ n2_ n3_ n4_;(try clear hb);(try clear hb2);(try clear hk);(try clear hi))|((with_reducible refine δv (f:=19) rfl ?_);refine goesL_ (some 90) rfl rfl Tryz.func19 (by kernel_rfl) rfl #[.slice Ao24 t462.length co24,.int .i64 1] rfl (by (try simp only [δd,δe,δf]);first|done|rfl|(simp only [δg,δh];rfl)) ?_;(with_reducible refine (laws_markPairS.calls kj17 (fun k_=>some k_=(.slice Ao24 t462.length co24:Value).ownBlock) (.slice Ao24 t462.length co24) t462 1 t475 t476 w _ ?side1 ?side2 A42.out).mono ?_);(case side1=>repeat (first|(with_reducible first|exact HB.out|apply δk|apply δi|apply δj)|exact HB.out));(case side2=>exact Kd.R_tight rfl HO_17.out);rintro e w47 ⟨rfl,hy0,hb,hkp⟩;refine ⟨_,rfl,?_⟩;have n0_:=ζa (Kd.R_mono (ok':=fun k_=>some k_≠(.slice Ao24 t462.length co24:Value).ownBlock∧some k_≠(v468:Value).ownBlock∧some k_≠(.slice Ao45 t471.length co45:Value).ownBlock) (Kd.R_keptB (HO_14.out) hkp (fun k_ hk_ hs_=>(hk_.1.1) hs_)) (fun k_ hk_=>⟨hk_.1.1.1,hk_.1.1.2,hk_.1.2⟩));have n1_:=ζa (Kd.R_reok rfl hy0 (fun k_ e_=>HO_17.out.1 k_ e_));have n2_:=ζa (Kd.R_mono (ok':=fun k_=>some k_≠(v460:Value).ownBlock∧some k_≠(.slice Ao24 t462.length co24:Value).ownBlock∧some k_≠(.slice Ao45 t471.length co45:Value).ownBlock) (Kd.R_keptB (HO_18.out) hkp (fun k_ hk_ hs_=>(hk_.1.2) hs_)) (fun k_ hk_=>⟨hk_.1.1.1,hk_.1.1.2,hk_.1.2⟩));have n3_:=ζa (Kd.R_mono (ok':=fun k_=>some k_≠(v460:Value).ownBlock∧some k_≠(.slice Ao24 t462.length co24:Value).ownBlock∧some k_≠(v468:Value).ownBlock) (Kd.R_keptB (HO473.out) hkp (fun k_ hk_ hs_=>(hk_.1.2) hs_)) (fun k_ hk_=>⟨hk_.1.1.1.2,hk_.1.1.2,hk_.1.2⟩));have n4_:=ζa (hb);clear HO_14;clear HO_17;clear HO_18;clear HO473;clear HB;have HO_14:=n0_;have HO_17:=n1_;have HO_18:=n2_;have HO473:=n3_;have HB:=n4_;clear n0_ n1_ n2_ n3_ n4_;(try clear hb);(try clear hkp);(try clear hy0)))
          (try simp only [ζl,δa,δb,δc])
          go_cut [108] (fun v108 wc => ∃ (kq:Nat) (x108_42:Bool),v108 = .bool x108_42∧Aside0 (laws_FnExactSendCoins.j1 kq a0 l1 a2 a3 a4 a5 t457 t458 t459 t465 x108_42=some r)∧Aside0 (kq≤kj17)∧Aside0 (Kd.R k51 51 wc w.heap.size (fun k_=>some k_≠(v468:Value).ownBlock) v460 t457)∧Aside0 (Kd.R k51 51 wc w.heap.size (fun k_=>some k_≠(v460:Value).ownBlock) v468 t465)∧Aside0 (Below w.heap.size w wc))
          case first =>
           have H:=HC43.out
           clear HC43
           by_cases c48:t475<0
           ·
            rw [if_pos c48] at H
            have c48b0:decide (t475<0)=τ:=decide_eq_true c48
            clear c48
            (first|rw [c48b0]|(simp only [i64_w,i32_w];rw [c48b0])|skip)
            have H':=ζa H
            clear H
            go_wp2
            go_meet
            case rel=>exact ⟨_,(τ),(by first|rfl|(simp;done)|(simp [*];done)),H',⟨by have:=HJ17.out;first|omega|exact Nat.le_refl _⟩,⟨by (with_reducible repeat (first|apply ζd|apply ζc|apply ζe));exact Kd.R_mono HO_14.out (fun _ hk=>hk.2.1)⟩,⟨by (with_reducible repeat (first|apply ζd|apply ζc|apply ζe));exact Kd.R_mono HO_18.out (fun _ hk=>hk.1)⟩,⟨by repeat (first|(with_reducible first|exact HB.out|apply δk|apply δi|apply δj)|exact HB.out)⟩⟩
           ·
            rw [if_neg c48] at H
            have c48b0:decide (t475<0)=φ:=decide_eq_false c48
            clear c48
            (first|rw [c48b0]|(simp only [i64_w,i32_w];rw [c48b0])|skip)
            replace H:=Option.bind_eq_some_iff.mp H
            obtain ⟨t477,A490,H⟩:=H
            replace H:(if t477=τ then (if t466.toList=t458.toList then (laws_FnExactSendCoins.j1 kj17 a0 l1 a2 a3 a4 a5 t457 t458 t459 t465 (t467 != t459)) else (laws_FnExactSendCoins.j1 kj17 a0 l1 a2 a3 a4 a5 t457 t458 t459 t465 τ)) else (laws_FnExactSendCoins.j1 kj17 a0 l1 a2 a3 a4 a5 t457 t458 t459 t465 τ))=some r:=H
            have A49:=ζa A490
            clear A490
            by_cases c50:t477=τ
            ·
             subst c50
             have H1:(if t466.toList=t458.toList then (laws_FnExactSendCoins.j1 kj17 a0 l1 a2 a3 a4 a5 t457 t458 t459 t465 (t467 != t459)) else (laws_FnExactSendCoins.j1 kj17 a0 l1 a2 a3 a4 a5 t457 t458 t459 t465 τ))=some r:=by rw [if_pos rfl] at H;exact H
             clear H
             have H:=H1
             clear H1
             by_cases c51:t466.toList=t458.toList
             ·
              rw [if_pos c51] at H
              have c51b0:(t466.toList == t458.toList)=τ:=beq_iff_eq.mpr c51
              have c51b1:(t466.toList != t458.toList)=φ:=bne_eq_false_iff_eq.mpr c51
              clear c51
              have H':=ζa H
              clear H
              obtain ⟨Ao52,co52,eo52⟩:=Kd.R_slice HO_18.out
              subst eo52
              obtain ⟨Ao53,co53,eo53⟩:=Kd.R_slice HO_14.out
              subst eo53
              go_wp2_with (first|(go_at_call 18;(with_reducible refine (laws_eqPairS.calls kj17 _ _ t465 _ _ t457 τ _ ?side1 ?side2 ?side3 ?side4 A49.out).mono ?_);(case side1=>repeat (first|exact (ζg HO_18.out).2.2|(with_reducible refine Kd.C_alloc ?_ _)|(with_reducible refine Kd.C_drewN ?_ _)|(with_reducible refine Kd.C_drew ?_)));(case side2=>exact (ζg HO_18.out).2.1);(case side3=>repeat (first|exact (ζg HO_14.out).2.2|(with_reducible refine Kd.C_alloc ?_ _)|(with_reducible refine Kd.C_drewN ?_ _)|(with_reducible refine Kd.C_drew ?_)));(case side4=>exact (ζg HO_14.out).2.1);rintro e w54 ⟨rfl,hb⟩;have n0_:=ζa (ζh (by (with_reducible repeat (first|apply ζd|apply ζc|apply ζe));exact HO_14.out) hb);have n1_:=ζa (ζh (by (with_reducible repeat (first|apply ζd|apply ζc|apply ζe));exact HO_17.out) hb);have n2_:=ζa (ζh (by (with_reducible repeat (first|apply ζd|apply ζc|apply ζe));exact HO_18.out) hb);have n3_:=ζa (ζh (by (with_reducible repeat (first|apply ζd|apply ζc|apply ζe));exact HO473.out) hb);have n4_:=ζa (δr (by repeat (first|(with_reducible first|exact HB.out|apply δk|apply δi|apply δj)|exact HB.out)) hb);clear HO_14;clear HO_17;clear HO_18;clear HO473;clear HB;have HO_14:=n0_;have HO_17:=n1_;have HO_18:=n2_;have HO473:=n3_;have HB:=n4_;clear n0_ n1_ n2_ n3_ n4_;(try clear hb);(try clear hb2);(try clear hk);(try clear hi)))
              go_meet
              case rel=>exact ⟨_,((t467 != t459)),(by first|rfl|(simp;done)|(simp [*];done)),H',⟨by have:=HJ17.out;first|omega|exact Nat.le_refl _⟩,⟨by (with_reducible repeat (first|apply ζd|apply ζc|apply ζe));exact Kd.R_mono HO_14.out (fun _ hk=>hk.2.1)⟩,⟨by (with_reducible repeat (first|apply ζd|apply ζc|apply ζe));exact Kd.R_mono HO_18.out (fun _ hk=>hk.1)⟩,⟨by repeat (first|(with_reducible first|exact HB.out|apply δk|apply δi|apply δj)|exact HB.out)⟩⟩
             ·
              rw [if_neg c51] at H
              have c51b0:(t466.toList == t458.toList)=φ:=beq_eq_false_iff_ne.mpr c51
              have c51b1:(t466.toList != t458.toList)=τ:=bne_iff_ne.mpr c51
              have H':=ζa H
              clear H
              obtain ⟨Ao55,co55,eo55⟩:=Kd.R_slice HO_18.out
              subst eo55
              obtain ⟨Ao56,co56,eo56⟩:=Kd.R_slice HO_14.out
              subst eo56
              go_wp2_with (first|(go_at_call 18;(with_reducible refine (laws_eqPairS.calls kj17 _ _ t465 _ _ t457 τ _ ?side1 ?side2 ?side3 ?side4 A49.out).mono ?_);(case side1=>repeat (first|exact (ζg HO_18.out).2.2|(with_reducible refine Kd.C_alloc ?_ _)|(with_reducible refine Kd.C_drewN ?_ _)|(with_reducible refine Kd.C_drew ?_)));(case side2=>exact (ζg HO_18.out).2.1);(case side3=>repeat (first|exact (ζg HO_14.out).2.2|(with_reducible refine Kd.C_alloc ?_ _)|(with_reducible refine Kd.C_drewN ?_ _)|(with_reducible refine Kd.C_drew ?_)));(case side4=>exact (ζg HO_14.out).2.1);rintro e w57 ⟨rfl,hb⟩;have n0_:=ζa (ζh (by (with_reducible repeat (first|apply ζd|apply ζc|apply ζe));exact HO_14.out) hb);have n1_:=ζa (ζh (by (with_reducible repeat (first|apply ζd|apply ζc|apply ζe));exact HO_17.out) hb);have n2_:=ζa (ζh (by (with_reducible repeat (first|apply ζd|apply ζc|apply ζe));exact HO_18.out) hb);have n3_:=ζa (ζh (by (with_reducible repeat (first|apply ζd|apply ζc|apply ζe));exact HO473.out) hb);have n4_:=ζa (δr (by repeat (first|(with_reducible first|exact HB.out|apply δk|apply δi|apply δj)|exact HB.out)) hb);clear HO_14;clear HO_17;clear HO_18;clear HO473;clear HB;have HO_14:=n0_;have HO_17:=n1_;have HO_18:=n2_;have HO473:=n3_;have HB:=n4_;clear n0_ n1_ n2_ n3_ n4_;(try clear hb);(try clear hb2);(try clear hk);(try clear hi)))
              go_meet
              case rel=>exact ⟨_,(τ),(by first|rfl|(simp;done)|(simp [*];done)),H',⟨by have:=HJ17.out;first|omega|exact Nat.le_refl _⟩,⟨by (with_reducible repeat (first|apply ζd|apply ζc|apply ζe));exact Kd.R_mono HO_14.out (fun _ hk=>hk.2.1)⟩,⟨by (with_reducible repeat (first|apply ζd|apply ζc|apply ζe));exact Kd.R_mono HO_18.out (fun _ hk=>hk.1)⟩,⟨by repeat (first|(with_reducible first|exact HB.out|apply δk|apply δi|apply δj)|exact HB.out)⟩⟩
            ·
             replace c50:=Bool.eq_false_iff.mpr c50
             subst c50
             have H1:(laws_FnExactSendCoins.j1 kj17 a0 l1 a2 a3 a4 a5 t457 t458 t459 t465 τ)=some r:=by rw [if_neg (show ¬ (φ=τ) by decide)] at H;exact H
             clear H
             have H:=H1
             clear H1
             have H':=ζa H
             clear H
             obtain ⟨Ao58,co58,eo58⟩:=Kd.R_slice HO_18.out
             subst eo58
             obtain ⟨Ao59,co59,eo59⟩:=Kd.R_slice HO_14.out
             subst eo59
             go_wp2_with (first|(go_at_call 18;(with_reducible refine (laws_eqPairS.calls kj17 _ _ t465 _ _ t457 φ _ ?side1 ?side2 ?side3 ?side4 A49.out).mono ?_);(case side1=>repeat (first|exact (ζg HO_18.out).2.2|(with_reducible refine Kd.C_alloc ?_ _)|(with_reducible refine Kd.C_drewN ?_ _)|(with_reducible refine Kd.C_drew ?_)));(case side2=>exact (ζg HO_18.out).2.1);(case side3=>repeat (first|exact (ζg HO_14.out).2.2|(with_reducible refine Kd.C_alloc ?_ _)|(with_reducible refine Kd.C_drewN ?_ _)|(with_reducible refine Kd.C_drew ?_)));(case side4=>exact (ζg HO_14.out).2.1);rintro e w60 ⟨rfl,hb⟩;have n0_:=ζa (ζh (by (with_reducible repeat (first|apply ζd|apply ζc|apply ζe));exact HO_14.out) hb);have n1_:=ζa (ζh (by (with_reducible repeat (first|apply ζd|apply ζc|apply ζe));exact HO_17.out) hb);have n2_:=ζa (ζh (by (with_reducible repeat (first|apply ζd|apply ζc|apply ζe));exact HO_18.out) hb);have n3_:=ζa (ζh (by (with_reducible repeat (first|apply ζd|apply ζc|apply ζe));exact HO473.out) hb);have n4_:=ζa (δr (by repeat (first|(with_reducible first|exact HB.out|apply δk|apply δi|apply δj)|exact HB.out)) hb);clear HO_14;clear HO_17;clear HO_18;clear HO473;clear HB;have HO_14:=n0_;have HO_17:=n1_;have HO_18:=n2_;have HO473:=n3_;have HB:=n4_;clear n0_ n1_ n2_ n3_ n4_;(try clear hb);(try clear hb2);(try clear hk);(try clear hi)))
             go_meet
             case rel=>exact ⟨_,(τ),(by first|rfl|(simp;done)|(simp [*];done)),H',⟨by have:=HJ17.out;first|omega|exact Nat.le_refl _⟩,⟨by (with_reducible repeat (first|apply ζd|apply ζc|apply ζe));exact Kd.R_mono HO_14.out (fun _ hk=>hk.2.1)⟩,⟨by (with_reducible repeat (first|apply ζd|apply ζc|apply ζe));exact Kd.R_mono HO_18.out (fun _ hk=>hk.1)⟩,⟨by repeat (first|(with_reducible first|exact HB.out|apply δk|apply δi|apply δj)|exact HB.out)⟩⟩
          case rest =>
           clear HC43
           try clear c1
           try clear c2
           try clear p2
           try clear c3
           try clear c4
           try clear c5
           try clear c7
           try clear c7b0
           try clear c7b1
           try clear c8
           try clear c8b0
           try clear c8b1
           try clear c9
           try clear c9b0
           try clear c9b1
           try clear c10
           try clear c10b0
           try clear c10b1
           try clear c12
           try clear c12b0
           try clear c14
           try clear c16
           try clear c18
           try clear c19
           try clear c23
           try clear c24
           try clear c27
           try clear c28
           try clear c28b0
           try clear c28b1
           try clear c38
           try clear c41
           try clear c48
           try clear c48b0
           try clear c50
           try clear c51
           try clear c51b0
           try clear c51b1
           try clear p2
           obtain ⟨kq,x108_42,rfl,HA,HJ42,HO_14,HO_18,HB⟩:=hcut
           cases kq with
           | zero=>exact absurd HA.out (by simp [laws_FnExactSendCoins.j1])
           | succ kj42 =>
            have H:=HA.out
            clear HA
            simp only [laws_FnExactSendCoins.j1] at H
            by_cases c61:x108_42=τ
            ·
             subst c61
             have H1:(some φ)=some r:=by rw [if_pos rfl] at H;exact H
             clear H
             have H:=H1
             clear H1
             obtain rfl:=Option.some.inj H
             go_wp2
             go_ret
             exact ⟨by first|rfl|(simp [errW_none,errW_some] <;> rfl)|(simp [*,errW_none,errW_some] <;> rfl),by repeat (first|(with_reducible first|exact HB.out|apply δk|apply δi|apply δj)|exact HB.out)⟩
            ·
             replace c61:=Bool.eq_false_iff.mpr c61
             subst c61
             have H1:((laws_markPairS.f kj42 t465 1).bind fun bt478=>((laws_heldPairS.f kj42 bt478.2 1).bind fun t480=>(if t480<0 then (some φ) else (if t480=bt478.1 then ((laws_toPairS.f kj42 l1).bind fun t481=>((impl_SendCoins.f kj42 a0 t481 a2 a3 a4 a5).bind fun bt484=>((laws_eqPairS.f kj42 bt484.1 t457).bind fun t489=>(if t489=τ then (if bt484.2.1.toList=t458.toList then (laws_FnExactSendCoins.j2 kj42 bt478.2 bt478.1 (bt484.2.2 != t459)) else (laws_FnExactSendCoins.j2 kj42 bt478.2 bt478.1 τ)) else (laws_FnExactSendCoins.j2 kj42 bt478.2 bt478.1 τ))))) else (some φ)))))=some r:=by rw [if_neg (show ¬ (φ=τ) by decide)] at H;exact H
             clear H
             have H:=H1
             clear H1
             replace H:=Option.bind_eq_some_iff.mp H
             obtain ⟨⟨t478,t479⟩,A620,H⟩:=H
             replace H:((laws_heldPairS.f kj42 t479 1).bind fun t480=>(if t480<0 then (some φ) else (if t480=t478 then ((laws_toPairS.f kj42 l1).bind fun t481=>((impl_SendCoins.f kj42 a0 t481 a2 a3 a4 a5).bind fun bt484=>((laws_eqPairS.f kj42 bt484.1 t457).bind fun t489=>(if t489=τ then (if bt484.2.1.toList=t458.toList then (laws_FnExactSendCoins.j2 kj42 t479 t478 (bt484.2.2 != t459)) else (laws_FnExactSendCoins.j2 kj42 t479 t478 τ)) else (laws_FnExactSendCoins.j2 kj42 t479 t478 τ))))) else (some φ))))=some r:=H
             have A62:=ζa A620
             clear A620
             replace H:=Option.bind_eq_some_iff.mp H
             obtain ⟨t480,A630,H⟩:=H
             replace H:(if t480<0 then (some φ) else (if t480=t478 then ((laws_toPairS.f kj42 l1).bind fun t481=>((impl_SendCoins.f kj42 a0 t481 a2 a3 a4 a5).bind fun bt484=>((laws_eqPairS.f kj42 bt484.1 t457).bind fun t489=>(if t489=τ then (if bt484.2.1.toList=t458.toList then (laws_FnExactSendCoins.j2 kj42 t479 t478 (bt484.2.2 != t459)) else (laws_FnExactSendCoins.j2 kj42 t479 t478 τ)) else (laws_FnExactSendCoins.j2 kj42 t479 t478 τ))))) else (some φ)))=some r:=H
             have A63:=ζa A630
             clear A630
             by_cases c64:t480<0
             ·
              rw [if_pos c64] at H
              have c64b0:decide (t480<0)=τ:=decide_eq_true c64
              clear c64
              obtain rfl:=Option.some.inj H
              obtain ⟨Ao65,co65,eo65⟩:=Kd.R_slice HO_18.out
              subst eo65
              go_wp2_with (first|((with_reducible refine δv (f:=19) rfl ?_);refine goesL_ (some 111) rfl rfl Tryz.func19 (by kernel_rfl) rfl #[.slice Ao65 t465.length co65,.int .i64 1] rfl (by (try simp only [δd,δe,δf]);first|done|rfl|(simp only [δg,δh];rfl)) ?_;(with_reducible refine (laws_markPairS.calls kj42 (fun k_=>some k_=(.slice Ao65 t465.length co65:Value).ownBlock) (.slice Ao65 t465.length co65) t465 1 t478 t479 w _ ?side1 ?side2 A62.out).mono ?_);(case side1=>repeat (first|(with_reducible first|exact HB.out|apply δk|apply δi|apply δj)|exact HB.out));(case side2=>exact Kd.R_tight rfl HO_18.out);rintro e w66 ⟨rfl,hy0,hb,hkp⟩;refine ⟨_,rfl,?_⟩;have n0_:=ζa (Kd.R_mono (ok':=fun k_=>some k_≠(.slice Ao65 t465.length co65:Value).ownBlock) (Kd.R_keptB (HO_14.out) hkp (fun k_ hk_ hs_=>(hk_) hs_)) (fun k_ hk_=>hk_.1));have n1_:=ζa (Kd.R_reok rfl hy0 (fun k_ e_=>HO_18.out.1 k_ e_));have n2_:=ζa (hb);clear HO_14;clear HO_18;clear HB;have HO_14:=n0_;have HO_18:=n1_;have HB:=n2_;clear n0_ n1_ n2_;(try clear hb);(try clear hkp);(try clear hy0))|((with_reducible refine δv (f:=20) rfl ?_);refine goesL_ (some 114) rfl rfl Tryz.func20 (by kernel_rfl) rfl #[.slice Ao65 t479.length co65,.int .i64 1] rfl (by (try simp only [δd,δe,δf]);first|done|(rw [show t479.length=t465.length from (ζg HO_18.out).1.symm] <;> rfl)|rfl|(simp only [δg,δh];rfl)) ?_;(with_reducible refine (laws_heldPairS.calls kj42 _ _ t479 1 t480 _ ?side1 ?side2 A63.out).mono ?_);(case side1=>repeat (first|exact (ζg HO_18.out).2.2|(with_reducible refine Kd.C_alloc ?_ _)|(with_reducible refine Kd.C_drewN ?_ _)|(with_reducible refine Kd.C_drew ?_)));(case side2=>rw [show t479.length=t465.length from (ζg HO_18.out).1.symm];exact (ζg HO_18.out).2.1);rintro e w67 ⟨rfl,hb⟩;refine ⟨_,rfl,?_⟩;have n0_:=ζa (ζh (by (with_reducible repeat (first|apply ζd|apply ζc|apply ζe));exact HO_14.out) hb);have n1_:=ζa (ζh (by (with_reducible repeat (first|apply ζd|apply ζc|apply ζe));exact HO_18.out) hb);have n2_:=ζa (δr (by repeat (first|(with_reducible first|exact HB.out|apply δk|apply δi|apply δj)|exact HB.out)) hb);clear HO_14;clear HO_18;clear HB;have HO_14:=n0_;have HO_18:=n1_;have HB:=n2_;clear n0_ n1_ n2_;(try clear hb);(try clear hb2);(try clear hk);(try clear hi)))
              go_ret
              exact ⟨by first|rfl|(simp [errW_none,errW_some] <;> rfl)|(simp [*,errW_none,errW_some] <;> rfl),by repeat (first|(with_reducible first|exact HB.out|apply δk|apply δi|apply δj)|exact HB.out)⟩
             ·
              rw [if_neg c64] at H
              have c64b0:decide (t480<0)=φ:=decide_eq_false c64
              clear c64
              by_cases c68:t480=t478
              ·
               rw [if_pos c68] at H
               have c68b0:(t480 == t478)=τ:=beq_iff_eq.mpr c68
               have c68b1:(t480 != t478)=φ:=bne_eq_false_iff_eq.mpr c68
               clear c68
               replace H:=Option.bind_eq_some_iff.mp H
               obtain ⟨t481,A690,H⟩:=H
               replace H:((impl_SendCoins.f kj42 a0 t481 a2 a3 a4 a5).bind fun bt484=>((laws_eqPairS.f kj42 bt484.1 t457).bind fun t489=>(if t489=τ then (if bt484.2.1.toList=t458.toList then (laws_FnExactSendCoins.j2 kj42 t479 t478 (bt484.2.2 != t459)) else (laws_FnExactSendCoins.j2 kj42 t479 t478 τ)) else (laws_FnExactSendCoins.j2 kj42 t479 t478 τ))))=some r:=H
               have A69:=ζa A690
               clear A690
               replace H:=Option.bind_eq_some_iff.mp H
               obtain ⟨⟨t484,t485,t486⟩,A700,H⟩:=H
               replace H:((laws_eqPairS.f kj42 t484 t457).bind fun t489=>(if t489=τ then (if t485.toList=t458.toList then (laws_FnExactSendCoins.j2 kj42 t479 t478 (t486 != t459)) else (laws_FnExactSendCoins.j2 kj42 t479 t478 τ)) else (laws_FnExactSendCoins.j2 kj42 t479 t478 τ)))=some r:=H
               have A70:=ζa A700
               clear A700
               have HC71:=ζa H
               clear H
               obtain ⟨Ao72,co72,eo72⟩:=Kd.R_slice HO_18.out
               subst eo72
               go_upto_region 33 with (first|((with_reducible refine δv (f:=19) rfl ?_);refine goesL_ (some 111) rfl rfl Tryz.func19 (by kernel_rfl) rfl #[.slice Ao72 t465.length co72,.int .i64 1] rfl (by (try simp only [δd,δe,δf]);first|done|rfl|(simp only [δg,δh];rfl)) ?_;(with_reducible refine (laws_markPairS.calls kj42 (fun k_=>some k_=(.slice Ao72 t465.length co72:Value).ownBlock) (.slice Ao72 t465.length co72) t465 1 t478 t479 w _ ?side1 ?side2 A62.out).mono ?_);(case side1=>repeat (first|(with_reducible first|exact HB.out|apply δk|apply δi|apply δj)|exact HB.out));(case side2=>exact Kd.R_tight rfl HO_18.out);rintro e w73 ⟨rfl,hy0,hb,hkp⟩;refine ⟨_,rfl,?_⟩;have n0_:=ζa (Kd.R_mono (ok':=fun k_=>some k_≠(.slice Ao72 t465.length co72:Value).ownBlock) (Kd.R_keptB (HO_14.out) hkp (fun k_ hk_ hs_=>(hk_) hs_)) (fun k_ hk_=>hk_.1));have n1_:=ζa (Kd.R_reok rfl hy0 (fun k_ e_=>HO_18.out.1 k_ e_));have n2_:=ζa (hb);clear HO_14;clear HO_18;clear HB;have HO_14:=n0_;have HO_18:=n1_;have HB:=n2_;clear n0_ n1_ n2_;(try clear hb);(try clear hkp);(try clear hy0))|((with_reducible refine δv (f:=20) rfl ?_);refine goesL_ (some 114) rfl rfl Tryz.func20 (by kernel_rfl) rfl #[.slice Ao72 t479.length co72,.int .i64 1] rfl (by (try simp only [δd,δe,δf]);first|done|(rw [show t479.length=t465.length from (ζg HO_18.out).1.symm] <;> rfl)|rfl|(simp only [δg,δh];rfl)) ?_;(with_reducible refine (laws_heldPairS.calls kj42 _ _ t479 1 t480 _ ?side1 ?side2 A63.out).mono ?_);(case side1=>repeat (first|exact (ζg HO_18.out).2.2|(with_reducible refine Kd.C_alloc ?_ _)|(with_reducible refine Kd.C_drewN ?_ _)|(with_reducible refine Kd.C_drew ?_)));(case side2=>rw [show t479.length=t465.length from (ζg HO_18.out).1.symm];exact (ζg HO_18.out).2.1);rintro e w74 ⟨rfl,hb⟩;refine ⟨_,rfl,?_⟩;have n0_:=ζa (ζh (by (with_reducible repeat (first|apply ζd|apply ζc|apply ζe));exact HO_14.out) hb);have n1_:=ζa (ζh (by (with_reducible repeat (first|apply ζd|apply ζc|apply ζe));exact HO_18.out) hb);have n2_:=ζa (δr (by repeat (first|(with_reducible first|exact HB.out|apply δk|apply δi|apply δj)|exact HB.out)) hb);clear HO_14;clear HO_18;clear HB;have HO_14:=n0_;have HO_18:=n1_;have HB:=n2_;clear n0_ n1_ n2_;(try clear hb);(try clear hb2);(try clear hk);(try clear hi))|((with_reducible refine δv (f:=16) rfl ?_);refine goesL_ (some 123) rfl rfl Tryz.func16 (by kernel_rfl) rfl #[.slice A1 l1.length c1] rfl (by (try simp only [δd,δe,δf]);first|done|rfl|(simp only [δg,δh];rfl)) ?_;(with_reducible refine (laws_toPairS.calls kj42 _ _ l1 t481 _ ?side1 ?side2 A69.out).mono ?_);(case side1=>repeat (first|exact (Kd.C_below HR1.out HB.out)|(with_reducible refine Kd.C_alloc ?_ _)|(with_reducible refine Kd.C_drewN ?_ _)|(with_reducible refine Kd.C_drew ?_)));(case side2=>exact HC1.out);rintro e w75 ⟨v482,rfl,ho0,hb⟩;refine ⟨_,rfl,?_⟩;have n0_:=ζa (Kd.R_elder' (by (with_reducible repeat (first|apply ζd|apply ζc|apply ζe));exact HO_14.out) (Kd.R_base ho0) hb);have n1_:=ζa (Kd.R_elder' (by (with_reducible repeat (first|apply ζd|apply ζc|apply ζe));exact HO_18.out) (Kd.R_base ho0) hb);have n2_:=ζa (Kd.R_lower (Kd.R_new' (Kd.R_new' ho0 (Kd.R_lt (by (with_reducible repeat (first|apply ζd|apply ζc|apply ζe));exact HO_14.out))) (Kd.R_lt (by (with_reducible repeat (first|apply ζd|apply ζc|apply ζe));exact HO_18.out))) (δs (by repeat (first|(with_reducible first|exact HB.out|apply δk|apply δi|apply δj)|exact HB.out))));have n3_:=ζa (δr (by repeat (first|(with_reducible first|exact HB.out|apply δk|apply δi|apply δj)|exact HB.out)) hb);clear HO_14;clear HO_18;clear HB;have HO_14:=n0_;have HO_18:=n1_;have HO483:=n2_;have HB:=n3_;clear n0_ n1_ n2_ n3_;(try clear hb);(try clear hb2);(try clear hk);(try clear hi);(try clear ho0);obtain ⟨Ao76,co76,eo76⟩:=Kd.R_slice HO483.out;subst eo76)|((with_reducible refine δv (f:=24) rfl ?_);refine goesL_ (some 128) rfl rfl Tryz.func24 (by kernel_rfl) rfl #[.string a0,.slice Ao76 t481.length co76,.string a2,.int .i64 a3,.string a4,.string a5] rfl (by (try simp only [δd,δe,δf]);first|done|rfl|(simp only [δg,δh];rfl)) ?_;(with_reducible refine (impl_SendCoins.calls kj42 a0 _ _ t481 a2 a3 a4 a5 t484 t485 t486 _ ?side1 ?side2 (HT0.out.below (by repeat (first|(with_reducible first|exact HB.out|apply δk|apply δi|apply δj)|exact HB.out))) A70.out).mono ?_);(case side1=>repeat (first|exact (ζg HO483.out).2.2|(with_reducible refine Kd.C_alloc ?_ _)|(with_reducible refine Kd.C_drewN ?_ _)|(with_reducible refine Kd.C_drew ?_)));(case side2=>exact (ζg HO483.out).2.1);rintro e w77 ⟨v487,rfl,ho0,hb⟩;refine ⟨_,rfl,?_⟩;have n0_:=ζa (Kd.R_elder' (by (with_reducible repeat (first|apply ζd|apply ζc|apply ζe));exact HO_14.out) (Kd.R_base ho0) hb);have n1_:=ζa (Kd.R_elder' (by (with_reducible repeat (first|apply ζd|apply ζc|apply ζe));exact HO_18.out) (Kd.R_base ho0) hb);have n2_:=ζa (Kd.R_elder' (by (with_reducible repeat (first|apply ζd|apply ζc|apply ζe));exact HO483.out) (Kd.R_base ho0) hb);have n3_:=ζa (Kd.R_lower (Kd.R_new' (Kd.R_new' (Kd.R_new' ho0 (Kd.R_lt (by (with_reducible repeat (first|apply ζd|apply ζc|apply ζe));exact HO_14.out))) (Kd.R_lt (by (with_reducible repeat (first|apply ζd|apply ζc|apply ζe));exact HO_18.out))) (Kd.R_lt (by (with_reducible repeat (first|apply ζd|apply ζc|apply ζe));exact HO483.out))) (δs (by repeat (first|(with_reducible first|exact HB.out|apply δk|apply δi|apply δj)|exact HB.out))));have n4_:=ζa (δr (by repeat (first|(with_reducible first|exact HB.out|apply δk|apply δi|apply δj)|exact HB.out)) hb);clear HO_14;clear HO_18;clear HO483;clear HB;have HO_14:=n0_;have HO_18:=n1_;have HO483:=n2_;have HO488:=n3_;have HB:=n4_;clear n0_ n1_ n2_ n3_ n4_;(try clear hb);(try clear hb2);(try clear hk);(try clear hi);(try clear ho0)))
               (try simp only [ζl,δa,δb,δc])
               go_cut [145] (fun v145 wc => ∃ (kq:Nat) (x145_70:Bool),v145 = .bool x145_70∧Aside0 (laws_FnExactSendCoins.j2 kq t479 t478 x145_70=some r)∧Aside0 (kq≤kj42)∧Aside0 (Kd.R k51 51 wc w.heap.size (fun _=>True) (.slice Ao72 t465.length co72) t479)∧Aside0 (Below w.heap.size w wc))
               case first =>
                have H:=HC71.out
                clear HC71
                replace H:=Option.bind_eq_some_iff.mp H
                obtain ⟨t489,A780,H⟩:=H
                replace H:(if t489=τ then (if t485.toList=t458.toList then (laws_FnExactSendCoins.j2 kj42 t479 t478 (t486 != t459)) else (laws_FnExactSendCoins.j2 kj42 t479 t478 τ)) else (laws_FnExactSendCoins.j2 kj42 t479 t478 τ))=some r:=H
                have A78:=ζa A780
                clear A780
                by_cases c79:t489=τ
                ·
                 subst c79
                 have H1:(if t485.toList=t458.toList then (laws_FnExactSendCoins.j2 kj42 t479 t478 (t486 != t459)) else (laws_FnExactSendCoins.j2 kj42 t479 t478 τ))=some r:=by rw [if_pos rfl] at H;exact H
                 clear H
                 have H:=H1
                 clear H1
                 by_cases c80:t485.toList=t458.toList
                 ·
                  rw [if_pos c80] at H
                  have c80b0:(t485.toList == t458.toList)=τ:=beq_iff_eq.mpr c80
                  have c80b1:(t485.toList != t458.toList)=φ:=bne_eq_false_iff_eq.mpr c80
                  clear c80
                  (first|rw [c80b0]|(simp only [i64_w,i32_w];rw [c80b0])|skip)
                  have H':=ζa H
                  clear H
                  obtain ⟨Ao81,co81,eo81⟩:=Kd.R_slice HO488.out
                  subst eo81
                  obtain ⟨Ao82,co82,eo82⟩:=Kd.R_slice HO_14.out
                  subst eo82
                  go_wp2_with (first|((with_reducible refine δv (f:=18) rfl ?_);refine goesL_ (some 134) rfl rfl Tryz.func18 (by kernel_rfl) rfl #[.slice Ao81 t484.length co81,.slice Ao82 t457.length co82] rfl (by (try simp only [δd,δe,δf]);first|done|rfl|(simp only [δg,δh];rfl)) ?_;(with_reducible refine (laws_eqPairS.calls kj42 _ _ t484 _ _ t457 τ _ ?side1 ?side2 ?side3 ?side4 A78.out).mono ?_);(case side1=>repeat (first|exact (ζg HO488.out).2.2|(with_reducible refine Kd.C_alloc ?_ _)|(with_reducible refine Kd.C_drewN ?_ _)|(with_reducible refine Kd.C_drew ?_)));(case side2=>exact (ζg HO488.out).2.1);(case side3=>repeat (first|exact (ζg HO_14.out).2.2|(with_reducible refine Kd.C_alloc ?_ _)|(with_reducible refine Kd.C_drewN ?_ _)|(with_reducible refine Kd.C_drew ?_)));(case side4=>exact (ζg HO_14.out).2.1);rintro e w83 ⟨rfl,hb⟩;refine ⟨_,rfl,?_⟩;have n0_:=ζa (ζh (by (with_reducible repeat (first|apply ζd|apply ζc|apply ζe));exact HO_14.out) hb);have n1_:=ζa (ζh (by (with_reducible repeat (first|apply ζd|apply ζc|apply ζe));exact HO_18.out) hb);have n2_:=ζa (ζh (by (with_reducible repeat (first|apply ζd|apply ζc|apply ζe));exact HO483.out) hb);have n3_:=ζa (ζh (by (with_reducible repeat (first|apply ζd|apply ζc|apply ζe));exact HO488.out) hb);have n4_:=ζa (δr (by repeat (first|(with_reducible first|exact HB.out|apply δk|apply δi|apply δj)|exact HB.out)) hb);clear HO_14;clear HO_18;clear HO483;clear HO488;clear HB;have HO_14:=n0_;have HO_18:=n1_;have HO483:=n2_;have HO488:=n3_;have HB:=n4_;clear n0_ n1_ n2_ n3_ n4_;(try clear hb);(try clear hb2);(try clear hk);(try clear hi)))
                  go_meet
                  case rel=>exact ⟨_,((t486 != t459)),(by first|rfl|(simp;done)|(simp [*];done)),H',⟨by have:=HJ17.out;have:=HJ42.out;first|omega|exact Nat.le_refl _⟩,⟨by (with_reducible repeat (first|apply ζd|apply ζc|apply ζe));exact Kd.R_mono HO_18.out (fun _ hk=>trivial)⟩,⟨by repeat (first|(with_reducible first|exact HB.out|apply δk|apply δi|apply δj)|exact HB.out)⟩⟩
                 ·
                  rw [if_neg c80] at H
                  have c80b0:(t485.toList == t458.toList)=φ:=beq_eq_false_iff_ne.mpr c80
                  have c80b1:(t485.toList != t458.toList)=τ:=bne_iff_ne.mpr c80
                  (first|rw [c80b0]|(simp only [i64_w,i32_w];rw [c80b0])|skip)
                  have H':=ζa H
                  clear H
                  obtain ⟨Ao84,co84,eo84⟩:=Kd.R_slice HO488.out
                  subst eo84
                  obtain ⟨Ao85,co85,eo85⟩:=Kd.R_slice HO_14.out
                  subst eo85
                  go_wp2_with (first|((with_reducible refine δv (f:=18) rfl ?_);refine goesL_ (some 134) rfl rfl Tryz.func18 (by kernel_rfl) rfl #[.slice Ao84 t484.length co84,.slice Ao85 t457.length co85] rfl (by (try simp only [δd,δe,δf]);first|done|rfl|(simp only [δg,δh];rfl)) ?_;(with_reducible refine (laws_eqPairS.calls kj42 _ _ t484 _ _ t457 τ _ ?side1 ?side2 ?side3 ?side4 A78.out).mono ?_);(case side1=>repeat (first|exact (ζg HO488.out).2.2|(with_reducible refine Kd.C_alloc ?_ _)|(with_reducible refine Kd.C_drewN ?_ _)|(with_reducible refine Kd.C_drew ?_)));(case side2=>exact (ζg HO488.out).2.1);(case side3=>repeat (first|exact (ζg HO_14.out).2.2|(with_reducible refine Kd.C_alloc ?_ _)|(with_reducible refine Kd.C_drewN ?_ _)|(with_reducible refine Kd.C_drew ?_)));(case side4=>exact (ζg HO_14.out).2.1);rintro e w86 ⟨rfl,hb⟩;refine ⟨_,rfl,?_⟩;have n0_:=ζa (ζh (by (with_reducible repeat (first|apply ζd|apply ζc|apply ζe));exact HO_14.out) hb);have n1_:=ζa (ζh (by (with_reducible repeat (first|apply ζd|apply ζc|apply ζe));exact HO_18.out) hb);have n2_:=ζa (ζh (by (with_reducible repeat (first|apply ζd|apply ζc|apply ζe));exact HO483.out) hb);have n3_:=ζa (ζh (by (with_reducible repeat (first|apply ζd|apply ζc|apply ζe));exact HO488.out) hb);have n4_:=ζa (δr (by repeat (first|(with_reducible first|exact HB.out|apply δk|apply δi|apply δj)|exact HB.out)) hb);clear HO_14;clear HO_18;clear HO483;clear HO488;clear HB;have HO_14:=n0_;have HO_18:=n1_;have HO483:=n2_;have HO488:=n3_;have HB:=n4_;clear n0_ n1_ n2_ n3_ n4_;(try clear hb);(try clear hb2);(try clear hk);(try clear hi)))
                  go_meet
                  case rel=>exact ⟨_,(τ),(by first|rfl|(simp;done)|(simp [*];done)),H',⟨by have:=HJ17.out;have:=HJ42.out;first|omega|exact Nat.le_refl _⟩,⟨by (with_reducible repeat (first|apply ζd|apply ζc|apply ζe));exact Kd.R_mono HO_18.out (fun _ hk=>trivial)⟩,⟨by repeat (first|(with_reducible first|exact HB.out|apply δk|apply δi|apply δj)|exact HB.out)⟩⟩
                ·
                 replace c79:=Bool.eq_false_iff.mpr c79
                 subst c79
                 have H1:(laws_FnExactSendCoins.j2 kj42 t479 t478 τ)=some r:=by rw [if_neg (show ¬ (φ=τ) by decide)] at H;exact H
                 clear H
                 have H:=H1
                 clear H1
                 have H':=ζa H
                 clear H
                 obtain ⟨Ao87,co87,eo87⟩:=Kd.R_slice HO488.out
                 subst eo87
                 obtain ⟨Ao88,co88,eo88⟩:=Kd.R_slice HO_14.out
                 subst eo88
                 go_wp2_with (first|((with_reducible refine δv (f:=18) rfl ?_);refine goesL_ (some 134) rfl rfl Tryz.func18 (by kernel_rfl) rfl #[.slice Ao87 t484.length co87,.slice Ao88 t457.length co88] rfl (by (try simp only [δd,δe,δf]);first|done|rfl|(simp only [δg,δh];rfl)) ?_;(with_reducible refine (laws_eqPairS.calls kj42 _ _ t484 _ _ t457 φ _ ?side1 ?side2 ?side3 ?side4 A78.out).mono ?_);(case side1=>repeat (first|exact (ζg HO488.out).2.2|(with_reducible refine Kd.C_alloc ?_ _)|(with_reducible refine Kd.C_drewN ?_ _)|(with_reducible refine Kd.C_drew ?_)));(case side2=>exact (ζg HO488.out).2.1);(case side3=>repeat (first|exact (ζg HO_14.out).2.2|(with_reducible refine Kd.C_alloc ?_ _)|(with_reducible refine Kd.C_drewN ?_ _)|(with_reducible refine Kd.C_drew ?_)));(case side4=>exact (ζg HO_14.out).2.1);rintro e w89 ⟨rfl,hb⟩;refine ⟨_,rfl,?_⟩;have n0_:=ζa (ζh (by (with_reducible repeat (first|apply ζd|apply ζc|apply ζe));exact HO_14.out) hb);have n1_:=ζa (ζh (by (with_reducible repeat (first|apply ζd|apply ζc|apply ζe));exact HO_18.out) hb);have n2_:=ζa (ζh (by (with_reducible repeat (first|apply ζd|apply ζc|apply ζe));exact HO483.out) hb);have n3_:=ζa (ζh (by (with_reducible repeat (first|apply ζd|apply ζc|apply ζe));exact HO488.out) hb);have n4_:=ζa (δr (by repeat (first|(with_reducible first|exact HB.out|apply δk|apply δi|apply δj)|exact HB.out)) hb);clear HO_14;clear HO_18;clear HO483;clear HO488;clear HB;have HO_14:=n0_;have HO_18:=n1_;have HO483:=n2_;have HO488:=n3_;have HB:=n4_;clear n0_ n1_ n2_ n3_ n4_;(try clear hb);(try clear hb2);(try clear hk);(try clear hi)))
                 go_meet
                 case rel=>exact ⟨_,(τ),(by first|rfl|(simp;done)|(simp [*];done)),H',⟨by have:=HJ17.out;have:=HJ42.out;first|omega|exact Nat.le_refl _⟩,⟨by (with_reducible repeat (first|apply ζd|apply ζc|apply ζe));exact Kd.R_mono HO_18.out (fun _ hk=>trivial)⟩,⟨by repeat (first|(with_reducible first|exact HB.out|apply δk|apply δi|apply δj)|exact HB.out)⟩⟩
               case rest =>
                clear HC71
                try clear c1
                try clear c2
                try clear p2
                try clear c3
                try clear c4
                try clear c5
                try clear c6
                try clear c7
                try clear c7b0
                try clear c7b1
                try clear c8
                try clear c8b0
                try clear c8b1
                try clear c9
                try clear c9b0
                try clear c9b1
                try clear c10
                try clear c10b0
                try clear c10b1
                try clear c12
                try clear c12b0
                try clear c14
                try clear c16
                try clear c18
                try clear c19
                try clear c20
                try clear c23
                try clear c24
                try clear c27
                try clear c28
                try clear c28b0
                try clear c28b1
                try clear c38
                try clear c41
                try clear c48
                try clear c48b0
                try clear c50
                try clear c51
                try clear c51b0
                try clear c51b1
                try clear c61
                try clear c64
                try clear c64b0
                try clear c68
                try clear c68b0
                try clear c68b1
                try clear c79
                try clear c80
                try clear c80b0
                try clear c80b1
                try clear p2
                obtain ⟨kq,x145_70,rfl,HA,HJ70,HO_18,HB⟩:=hcut
                have hl18_70:=(ζg HO_18.out).1
                rw [hl18_70] at HO_18
                (try simp only [hl18_70])
                cases kq with
                | zero=>exact absurd HA.out (by simp [laws_FnExactSendCoins.j2])
                | succ kj70 =>
                 have H:=HA.out
                 clear HA
                 simp only [laws_FnExactSendCoins.j2] at H
                 by_cases c90:x145_70=τ
                 ·
                  subst c90
                  have H1:(some φ)=some r:=by rw [if_pos rfl] at H;exact H
                  clear H
                  have H:=H1
                  clear H1
                  obtain rfl:=Option.some.inj H
                  go_wp2
                  go_ret
                  exact ⟨by first|rfl|(simp [errW_none,errW_some] <;> rfl)|(simp [*,errW_none,errW_some] <;> rfl),by repeat (first|(with_reducible first|exact HB.out|apply δk|apply δi|apply δj)|exact HB.out)⟩
                 ·
                  replace c90:=Bool.eq_false_iff.mpr c90
                  subst c90
                  have H1:((laws_heldPairS.f kj70 t479 1).bind fun t490=>(if t490<0 then (some φ) else (if t490=t478 then (some τ) else (some φ))))=some r:=by rw [if_neg (show ¬ (φ=τ) by decide)] at H;exact H
                  clear H
                  have H:=H1
                  clear H1
                  replace H:=Option.bind_eq_some_iff.mp H
                  obtain ⟨t490,A910,H⟩:=H
                  replace H:(if t490<0 then (some φ) else (if t490=t478 then (some τ) else (some φ)))=some r:=H
                  have A91:=ζa A910
                  clear A910
                  by_cases c92:t490<0
                  ·
                   rw [if_pos c92] at H
                   have c92b0:decide (t490<0)=τ:=decide_eq_true c92
                   clear c92
                   obtain rfl:=Option.some.inj H
                   go_wp2_with (first|((with_reducible refine δv (f:=20) rfl ?_);refine goesL_ (some 148) rfl rfl Tryz.func20 (by kernel_rfl) rfl #[.slice Ao72 t479.length co72,.int .i64 1] rfl (by (try simp only [δd,δe,δf]);first|done|rfl|(simp only [δg,δh];rfl)) ?_;(with_reducible refine (laws_heldPairS.calls kj70 _ _ t479 1 t490 _ ?side1 ?side2 A91.out).mono ?_);(case side1=>repeat (first|exact (ζg HO_18.out).2.2|(with_reducible refine Kd.C_alloc ?_ _)|(with_reducible refine Kd.C_drewN ?_ _)|(with_reducible refine Kd.C_drew ?_)));(case side2=>exact (ζg HO_18.out).2.1);rintro e w93 ⟨rfl,hb⟩;refine ⟨_,rfl,?_⟩;have n0_:=ζa (ζh (by (with_reducible repeat (first|apply ζd|apply ζc|apply ζe));exact HO_18.out) hb);have n1_:=ζa (δr (by repeat (first|(with_reducible first|exact HB.out|apply δk|apply δi|apply δj)|exact HB.out)) hb);clear HO_18;clear HB;have HO_18:=n0_;have HB:=n1_;clear n0_ n1_;(try clear hb);(try clear hb2);(try clear hk);(try clear hi)))
                   go_ret
                   exact ⟨by first|rfl|(simp [errW_none,errW_some] <;> rfl)|(simp [*,errW_none,errW_some] <;> rfl),by repeat (first|(with_reducible first|exact HB.out|apply δk|apply δi|apply δj)|exact HB.out)⟩
                  ·
                   rw [if_neg c92] at H
                   have c92b0:decide (t490<0)=φ:=decide_eq_false c92
                   clear c92
                   by_cases c94:t490=t478
                   ·
                    rw [if_pos c94] at H
                    have c94b0:(t490 == t478)=τ:=beq_iff_eq.mpr c94
                    have c94b1:(t490 != t478)=φ:=bne_eq_false_iff_eq.mpr c94
                    clear c94
                    obtain rfl:=Option.some.inj H
                    go_wp2_with (first|((with_reducible refine δv (f:=20) rfl ?_);refine goesL_ (some 148) rfl rfl Tryz.func20 (by kernel_rfl) rfl #[.slice Ao72 t479.length co72,.int .i64 1] rfl (by (try simp only [δd,δe,δf]);first|done|rfl|(simp only [δg,δh];rfl)) ?_;(with_reducible refine (laws_heldPairS.calls kj70 _ _ t479 1 t490 _ ?side1 ?side2 A91.out).mono ?_);(case side1=>repeat (first|exact (ζg HO_18.out).2.2|(with_reducible refine Kd.C_alloc ?_ _)|(with_reducible refine Kd.C_drewN ?_ _)|(with_reducible refine Kd.C_drew ?_)));(case side2=>exact (ζg HO_18.out).2.1);rintro e w95 ⟨rfl,hb⟩;refine ⟨_,rfl,?_⟩;have n0_:=ζa (ζh (by (with_reducible repeat (first|apply ζd|apply ζc|apply ζe));exact HO_18.out) hb);have n1_:=ζa (δr (by repeat (first|(with_reducible first|exact HB.out|apply δk|apply δi|apply δj)|exact HB.out)) hb);clear HO_18;clear HB;have HO_18:=n0_;have HB:=n1_;clear n0_ n1_;(try clear hb);(try clear hb2);(try clear hk);(try clear hi)))
                    go_ret
                    exact ⟨by first|rfl|(simp [errW_none,errW_some] <;> rfl)|(simp [*,errW_none,errW_some] <;> rfl),by repeat (first|(with_reducible first|exact HB.out|apply δk|apply δi|apply δj)|exact HB.out)⟩
                   ·
                    rw [if_neg c94] at H
                    have c94b0:(t490 == t478)=φ:=beq_eq_false_iff_ne.mpr c94
                    have c94b1:(t490 != t478)=τ:=bne_iff_ne.mpr c94
                    obtain rfl:=Option.some.inj H
                    go_wp2_with (first|((with_reducible refine δv (f:=20) rfl ?_);refine goesL_ (some 148) rfl rfl Tryz.func20 (by kernel_rfl) rfl #[.slice Ao72 t479.length co72,.int .i64 1] rfl (by (try simp only [δd,δe,δf]);first|done|rfl|(simp only [δg,δh];rfl)) ?_;(with_reducible refine (laws_heldPairS.calls kj70 _ _ t479 1 t490 _ ?side1 ?side2 A91.out).mono ?_);(case side1=>repeat (first|exact (ζg HO_18.out).2.2|(with_reducible refine Kd.C_alloc ?_ _)|(with_reducible refine Kd.C_drewN ?_ _)|(with_reducible refine Kd.C_drew ?_)));(case side2=>exact (ζg HO_18.out).2.1);rintro e w96 ⟨rfl,hb⟩;refine ⟨_,rfl,?_⟩;have n0_:=ζa (ζh (by (with_reducible repeat (first|apply ζd|apply ζc|apply ζe));exact HO_18.out) hb);have n1_:=ζa (δr (by repeat (first|(with_reducible first|exact HB.out|apply δk|apply δi|apply δj)|exact HB.out)) hb);clear HO_18;clear HB;have HO_18:=n0_;have HB:=n1_;clear n0_ n1_;(try clear hb);(try clear hb2);(try clear hk);(try clear hi)))
                    go_ret
                    exact ⟨by first|rfl|(simp [errW_none,errW_some] <;> rfl)|(simp [*,errW_none,errW_some] <;> rfl),by repeat (first|(with_reducible first|exact HB.out|apply δk|apply δi|apply δj)|exact HB.out)⟩
              ·
               rw [if_neg c68] at H
               have c68b0:(t480 == t478)=φ:=beq_eq_false_iff_ne.mpr c68
               have c68b1:(t480 != t478)=τ:=bne_iff_ne.mpr c68
               obtain rfl:=Option.some.inj H
               obtain ⟨Ao97,co97,eo97⟩:=Kd.R_slice HO_18.out
               subst eo97
               go_wp2_with (first|((with_reducible refine δv (f:=19) rfl ?_);refine goesL_ (some 111) rfl rfl Tryz.func19 (by kernel_rfl) rfl #[.slice Ao97 t465.length co97,.int .i64 1] rfl (by (try simp only [δd,δe,δf]);first|done|rfl|(simp only [δg,δh];rfl)) ?_;(with_reducible refine (laws_markPairS.calls kj42 (fun k_=>some k_=(.slice Ao97 t465.length co97:Value).ownBlock) (.slice Ao97 t465.length co97) t465 1 t478 t479 w _ ?side1 ?side2 A62.out).mono ?_);(case side1=>repeat (first|(with_reducible first|exact HB.out|apply δk|apply δi|apply δj)|exact HB.out));(case side2=>exact Kd.R_tight rfl HO_18.out);rintro e w98 ⟨rfl,hy0,hb,hkp⟩;refine ⟨_,rfl,?_⟩;have n0_:=ζa (Kd.R_mono (ok':=fun k_=>some k_≠(.slice Ao97 t465.length co97:Value).ownBlock) (Kd.R_keptB (HO_14.out) hkp (fun k_ hk_ hs_=>(hk_) hs_)) (fun k_ hk_=>hk_.1));have n1_:=ζa (Kd.R_reok rfl hy0 (fun k_ e_=>HO_18.out.1 k_ e_));have n2_:=ζa (hb);clear HO_14;clear HO_18;clear HB;have HO_14:=n0_;have HO_18:=n1_;have HB:=n2_;clear n0_ n1_ n2_;(try clear hb);(try clear hkp);(try clear hy0))|((with_reducible refine δv (f:=20) rfl ?_);refine goesL_ (some 114) rfl rfl Tryz.func20 (by kernel_rfl) rfl #[.slice Ao97 t479.length co97,.int .i64 1] rfl (by (try simp only [δd,δe,δf]);first|done|(rw [show t479.length=t465.length from (ζg HO_18.out).1.symm] <;> rfl)|rfl|(simp only [δg,δh];rfl)) ?_;(with_reducible refine (laws_heldPairS.calls kj42 _ _ t479 1 t480 _ ?side1 ?side2 A63.out).mono ?_);(case side1=>repeat (first|exact (ζg HO_18.out).2.2|(with_reducible refine Kd.C_alloc ?_ _)|(with_reducible refine Kd.C_drewN ?_ _)|(with_reducible refine Kd.C_drew ?_)));(case side2=>rw [show t479.length=t465.length from (ζg HO_18.out).1.symm];exact (ζg HO_18.out).2.1);rintro e w99 ⟨rfl,hb⟩;refine ⟨_,rfl,?_⟩;have n0_:=ζa (ζh (by (with_reducible repeat (first|apply ζd|apply ζc|apply ζe));exact HO_14.out) hb);have n1_:=ζa (ζh (by (with_reducible repeat (first|apply ζd|apply ζc|apply ζe));exact HO_18.out) hb);have n2_:=ζa (δr (by repeat (first|(with_reducible first|exact HB.out|apply δk|apply δi|apply δj)|exact HB.out)) hb);clear HO_14;clear HO_18;clear HB;have HO_14:=n0_;have HO_18:=n1_;have HB:=n2_;clear n0_ n1_ n2_;(try clear hb);(try clear hb2);(try clear hk);(try clear hi)))
               go_ret
               exact ⟨by first|rfl|(simp [errW_none,errW_some] <;> rfl)|(simp [*,errW_none,errW_some] <;> rfl),by repeat (first|(with_reducible first|exact HB.out|apply δk|apply δi|apply δj)|exact HB.out)⟩
         ·
          replace c41:=Bool.eq_false_iff.mpr c41
          subst c41
          have H1:(some φ)=some r:=by rw [if_neg (show ¬ (φ=τ) by decide)] at H;exact H
          clear H
          have H:=H1
          clear H1
          obtain rfl:=Option.some.inj H
          go_wp2_with (first|((with_reducible refine δv (f:=16) rfl ?_);refine goesL_ (some 85) rfl rfl Tryz.func16 (by kernel_rfl) rfl #[.slice A1 l1.length c1] rfl (by (try simp only [δd,δe,δf]);first|done|rfl|(simp only [δg,δh];rfl)) ?_;(with_reducible refine (laws_toPairS.calls kj17 _ _ l1 t471 _ ?side1 ?side2 A39.out).mono ?_);(case side1=>repeat (first|exact (Kd.C_below HR1.out HB.out)|(with_reducible refine Kd.C_alloc ?_ _)|(with_reducible refine Kd.C_drewN ?_ _)|(with_reducible refine Kd.C_drew ?_)));(case side2=>exact HC1.out);rintro e w100 ⟨v472,rfl,ho0,hb⟩;refine ⟨_,rfl,?_⟩;have n0_:=ζa (Kd.R_elder' (by (with_reducible repeat (first|apply ζd|apply ζc|apply ζe));exact HO_14.out) (Kd.R_base ho0) hb);have n1_:=ζa (Kd.R_elder' (by (with_reducible repeat (first|apply ζd|apply ζc|apply ζe));exact HO_17.out) (Kd.R_base ho0) hb);have n2_:=ζa (Kd.R_elder' (by (with_reducible repeat (first|apply ζd|apply ζc|apply ζe));exact HO_18.out) (Kd.R_base ho0) hb);have n3_:=ζa (Kd.R_lower (Kd.R_new' (Kd.R_new' (Kd.R_new' ho0 (Kd.R_lt (by (with_reducible repeat (first|apply ζd|apply ζc|apply ζe));exact HO_14.out))) (Kd.R_lt (by (with_reducible repeat (first|apply ζd|apply ζc|apply ζe));exact HO_17.out))) (Kd.R_lt (by (with_reducible repeat (first|apply ζd|apply ζc|apply ζe));exact HO_18.out))) (δs (by repeat (first|(with_reducible first|exact HB.out|apply δk|apply δi|apply δj)|exact HB.out))));have n4_:=ζa (δr (by repeat (first|(with_reducible first|exact HB.out|apply δk|apply δi|apply δj)|exact HB.out)) hb);clear HO_14;clear HO_17;clear HO_18;clear HB;have HO_14:=n0_;have HO_17:=n1_;have HO_18:=n2_;have HO473:=n3_;have HB:=n4_;clear n0_ n1_ n2_ n3_ n4_;(try clear hb);(try clear hb2);(try clear hk);(try clear hi);(try clear ho0);obtain ⟨Ao101,co101,eo101⟩:=Kd.R_slice HO473.out;subst eo101)|((with_reducible refine δv (f:=18) rfl ?_);refine goesL_ (some 86) rfl rfl Tryz.func18 (by kernel_rfl) rfl #[.slice Ao24 t462.length co24,.slice Ao101 t471.length co101] rfl (by (try simp only [δd,δe,δf]);first|done|rfl|(simp only [δg,δh];rfl)) ?_;(with_reducible refine (laws_eqPairS.calls kj17 _ _ t462 _ _ t471 φ _ ?side1 ?side2 ?side3 ?side4 A40.out).mono ?_);(case side1=>repeat (first|exact (ζg HO_17.out).2.2|(with_reducible refine Kd.C_alloc ?_ _)|(with_reducible refine Kd.C_drewN ?_ _)|(with_reducible refine Kd.C_drew ?_)));(case side2=>exact (ζg HO_17.out).2.1);(case side3=>repeat (first|exact (ζg HO473.out).2.2|(with_reducible refine Kd.C_alloc ?_ _)|(with_reducible refine Kd.C_drewN ?_ _)|(with_reducible refine Kd.C_drew ?_)));(case side4=>exact (ζg HO473.out).2.1);rintro e w102 ⟨rfl,hb⟩;refine ⟨_,rfl,?_⟩;have n0_:=ζa (ζh (by (with_reducible repeat (first|apply ζd|apply ζc|apply ζe));exact HO_14.out) hb);have n1_:=ζa (ζh (by (with_reducible repeat (first|apply ζd|apply ζc|apply ζe));exact HO_17.out) hb);have n2_:=ζa (ζh (by (with_reducible repeat (first|apply ζd|apply ζc|apply ζe));exact HO_18.out) hb);have n3_:=ζa (ζh (by (with_reducible repeat (first|apply ζd|apply ζc|apply ζe));exact HO473.out) hb);have n4_:=ζa (δr (by repeat (first|(with_reducible first|exact HB.out|apply δk|apply δi|apply δj)|exact HB.out)) hb);clear HO_14;clear HO_17;clear HO_18;clear HO473;clear HB;have HO_14:=n0_;have HO_17:=n1_;have HO_18:=n2_;have HO473:=n3_;have HB:=n4_;clear n0_ n1_ n2_ n3_ n4_;(try clear hb);(try clear hb2);(try clear hk);(try clear hi)))
          go_ret
          exact ⟨by first|rfl|(simp [errW_none,errW_some] <;> rfl)|(simp [*,errW_none,errW_some] <;> rfl),by repeat (first|(with_reducible first|exact HB.out|apply δk|apply δi|apply δj)|exact HB.out)⟩

end Go.Proofs.YtabmfhnhmoiljaaGreatDoor.Q

/- Plain arithmetic: products of two amounts in halves of nine digits; long division digit by digit. No program. -/
namespace Go.Proofs.YtabmfhnhmoiljaaGreatDoor.U
open Go Go.RowKit
set_option linter.unusedVariables false
set_option linter.unusedSimpArgs false

theorem wid {n : Int} (h0 : -9223372036854775808 ≤ n) (h1 : n ≤ 9223372036854775807) : wrap64 n = n := IntWalk.wrap64_in n ⟨h0, h1⟩
theorem tdiv_nn {a b : Int} (h : 0 ≤ a) : Int.tdiv a b = a / b := Int.tdiv_eq_ediv_of_nonneg h
theorem tmod_nn {a b : Int} (h : 0 ≤ a) : Int.tmod a b = a % b := Int.tmod_eq_emod_of_nonneg h
theorem u64w (n : Int) : IntKind.u64.wrap n = n % 18446744073709551616 := by simp [IntKind.wrap, IntKind.bits, IntKind.signed]
theorem u64id {n : Int} (h0 : 0 ≤ n) (h1 : n < 18446744073709551616) : IntKind.u64.wrap n = n := by rw [u64w]; exact Int.emod_eq_of_lt h0 h1

theorem mul_bd {x y X Y : Int} (hx : 0 ≤ x) (hx' : x ≤ X) (hy : 0 ≤ y) (hy' : y ≤ Y) : 0 ≤ x * y ∧ x * y ≤ X * Y :=
  ⟨Int.mul_nonneg hx hy, Int.mul_le_mul hx' hy' hy (Int.le_trans hx hx')⟩

theorem wide_eq (a b : Int) (ha : 0 ≤ a) (ha' : a ≤ 1000000000000000000) (hb : 0 ≤ b) (hb' : b ≤ 1000000000000000000) :
    a * b = (a / 1000000000) * (b / 1000000000) * 1000000000000000000 + ((a / 1000000000) * (b % 1000000000) + (a % 1000000000) * (b / 1000000000)) * 1000000000 + (a % 1000000000) * (b % 1000000000) := by
  have e1 : a = (a / 1000000000) * 1000000000 + a % 1000000000 := by omega
  have e2 : b = (b / 1000000000) * 1000000000 + b % 1000000000 := by omega
  generalize a / 1000000000 = x at *
  generalize a % 1000000000 = y at *
  generalize b / 1000000000 = z at *
  generalize b % 1000000000 = u at *
  subst e1 e2
  grind

/-- One digit more of a long division. -/
theorem digit_step (c T out rest low : Int) (hc : 1 ≤ c) (hT : 1 ≤ T) (hr : 0 ≤ rest) (hl : 0 ≤ low) :
    (out * 10 + (10 * rest + low / T % 10) / c) * T + ((10 * rest + low / T % 10) % c * T + low % T) / c = out * (10 * T) + (rest * (10 * T) + low % (10 * T)) / c := by
  have e1 : low % (10 * T) = low / T % 10 * T + low % T := by
    have h1 : low / (10 * T) = low / T / 10 := by rw [Int.mul_comm, Int.ediv_ediv_of_nonneg (by omega)]
    have h2 := Int.mul_ediv_add_emod low (10 * T)
    have h3 := Int.mul_ediv_add_emod low T
    have h4 := Int.mul_ediv_add_emod (low / T) 10
    rw [h1] at h2
    generalize low / T / 10 = p at *
    generalize low / T % 10 = d at *
    generalize low / T = m at *
    subst h4
    generalize low % T = e at *
    generalize low % (10 * T) = f at *
    grind
  have h5 := Int.mul_ediv_add_emod (10 * rest + low / T % 10) c
  generalize low / T % 10 = d at *
  generalize (10 * rest + d) / c = q at *
  generalize (10 * rest + d) % c = s at *
  have e2 : rest * (10 * T) + low % (10 * T) = c * (q * T) + (s * T + low % T) := by
    rw [e1]
    generalize low % T = e at *
    grind
  rw [e2, Int.mul_add_ediv_left _ _ (by omega)]
  grind

/-- Knuth's step: a digit that is guessed too great is told by the lower half. -/
theorem knuth_lower (Y yn1 yn0 u v q : Int) (hY : Y = yn1 * 4294967296 + yn0) (h0 : 0 ≤ yn0) (hv : 0 ≤ v) (hv' : v < 4294967296) (hq : 0 ≤ q) (h : q * Y ≤ u * 4294967296 + v) : q * yn1 ≤ u := by
  have h1 : q * Y = q * yn1 * 4294967296 + q * yn0 := by subst hY; grind
  have h2 : 0 ≤ q * yn0 := Int.mul_nonneg hq h0
  omega

end Go.Proofs.YtabmfhnhmoiljaaGreatDoor.U

/- A number's digits: the reference's are the library's. -/
namespace Go.Proofs.YtabmfhnhmoiljaaGreatDoor.U
open Go Go.RowKit Go.Proofs.YtabmfhnhmoiljaaGreatDoor.Q Go.Proofs.YtabmfhnhmoiljaaGreatDoorW.PrintWords Go.Proofs.YtabmfhnhmoiljaaGreatDoorW.PrintLast Go.Proofs.YtabmfhnhmoiljaaGreatDoorW.PrintMore
set_option linter.unusedVariables false
set_option linter.unusedSimpArgs false

def digV (u : Nat) : ByteArray := ⟨(Lib.decDigits u).toArray⟩
theorem one_digit (u : Nat) (h : u < 10) : strOfNums [(wrap64 (48 + (u : Int))) % 256] = ⟨#[UInt8.ofNat (48 + u)]⟩ := by
  rw [wid (by omega) (by omega)]
  have : ((48 + (u : Int)) % 256) = ((48 + u : Nat) : Int) := by omega
  rw [this]
  rfl
theorem digits_ev (u : Nat) (hu : u ≤ 1000000000000000000) : Ev (fun k => spec_l00Digits.f k (u : Int)) (digV u) := by
  induction u using Nat.strongRecOn with
  | _ u ih =>
    by_cases h : u < 10
    · refine Ev.step (fun k => ?_) (Ev.now _)
      rw [spec_l00Digits.f, if_neg (by omega), if_neg (by omega), if_pos (by omega), one_digit u h, digV, Lib.decDigits_one h]
    · have e1 : wrap64 (Int.tdiv (u : Int) 10) = ((u / 10 : Nat) : Int) := by rw [tdiv_nn (by omega), wid (by omega) (by omega)]; omega
      have e2 : Int.tmod (u : Int) 10 = ((u % 10 : Nat) : Int) := by rw [tmod_nn (by omega)]; omega
      have hs : (digV (u / 10)).size ≤ u := by
        show (Lib.decDigits (u / 10)).toArray.size ≤ u
        rw [List.size_toArray, Lib.decDigits_length]
        have hn : ∀ v : Nat, 1 ≤ v → Lib.nDigits v ≤ v := by
          intro v
          induction v using Nat.strongRecOn with
          | _ v ihv =>
            intro h1
            rw [Lib.nDigits]
            split
            · exact h1
            · have := ihv (v / 10) (by omega) (by omega); omega
        have := hn (u / 10) (by omega)
        omega
      refine Ev.step (f := fun k => (spec_l00Digits.f k ((u / 10 : Nat) : Int)).bind fun t => if t.size + 1 ≤ 9223372036854775807 then some (t ++ (⟨#[UInt8.ofNat (48 + u % 10)]⟩ : ByteArray)) else none) (fun k => ?_) ?_
      · rw [spec_l00Digits.f, if_neg (by omega), if_neg (by omega), if_neg (by omega), e1, e2]
        simp only [Option.bind_some, one_digit (u % 10) (by omega)]
        rfl
      · refine Ev.bind (ih (u / 10) (by omega) (by omega)) ?_
        simp only [if_pos (show (digV (u / 10)).size + 1 ≤ 9223372036854775807 by omega)]
        have : digV (u / 10) ++ (⟨#[UInt8.ofNat (48 + u % 10)]⟩ : ByteArray) = digV u := by
          unfold digV
          conv => rhs; rw [Lib.decDigits, dif_neg h]
          apply ByteArray.ext
          simp
        rw [this]
        exact Ev.now _
theorem itoa_eq (n : Int) (h : 0 ≤ n) : (⟨(Lib.itoa n).toArray⟩ : ByteArray) = digV n.toNat := by
  unfold Lib.itoa digV
  rw [if_neg (by omega)]
end Go.Proofs.YtabmfhnhmoiljaaGreatDoor.U

/- Amounts: the number that a text tells, as the program and as the reference read it. -/
namespace Go.Proofs.YtabmfhnhmoiljaaGreatDoor.U
open Go Go.RowKit Go.Proofs.YtabmfhnhmoiljaaGreatDoor.Q Go.Proofs.YtabmfhnhmoiljaaGreatDoorW.PrintWords Go.Proofs.YtabmfhnhmoiljaaGreatDoorW.PrintLast Go.Proofs.YtabmfhnhmoiljaaGreatDoorW.PrintMore
set_option linter.unusedVariables false
set_option linter.unusedSimpArgs false

theorem nd_small (j v : Nat) (h : v < 10 ^ (j + 1)) : Lib.nDigits v ≤ j + 1 := by
  induction j generalizing v with
  | zero => rw [Lib.nDigits, dif_pos (by simpa using h)]; omega
  | succ j ih =>
    rw [Lib.nDigits]
    split
    · omega
    · have := ih (v / 10) (by rw [Nat.pow_succ] at h; omega); omega
theorem digV_size (v : Nat) (h : v ≤ 1000000000000000000) : (digV v).size ≤ 19 := by
  show (Lib.decDigits v).toArray.size ≤ 19
  rw [List.size_toArray, Lib.decDigits_length]
  exact nd_small 18 v (by omega)
theorem dec_big {v : Nat} (h : ¬ v < 10) : Lib.decDigits v = Lib.decDigits (v / 10) ++ [UInt8.ofNat (48 + v % 10)] := by
  conv => lhs; rw [Lib.decDigits, dif_neg h]
theorem chr_nat (d : Nat) (h : d < 10) : (UInt8.ofNat (48 + d)).toNat = 48 + d := by
  rw [UInt8.toNat_ofNat']; omega

/-- Digits, one behind the other, onto what those ahead tell. -/
def telD (x : Nat) : List UInt8 → Option Nat
  | [] => some x
  | c :: r => if c.toNat < 48 ∨ 57 < c.toNat then none else if (1000000000000000000 - (c.toNat - 48)) / 10 < x then none else telD (x * 10 + (c.toNat - 48)) r
theorem telD_append (l r : List UInt8) : ∀ x, telD x (l ++ r) = (telD x l).bind fun y => telD y r := by
  induction l with
  | nil => intro x; rfl
  | cons c l ih =>
    intro x
    simp only [List.cons_append, telD]
    split
    · rfl
    · split
      · rfl
      · exact ih _
theorem telD_one (x d : Nat) (hd : d < 10) (h : x * 10 + d ≤ 1000000000000000000) : telD x [UInt8.ofNat (48 + d)] = some (x * 10 + d) := by
  simp only [telD, chr_nat d hd]
  rw [if_neg (by omega), if_neg (by omega)]
  congr 1; omega
theorem telD_dec (v : Nat) (h : v ≤ 1000000000000000000) : telD 0 (Lib.decDigits v) = some v := by
  induction v using Nat.strongRecOn with
  | _ v ih =>
    by_cases hv : v < 10
    · rw [Lib.decDigits_one hv, telD_one 0 v hv (by omega)]; congr 1; omega
    · rw [dec_big hv, telD_append, ih (v / 10) (by omega) (by omega)]
      show telD (v / 10) _ = _
      rw [telD_one _ _ (by omega) (by omega)]; congr 1; omega
/-- No needless naught ahead. -/
def plainB (l : List UInt8) : Bool := decide (l ≠ []) && (decide (l.length = 1) || decide (l.head? ≠ some 48))
theorem snoc_cases {α : Type} (l : List α) : l = [] ∨ ∃ (i : List α) (c : α), l = i ++ [c] := by
  rcases List.eq_nil_or_concat l with h | ⟨i, c, h⟩
  · exact .inl h
  · exact .inr ⟨i, c, by rw [h, List.concat_eq_append]⟩
theorem telD_snoc {l : List UInt8} {c : UInt8} {n : Nat} (h : telD 0 (l ++ [c]) = some n) :
    ∃ m, telD 0 l = some m ∧ 48 ≤ c.toNat ∧ c.toNat ≤ 57 ∧ n = m * 10 + (c.toNat - 48) ∧ n ≤ 1000000000000000000 := by
  rw [telD_append] at h
  obtain ⟨m, h1, h2⟩ := Option.bind_eq_some_iff.mp h
  refine ⟨m, h1, ?_⟩
  simp only [telD] at h2
  split at h2
  · cases h2
  · split at h2
    · cases h2
    · injection h2 with h2
      omega
theorem dec_of_telD (k : Nat) : ∀ (l : List UInt8) (n : Nat), l.length = k → plainB l = true → telD 0 l = some n → l = Lib.decDigits n ∧ n ≤ 1000000000000000000 := by
  induction k with
  | zero =>
    intro l n hl hp h
    have : l = [] := List.length_eq_zero_iff.1 hl
    subst this
    simp [plainB] at hp
  | succ k ih =>
    intro l n hl hp h
    rcases snoc_cases l with rfl | ⟨i, c, rfl⟩
    · simp at hl
    obtain ⟨m, h1, h2, h3, h4, h5⟩ := telD_snoc h
    refine ⟨?_, h5⟩
    by_cases hi : i = []
    · subst hi
      simp only [telD, Option.some.injEq] at h1
      subst h1
      rw [Lib.decDigits_one (by omega), h4]
      simp only [List.nil_append, List.cons.injEq, and_true]
      apply UInt8.toNat_inj.1
      rw [chr_nat _ (by omega)]; omega
    · have hne : i.head? ≠ some 48 := by
        simp only [plainB, Bool.and_eq_true, Bool.or_eq_true, decide_eq_true_iff] at hp
        rcases hp.2 with hp | hp
        · rw [List.length_append, List.length_singleton] at hp
          exact absurd (List.length_eq_zero_iff.1 (by omega)) hi
        · cases i with
          | nil => exact absurd rfl hi
          | cons a i => simpa using hp
      obtain ⟨e, _⟩ := ih i m (by rw [List.length_append, List.length_singleton] at hl; omega) (by simp only [plainB, Bool.and_eq_true, Bool.or_eq_true, decide_eq_true_iff]; exact ⟨hi, .inr hne⟩) h1
      have hm : m ≠ 0 := by
        rintro rfl
        rw [e, Lib.decDigits_one (by omega)] at hne
        exact hne rfl
      rw [dec_big (v := n) (by omega)]
      have e1 : n / 10 = m := by omega
      have e2 : n % 10 = c.toNat - 48 := by omega
      rw [e1, e2, ← e]
      congr 2
      apply UInt8.toNat_inj.1
      rw [chr_nat _ (by omega)]; omega
theorem dec_head (v : Nat) : ∃ d r, d < 10 ∧ Lib.decDigits v = UInt8.ofNat (48 + d) :: r := by
  induction v using Nat.strongRecOn with
  | _ v ih =>
    by_cases hv : v < 10
    · exact ⟨v, [], hv, Lib.decDigits_one hv⟩
    · obtain ⟨d, r, hd, e⟩ := ih (v / 10) (by omega)
      exact ⟨d, r ++ [UInt8.ofNat (48 + v % 10)], hd, by rw [dec_big hv, e]; rfl⟩
theorem dec_plain (v : Nat) : plainB (Lib.decDigits v) = true := by
  have hne : Lib.decDigits v ≠ [] := fun e => by
    have h := Lib.decDigits_length v
    rw [e] at h
    have := Lib.nDigits_pos v
    simp at h; omega
  have hd : Lib.nDigits v = 1 ∨ (Lib.decDigits v).head? ≠ some 48 := by
    induction v using Nat.strongRecOn with
    | _ v ih =>
      by_cases hv : v < 10
      · exact .inl (Lib.nDigits_small hv)
      · right
        obtain ⟨d, r, hd, e⟩ := dec_head (v / 10)
        by_cases hv2 : v / 10 < 10
        · rw [dec_big hv, Lib.decDigits_one hv2]
          simp only [List.cons_append, List.head?_cons, ne_eq, Option.some.injEq]
          intro e
          have := congrArg UInt8.toNat e
          rw [chr_nat _ hv2] at this
          have e48 : (48 : UInt8).toNat = 48 := rfl
          omega
        · rcases ih (v / 10) (by omega) (by rw [e]; simp) with h | h
          · rw [Lib.nDigits_big hv2] at h
            have := Lib.nDigits_pos (v / 10 / 10)
            omega
          · rw [e] at h
            rw [dec_big hv, e]
            exact h
  simp only [plainB, Bool.and_eq_true, Bool.or_eq_true, decide_eq_true_iff]
  refine ⟨hne, ?_⟩
  rcases hd with h | h
  · left; rw [Lib.decDigits_length, h]
  · exact .inr h
/-- The amount of a text, where it tells one. -/
def amtO (a : ByteArray) : Option Nat := if plainB a.data.toList = true then telD 0 a.data.toList else none
theorem amtO_iff (a : ByteArray) (n : Nat) : amtO a = some n ↔ a = digV n ∧ n ≤ 1000000000000000000 := by
  unfold amtO
  constructor
  · intro h
    split at h
    · rename_i hp
      obtain ⟨e, hn⟩ := dec_of_telD _ _ n rfl hp h
      refine ⟨?_, hn⟩
      apply ByteArray.ext
      apply Array.toList_inj.mp
      rw [e]
      rfl
    · cases h
  · rintro ⟨rfl, hn⟩
    have e : (digV n).data.toList = Lib.decDigits n := rfl
    rw [e, if_pos (dec_plain n)]
    exact telD_dec n hn
def amtV (a : ByteArray) : Int := match amtO a with | some n => (n : Int) | none => -1
theorem amtV_digV (n : Nat) (h : n ≤ 1000000000000000000) : amtV (digV n) = n := by
  unfold amtV
  rw [(amtO_iff _ n).2 ⟨rfl, h⟩]
theorem amtV_eq {a : ByteArray} (h : 0 ≤ amtV a) : a = digV (amtV a).toNat ∧ amtV a ≤ 1000000000000000000 := by
  unfold amtV at *
  cases e : amtO a with
  | none => rw [e] at h; simp at h
  | some n =>
    obtain ⟨h1, h2⟩ := (amtO_iff a n).1 e
    exact ⟨by simpa using h1, by simp only; omega⟩
theorem amtV_low (a : ByteArray) : -1 ≤ amtV a := by
  unfold amtV
  split <;> omega

/-! ### the program's -/
theorem parse_append (l r : List UInt8) : ∀ x, Lib.parseUint10 x (l ++ r) = match Lib.parseUint10 x l with | .ok u => Lib.parseUint10 u r | .syntax => .syntax | .range => .range := by
  induction l with
  | nil => intro x; rfl
  | cons c l ih =>
    intro x
    simp only [List.cons_append, Lib.parseUint10]
    split
    · split
      · rfl
      · split
        · rfl
        · exact ih _
    · rfl
theorem parse_one (x d : Nat) (hd : d < 10) (h : x * 10 + d < 9223372036854775808) : Lib.parseUint10 x [UInt8.ofNat (48 + d)] = .ok (x * 10 + d) := by
  simp only [Lib.parseUint10, chr_nat d hd]
  rw [if_pos (by omega), if_neg (by omega), if_neg (by omega)]
  congr 1; omega
theorem parse_dec (v : Nat) (h : v < 9223372036854775808) : Lib.parseUint10 0 (Lib.decDigits v) = .ok v := by
  induction v using Nat.strongRecOn with
  | _ v ih =>
    by_cases hv : v < 10
    · rw [Lib.decDigits_one hv, parse_one 0 v hv (by omega)]; congr 1; omega
    · rw [dec_big hv, parse_append, ih (v / 10) (by omega) (by omega)]
      show Lib.parseUint10 (v / 10) _ = _
      rw [parse_one _ _ (by omega) (by omega)]; congr 1; omega
theorem atoi_dec (v : Nat) (h : v < 9223372036854775808) : Lib.atoiAll (Lib.decDigits v) = .ok (v : Int) := by
  obtain ⟨d, r, hd, e⟩ := dec_head v
  have h1 := parse_dec v h
  rw [e] at h1 ⊢
  rw [Lib.atoiAll_plain _ _ (by rw [chr_nat d hd]; omega) (by rw [chr_nat d hd]; omega)]
  unfold Lib.parseMag
  rw [if_neg (by simp), h1]
  simp only [Lib.signless]
  rw [if_neg (by omega)]
theorem toList_eq_iff (a b : ByteArray) : a.toList = b.toList ↔ a = b := by
  constructor
  · intro h
    rw [ByteArray.toList_eq, ByteArray.toList_eq] at h
    exact ByteArray.ext (Array.toList_inj.mp h)
  · rintro rfl; rfl
theorem readAmount_eq (a : ByteArray) (hs : a.size ≤ 281474976710656) : impl_readAmount.f a = some (if 0 ≤ amtV a then (amtV a, true) else (0, false)) := by
  unfold impl_readAmount.f
  rw [if_pos hs]
  by_cases h : 0 ≤ amtV a
  · obtain ⟨e, hn⟩ := amtV_eq h
    rw [if_pos h]
    generalize amtV a = n at *
    have e1 : Lib.atoiAll a.data.toList = .ok n := by
      have := atoi_dec n.toNat (by omega)
      rw [e]
      rw [show ((n.toNat : Nat) : Int) = n by omega] at this
      exact this
    rw [e1]
    simp only [if_pos h, if_pos hn]
    rw [itoa_eq n h, ← e, if_pos rfl]
  · rw [if_neg h]
    cases hh : Lib.atoiAll a.data.toList with
    | «syntax» => rfl
    | range => rfl
    | ok v =>
      simp only
      by_cases h0 : 0 ≤ v
      · rw [if_pos h0]
        by_cases h1 : v ≤ 1000000000000000000
        · rw [if_pos h1, itoa_eq v h0]
          by_cases h2 : (digV v.toNat).toList = a.toList
          · exfalso
            have e := (toList_eq_iff _ _).1 h2
            apply h
            rw [← e, amtV_digV _ (by omega)]
            omega
          · rw [if_neg h2]
        · rw [if_neg h1]
      · rw [if_neg h0]

/-! ### the reference's -/
theorem bt_get (a : ByteArray) (i : Nat) (h : i < a.size) : bt a (i : Int) = ((a.data.toList[i]'(by rw [Array.length_toList]; exact h)).toNat : Int) := by
  unfold bt
  rw [dif_pos (by simpa using h)]
  simp
  rfl
def telI (x : Nat) (l : List UInt8) : Int := match telD x l with | some n => (n : Int) | none => -1
theorem l02Of_go (a : ByteArray) (hs : a.size ≤ 19) : ∀ (d i x : Nat), i + d = a.size → x ≤ 1000000000000000000 → Ev (fun k => spec_l02Of.l0 k a (x : Int) (i : Int)) (telI x (a.data.toList.drop i)) := by
  intro d
  induction d with
  | zero =>
    intro i x hi hx
    refine Ev.step (fun k => ?_) (Ev.now _)
    rw [spec_l02Of.l0, if_neg (by omega), List.drop_of_length_le (by rw [Array.length_toList]; show a.size ≤ i; omega)]
    rfl
  | succ d ih =>
    intro i x hi hx
    have hlt : i < a.size := by omega
    have hb := bt_get a i hlt
    have hl : i < a.data.toList.length := by rw [Array.length_toList]; exact hlt
    rw [List.drop_eq_getElem_cons hl]
    generalize a.data.toList[i] = c at *
    have hc := UInt8.toNat_lt c
    unfold telI
    simp only [telD]
    by_cases h1 : c.toNat < 48 ∨ 57 < c.toNat
    · rw [if_pos h1]
      refine Ev.step (f := fun k => spec_l02Of.j2 k a (x : Int) (i : Int) true) (fun k => ?_) (Ev.step (fun k => by rw [spec_l02Of.j2, if_pos rfl]) (Ev.now _))
      rw [spec_l02Of.l0, if_pos (by omega), if_pos (by omega), hb]
      by_cases h2 : c.toNat < 48
      · rw [if_pos (by omega)]
      · rw [if_neg (by omega), decide_eq_true (by omega)]
    · rw [if_neg h1]
      refine Ev.step (f := fun k => spec_l02Of.j2 k a (x : Int) (i : Int) false) (fun k => ?_) ?_
      · rw [spec_l02Of.l0, if_pos (by omega), if_pos (by omega), hb, if_neg (by omega), decide_eq_false (by omega)]
      · have e1 : ((c.toNat : Int) - 48) % 256 = ((c.toNat - 48 : Nat) : Int) := by omega
        by_cases h3 : (1000000000000000000 - (c.toNat - 48)) / 10 < x
        · rw [if_pos h3]
          refine Ev.step (fun k => ?_) (Ev.now _)
          rw [spec_l02Of.j2, if_neg (by decide), if_pos (by omega), if_pos (by omega), hb, e1, if_pos (by omega)]
        · rw [if_neg h3]
          have := ih (i + 1) (x * 10 + (c.toNat - 48)) (by omega) (by omega)
          refine Ev.step (fun k => ?_) this
          rw [spec_l02Of.j2, if_neg (by decide), if_pos (by omega), if_pos (by omega), hb, e1, if_neg (by omega), wid (n := (x : Int) * 10) (by omega) (by omega), wid (n := (x : Int) * 10 + _) (by omega) (by omega), wid (n := (i : Int) + 1) (by omega) (by omega)]
          rfl
theorem l02Of_ev (a : ByteArray) (hs : a.size ≤ 9223372036854775807) : Ev (fun k => spec_l02Of.f k a) (amtV a) := by
  have hbad : amtV a = -1 → Ev (fun k => spec_l02Of.j0 k a true) (amtV a) := fun e => by
    rw [e]; exact Ev.step (fun k => by rw [spec_l02Of.j0, if_pos rfl]) (Ev.now _)
  have hln : a.data.toList.length = a.size := by rw [Array.length_toList]; rfl
  have hbig : 19 < a.size → amtV a = -1 := fun h => by
    by_cases h0 : 0 ≤ amtV a
    · obtain ⟨e, hn⟩ := amtV_eq h0
      have := digV_size (amtV a).toNat (by omega)
      rw [← e] at this
      omega
    · have := amtV_low a; omega
  have hgo : Ev (fun k => spec_l02Of.l0 k a 0 0) (telI 0 a.data.toList) ∨ 19 < a.size := by
    by_cases h : 19 < a.size
    · exact .inr h
    · exact .inl (by have := l02Of_go a (by omega) a.size 0 0 (by omega) (by omega); simpa using this)
  unfold spec_l02Of.f spec_l01In.f
  by_cases h1 : (a.size : Int) ≥ 1
  · simp only [if_pos h1, Option.bind_some]
    by_cases h2 : (a.size : Int) ≤ 19
    · simp only [decide_eq_true h2, if_true]
      have hg : Ev (fun k => spec_l02Of.l0 k a 0 0) (telI 0 a.data.toList) := by
        rcases hgo with h | h
        · exact h
        · omega
      by_cases h3 : (a.size : Int) > 1
      · simp only [if_pos h3, if_pos (show (0 : Int) < (a.size : Int) by omega)]
        have hb := bt_get a 0 (by omega)
        have hh : a.data.toList.head? = some (a.data.toList[0]'(by omega)) := by rw [List.head?_eq_getElem?, List.getElem?_eq_getElem]
        by_cases h4 : a.data.toList[0]'(by omega) = 48
        · have e : (bt a 0 == 48) = true := by rw [beq_iff_eq]; have := hb; rw [h4] at this; exact this
          simp only [e]
          refine hbad ?_
          unfold amtV amtO
          rw [if_neg]
          simp only [plainB, Bool.and_eq_true, Bool.or_eq_true, decide_eq_true_iff, hh, h4]
          rintro ⟨_, h | h⟩
          · omega
          · exact h rfl
        · have e : (bt a 0 == 48) = false := by
            rw [beq_eq_false_iff_ne]
            intro h5
            apply h4
            apply UInt8.toNat_inj.1
            have e48 : (48 : UInt8).toNat = 48 := rfl
            have := hb.symm.trans h5
            omega
          simp only [e]
          refine Ev.step (fun k => by rw [spec_l02Of.j0, if_neg (by decide)]) ?_
          have e2 : amtV a = telI 0 a.data.toList := by
            unfold amtV amtO telI
            rw [if_pos]
            simp only [plainB, Bool.and_eq_true, Bool.or_eq_true, decide_eq_true_iff, hh]
            refine ⟨fun e0 => ?_, .inr (fun e0 => h4 (Option.some.inj e0))⟩
            rw [e0] at hln; simp at hln; omega
          rw [e2]
          exact hg
      · simp only [if_neg h3]
        refine Ev.step (fun k => by rw [spec_l02Of.j0, if_neg (by decide)]) ?_
        have e2 : amtV a = telI 0 a.data.toList := by
          unfold amtV amtO telI
          rw [if_pos]
          simp only [plainB, Bool.and_eq_true, Bool.or_eq_true, decide_eq_true_iff]
          refine ⟨fun e0 => ?_, .inl (by omega)⟩
          rw [e0] at hln; simp at hln; omega
        rw [e2]
        exact hg
    · simp only [decide_eq_false h2, Bool.false_eq_true, if_false]
      exact hbad (hbig (by omega))
  · simp only [if_neg h1, Option.bind_some, Bool.false_eq_true, if_false]
    refine hbad ?_
    unfold amtV amtO
    have : a.data.toList = [] := List.length_eq_zero_iff.1 (by omega)
    rw [this]
    rfl
end Go.Proofs.YtabmfhnhmoiljaaGreatDoor.U

namespace Go.Proofs.YtabmfhnhmoiljaaGreatDoor.Q
open Go.RowKit Go.Proofs.YtabmfhnhmoiljaaGreatDoorW.PrintWords Go.Proofs.YtabmfhnhmoiljaaGreatDoorW.PrintLast Go.Proofs.YtabmfhnhmoiljaaGreatDoorW.PrintMore
open Go.Proofs.YtabmfhnhmoiljaaGreatDoorW.PrintWords.Aside0 renaming mk → ζa
open Go.Proofs.YtabmfhnhmoiljaaGreatDoorW.PrintWords renaming gate_callee → δv, below_alloc → δk, pw_below_drewN → δi, below_drew1 → δj, below_step → δr
open List renaming map_toArray → δd, map_cons → δe, map_nil → δf, length_drop → δg, length_take → δh
open Bool renaming true → τ, false → φ
attribute [local go_sem] max2_int min2_int max_two min_two max_three min_three max_four min_four   -- for this text's walks alone
set_option linter.unusedVariables false
set_option linter.unusedSimpArgs false

/-! ### impl_storeCode: function 62 -/
def impl_storeCode.j0:Nat→List (S51)→Bool→Option (Int)
 | 0,_,_=>none
 | k+1,x0,x5=>if x5=τ then (some 2) else ((impl_StoreOK.f k x0).bind fun t720=>(if t720=τ then (some 0) else (some 1)))
def impl_storeCode.f (k:Nat) (l0:List (S51)) (l1:List ByteArray):Option (Int):=(impl_isList_impl_Pair.f l0).bind fun t718=>(if t718=τ then ((impl_isText.f l1).bind fun t719=>(impl_storeCode.j0 k l0 (!t719))) else (impl_storeCode.j0 k l0 τ))
set_option maxHeartbeats 8000000 in
set_option maxRecDepth 100000 in
theorem impl_storeCode.calls (k:Nat) (A0:Option Addr) (c0:Nat) (l0:List (S51)) (A1:Option Addr) (c1:Nat) (l1:List ByteArray) (r:Int) (w:World) (hr0:Kd.C k51 w A0 l0.length l0) (hc0:l0.length≤c0) (hr1:Kd.C Kd.string w A1 l1.length l1) (hc1:l1.length≤c1) (h:impl_storeCode.f k l0 l1=some r) :
  Calls Tryz.prog 62 #[.slice A0 l0.length c0,.slice A1 l1.length c1] w fun e w'=>e = .returned (.int .i64 r)∧Below w.heap.size w w':=by
 have HR0:=ζa hr0
 have HC0:=ζa hc0
 clear hr0 hc0
 have HR1:=ζa hr1
 have HC1:=ζa hc1
 clear hr1 hc1
 have HB:=ζa (Below.refl w.heap.size w)
 have H:((impl_isList_impl_Pair.f l0).bind fun t718=>(if t718=τ then ((impl_isText.f l1).bind fun t719=>(impl_storeCode.j0 k l0 (!t719))) else (impl_storeCode.j0 k l0 τ)))=some r:=h
 clear h
 have HC3:=ζa H
 clear H
 go_enter Tryz.func62,Tryz.ntmps62
 go_upto_region 1 with (fail)
 go_cut [5] (fun v5 wc => ∃ (kq:Nat) (x5_2:Bool),v5 = .bool x5_2∧Aside0 (impl_storeCode.j0 kq l0 x5_2=some r)∧Aside0 (kq≤k)∧Aside0 (Below w.heap.size w wc))
 case first =>
  have H:=HC3.out
  clear HC3
  replace H:=Option.bind_eq_some_iff.mp H
  obtain ⟨t718,A40,H⟩:=H
  replace H:(if t718=τ then ((impl_isText.f l1).bind fun t719=>(impl_storeCode.j0 k l0 (!t719))) else (impl_storeCode.j0 k l0 τ))=some r:=H
  have A4:=ζa A40
  clear A40
  by_cases c5:t718=τ
  ·
   subst c5
   have H1:((impl_isText.f l1).bind fun t719=>(impl_storeCode.j0 k l0 (!t719)))=some r:=by rw [if_pos rfl] at H;exact H
   clear H
   have H:=H1
   clear H1
   replace H:=Option.bind_eq_some_iff.mp H
   obtain ⟨t719,A60,H⟩:=H
   replace H:(impl_storeCode.j0 k l0 (!t719))=some r:=H
   have A6:=ζa A60
   clear A60
   have H':=ζa H
   clear H
   go_wp2_with (first|((with_reducible refine δv (f:=80) rfl ?_);refine goesL_ (some 7) rfl rfl Tryz.func80 (by kernel_rfl) rfl #[.slice A0 l0.length c0] rfl (by (try simp only [δd,δe,δf]);first|done|rfl|(simp only [δg,δh];rfl)) ?_;(with_reducible refine (impl_isList_impl_Pair.calls _ _ l0 τ _ ?side1 ?side2 A4.out).mono ?_);(case side1=>repeat (first|exact (Kd.C_below HR0.out HB.out)|(with_reducible refine Kd.C_alloc ?_ _)|(with_reducible refine Kd.C_drewN ?_ _)|(with_reducible refine Kd.C_drew ?_)));(case side2=>exact HC0.out);rintro e w' ⟨rfl,⟨nd,rfl⟩⟩;refine ⟨_,rfl,?_⟩)|(go_at_call 61;(with_reducible refine (impl_isText.calls _ _ l1 t719 _ ?side1 ?side2 A6.out).mono ?_);(case side1=>repeat (first|exact (Kd.C_below HR1.out (by repeat (first|(with_reducible first|exact HB.out|apply δk|apply δi|apply δj)|exact HB.out)))|(with_reducible refine Kd.C_alloc ?_ _)|(with_reducible refine Kd.C_drewN ?_ _)|(with_reducible refine Kd.C_drew ?_)));(case side2=>exact HC1.out);rintro e w' ⟨rfl,⟨nd,rfl⟩⟩))
   go_meet
   case rel=>exact ⟨_,(!t719),(by first|rfl|(simp;done)|(simp [*];done)),H',⟨by first|omega|exact Nat.le_refl _⟩,⟨by repeat (first|(with_reducible first|exact HB.out|apply δk|apply δi|apply δj)|exact HB.out)⟩⟩
  ·
   replace c5:=Bool.eq_false_iff.mpr c5
   subst c5
   have H1:(impl_storeCode.j0 k l0 τ)=some r:=by rw [if_neg (show ¬ (φ=τ) by decide)] at H;exact H
   clear H
   have H:=H1
   clear H1
   have H':=ζa H
   clear H
   go_wp2_with (first|((with_reducible refine δv (f:=80) rfl ?_);refine goesL_ (some 7) rfl rfl Tryz.func80 (by kernel_rfl) rfl #[.slice A0 l0.length c0] rfl (by (try simp only [δd,δe,δf]);first|done|rfl|(simp only [δg,δh];rfl)) ?_;(with_reducible refine (impl_isList_impl_Pair.calls _ _ l0 φ _ ?side1 ?side2 A4.out).mono ?_);(case side1=>repeat (first|exact (Kd.C_below HR0.out HB.out)|(with_reducible refine Kd.C_alloc ?_ _)|(with_reducible refine Kd.C_drewN ?_ _)|(with_reducible refine Kd.C_drew ?_)));(case side2=>exact HC0.out);rintro e w' ⟨rfl,⟨nd,rfl⟩⟩;refine ⟨_,rfl,?_⟩))
   go_meet
   case rel=>exact ⟨_,(τ),(by first|rfl|(simp;done)|(simp [*];done)),H',⟨by first|omega|exact Nat.le_refl _⟩,⟨by repeat (first|(with_reducible first|exact HB.out|apply δk|apply δi|apply δj)|exact HB.out)⟩⟩
 case rest =>
  clear HC3
  try clear c1
  try clear p2
  try clear c5
  try clear c6
  obtain ⟨kq,x5_2,rfl,HA,HJ2,HB⟩:=hcut
  cases kq with
  | zero=>exact absurd HA.out (by simp [impl_storeCode.j0])
  | succ kj2 =>
   have H:=HA.out
   clear HA
   simp only [impl_storeCode.j0] at H
   by_cases c7:x5_2=τ
   ·
    subst c7
    have H1:(some 2)=some r:=by rw [if_pos rfl] at H;exact H
    clear H
    have H:=H1
    clear H1
    obtain rfl:=Option.some.inj H
    go_wp2
    go_ret
    exact ⟨by first|rfl|(simp [errW_none,errW_some] <;> rfl)|(simp [*,errW_none,errW_some] <;> rfl),by repeat (first|(with_reducible first|exact HB.out|apply δk|apply δi|apply δj)|exact HB.out)⟩
   ·
    replace c7:=Bool.eq_false_iff.mpr c7
    subst c7
    have H1:((impl_StoreOK.f kj2 l0).bind fun t720=>(if t720=τ then (some 0) else (some 1)))=some r:=by rw [if_neg (show ¬ (φ=τ) by decide)] at H;exact H
    clear H
    have H:=H1
    clear H1
    replace H:=Option.bind_eq_some_iff.mp H
    obtain ⟨t720,A80,H⟩:=H
    replace H:(if t720=τ then (some 0) else (some 1))=some r:=H
    have A8:=ζa A80
    clear A80
    by_cases c9:t720=τ
    ·
     subst c9
     have H1:(some 0)=some r:=by rw [if_pos rfl] at H;exact H
     clear H
     have H:=H1
     clear H1
     obtain rfl:=Option.some.inj H
     go_wp2_with (first|((with_reducible refine δv (f:=81) rfl ?_);refine goesL_ (some 16) rfl rfl Tryz.func81 (by kernel_rfl) rfl #[.slice A0 l0.length c0] rfl (by (try simp only [δd,δe,δf]);first|done|rfl|(simp only [δg,δh];rfl)) ?_;(with_reducible refine (impl_StoreOK.calls kj2 _ _ l0 τ _ ?side1 ?side2 A8.out).mono ?_);(case side1=>repeat (first|exact (Kd.C_below HR0.out HB.out)|(with_reducible refine Kd.C_alloc ?_ _)|(with_reducible refine Kd.C_drewN ?_ _)|(with_reducible refine Kd.C_drew ?_)));(case side2=>exact HC0.out);rintro e w10 ⟨rfl,hb⟩;refine ⟨_,rfl,?_⟩;have n0_:=ζa (δr (by repeat (first|(with_reducible first|exact HB.out|apply δk|apply δi|apply δj)|exact HB.out)) hb);clear HB;have HB:=n0_;clear n0_;(try clear hb);(try clear hb2);(try clear hk);(try clear hi)))
     go_ret
     exact ⟨by first|rfl|(simp [errW_none,errW_some] <;> rfl)|(simp [*,errW_none,errW_some] <;> rfl),by repeat (first|(with_reducible first|exact HB.out|apply δk|apply δi|apply δj)|exact HB.out)⟩
    ·
     replace c9:=Bool.eq_false_iff.mpr c9
     subst c9
     have H1:(some 1)=some r:=by rw [if_neg (show ¬ (φ=τ) by decide)] at H;exact H
     clear H
     have H:=H1
     clear H1
     obtain rfl:=Option.some.inj H
     go_wp2_with (first|((with_reducible refine δv (f:=81) rfl ?_);refine goesL_ (some 16) rfl rfl Tryz.func81 (by kernel_rfl) rfl #[.slice A0 l0.length c0] rfl (by (try simp only [δd,δe,δf]);first|done|rfl|(simp only [δg,δh];rfl)) ?_;(with_reducible refine (impl_StoreOK.calls kj2 _ _ l0 φ _ ?side1 ?side2 A8.out).mono ?_);(case side1=>repeat (first|exact (Kd.C_below HR0.out HB.out)|(with_reducible refine Kd.C_alloc ?_ _)|(with_reducible refine Kd.C_drewN ?_ _)|(with_reducible refine Kd.C_drew ?_)));(case side2=>exact HC0.out);rintro e w11 ⟨rfl,hb⟩;refine ⟨_,rfl,?_⟩;have n0_:=ζa (δr (by repeat (first|(with_reducible first|exact HB.out|apply δk|apply δi|apply δj)|exact HB.out)) hb);clear HB;have HB:=n0_;clear n0_;(try clear hb);(try clear hb2);(try clear hk);(try clear hi)))
     go_ret
     exact ⟨by first|rfl|(simp [errW_none,errW_some] <;> rfl)|(simp [*,errW_none,errW_some] <;> rfl),by repeat (first|(with_reducible first|exact HB.out|apply δk|apply δi|apply δj)|exact HB.out)⟩

end Go.Proofs.YtabmfhnhmoiljaaGreatDoor.Q

/- A store is a row of pairs: its size, its copy, whether it stands, and what is found in it. -/
namespace Go.Proofs.YtabmfhnhmoiljaaGreatDoor.U
open Go Go.RowKit Go.Proofs.YtabmfhnhmoiljaaGreatDoor.Q Go.Proofs.YtabmfhnhmoiljaaGreatDoorW.PrintWords Go.Proofs.YtabmfhnhmoiljaaGreatDoorW.PrintLast Go.Proofs.YtabmfhnhmoiljaaGreatDoorW.PrintMore
set_option linter.unusedVariables false
set_option linter.unusedSimpArgs false

abbrev LP := S49
abbrev IP := S51
def toP (x : LP) : IP := ⟨x.f0, x.f1⟩
theorem rdL (l : List LP) (i : Nat) (h : i < l.length) : rd_T49 l (i : Int) = l[i] := by simp [rd_T49, List.getD_eq_getElem?_getD, List.getElem?_eq_getElem h]
theorem rdI (l : List IP) (i : Nat) (h : i < l.length) : rd_T51 l (i : Int) = l[i] := by simp [rd_T51, List.getD_eq_getElem?_getD, List.getElem?_eq_getElem h]

theorem szPair_ok (a b : ByteArray) (n : Int) (ha : a.size ≤ 9223372036854775807) (hb : b.size ≤ 9223372036854775807) (h0 : 0 ≤ n) (h1 : n ≤ 1048576) :
    ∃ z, laws_szPair.f a b n = some z ∧ (z < 0 ∨ (0 ≤ z ∧ z ≤ n ∧ a.size ≤ 1048576 ∧ b.size ≤ 1048576)) := by
  unfold laws_szPair.f
  rw [wid (n := n - (a.size : Int)) (by omega) (by omega)]
  by_cases c1 : n - (a.size : Int) < 0
  · exact ⟨-1, by rw [if_pos c1], .inl (by decide)⟩
  rw [if_neg c1, wid (n := n - (a.size : Int) - (b.size : Int)) (by omega) (by omega)]
  by_cases c2 : n - (a.size : Int) - (b.size : Int) < 0
  · exact ⟨-1, by rw [if_pos c2], .inl (by decide)⟩
  exact ⟨_, by rw [if_neg c2], .inr (by omega)⟩
/-- All pairs are short. -/
def Short (l : List LP) : Prop := l.length ≤ 1048576 ∧ ∀ x ∈ l, x.f0.size ≤ 1048576 ∧ x.f1.size ≤ 1048576
theorem szPairS_go (l : List LP) (hl : l.length ≤ 1048576) (hx : ∀ x ∈ l, x.f0.size ≤ 9223372036854775807 ∧ x.f1.size ≤ 9223372036854775807) : ∀ (d i : Nat) (n : Int), i + d = l.length → 0 ≤ n → n ≤ 1048576 →
    ∃ z, Ev (fun k => laws_szPairS.l0 k l n (i : Int)) z ∧ (z < 0 ∨ (0 ≤ z ∧ z ≤ n ∧ ∀ x ∈ l.drop i, x.f0.size ≤ 1048576 ∧ x.f1.size ≤ 1048576)) := by
  intro d
  induction d with
  | zero =>
    intro i n hi h0 h1
    refine ⟨n, Ev.step (fun k => ?_) (Ev.now _), .inr ⟨h0, Int.le_refl _, ?_⟩⟩
    · rw [laws_szPairS.l0, if_neg (by omega)]
    · rw [List.drop_of_length_le (by omega)]; simp
  | succ d ih =>
    intro i n hi h0 h1
    have hlt : i < l.length := by omega
    obtain ⟨z1, e1, hz1⟩ := szPair_ok l[i].f0 l[i].f1 n (hx _ (List.getElem_mem hlt)).1 (hx _ (List.getElem_mem hlt)).2 h0 h1
    have hstep : ∀ k, laws_szPairS.l0 (k + 1) l n (i : Int) = if z1 < 0 then some (-1) else laws_szPairS.l0 k l z1 ((i + 1 : Nat) : Int) := by
      intro k
      rw [laws_szPairS.l0, if_pos (by omega), if_pos (by omega), rdL l i hlt, e1, wid (n := (i : Int) + 1) (by omega) (by omega)]
      rfl
    by_cases hn : z1 < 0
    · exact ⟨-1, Ev.step hstep (by simp only [if_pos hn]; exact Ev.now _), .inl (by decide)⟩
    rcases hz1 with hz1 | ⟨hz0, hzn, ha, hb⟩
    · exact absurd hz1 hn
    obtain ⟨z, e2, hz⟩ := ih (i + 1) z1 (by omega) hz0 (by omega)
    refine ⟨z, Ev.step hstep (by simp only [if_neg hn]; exact e2), ?_⟩
    rcases hz with hz | ⟨hz1, hz2, hz3⟩
    · exact .inl hz
    refine .inr ⟨hz1, by omega, ?_⟩
    rw [List.drop_eq_getElem_cons hlt]
    intro x hxm
    rcases List.mem_cons.1 hxm with rfl | hxm
    · exact ⟨ha, hb⟩
    · exact hz3 x hxm
theorem szPairS_ev (l : List LP) (n : Int) (hl : l.length ≤ 9223372036854775807) (hx : ∀ x ∈ l, x.f0.size ≤ 9223372036854775807 ∧ x.f1.size ≤ 9223372036854775807) (h0 : 0 ≤ n) (h1 : n ≤ 1048576) :
    ∃ z, Ev (fun k => laws_szPairS.f k l n) z ∧ (z < 0 ∨ (0 ≤ z ∧ z ≤ n ∧ Short l)) := by
  unfold laws_szPairS.f
  rw [wid (n := n - (l.length : Int)) (by omega) (by omega)]
  by_cases c1 : n - (l.length : Int) < 0
  · exact ⟨-1, by simp only [if_pos c1]; exact Ev.now _, .inl (by decide)⟩
  simp only [if_neg c1]
  obtain ⟨z, e, hz⟩ := szPairS_go l (by omega) hx l.length 0 (n - (l.length : Int)) (by omega) (by omega) (by omega)
  refine ⟨z, e, ?_⟩
  rcases hz with hz | ⟨hz1, hz2, hz3⟩
  · exact .inl hz
  · exact .inr ⟨hz1, by omega, by omega, by simpa using hz3⟩

theorem toPairS_go (l : List LP) (hl : l.length ≤ 1048576) : ∀ (d i : Nat) (o : List IP), i + d = l.length → o.length = l.length → (∀ j, j < i → o[j]? = (l.map toP)[j]?) →
    Ev (fun k => laws_toPairS.l0 k l o (i : Int)) (l.map toP) := by
  intro d
  induction d with
  | zero =>
    intro i o hi ho hj
    have e : o = l.map toP := by
      apply List.ext_getElem?
      intro j
      by_cases h : j < i
      · exact hj j h
      · rw [List.getElem?_eq_none (by omega), List.getElem?_eq_none (by simp; omega)]
    refine Ev.step (fun k => ?_) (Ev.now _)
    rw [laws_toPairS.l0, if_neg (by omega), e]
  | succ d ih =>
    intro i o hi ho hj
    have hlt : i < l.length := by omega
    refine Ev.step (f := fun k => laws_toPairS.l0 k l (o.set i (toP l[i])) ((i + 1 : Nat) : Int)) (fun k => ?_) (ih (i + 1) (o.set i (toP l[i])) (by omega) (by simpa using ho) ?_)
    · rw [laws_toPairS.l0, if_pos (by omega), if_pos (by omega), rdL l i hlt]
      simp only [laws_toPair.f, Option.bind_some]
      rw [if_pos (by omega), wid (n := (i : Int) + 1) (by omega) (by omega)]
      rfl
    · intro j hji
      rw [List.getElem?_set]
      by_cases h : i = j
      · subst h
        rw [if_pos rfl, if_pos (by omega)]
        simp [hlt]
      · rw [if_neg h]
        exact hj j (by omega)
theorem toPairS_ev (l : List LP) (hl : l.length ≤ 1048576) : Ev (fun k => laws_toPairS.f k l) (l.map toP) := by
  unfold laws_toPairS.f
  simp only [if_pos (show (0 : Int) ≤ (l.length : Int) by omega), if_pos (show (l.length : Int).toNat ≤ 8796093022208 by omega)]
  exact toPairS_go l hl l.length 0 _ (by omega) (by simp) (by simp)
theorem eqPair_self (a b : ByteArray) : laws_eqPair.f a b a b = some true := by unfold laws_eqPair.f; rw [if_pos rfl, if_pos rfl]
theorem eqPairS_go (l : List IP) (hl : l.length ≤ 1048576) : ∀ (d i : Nat), i + d = l.length → Ev (fun k => laws_eqPairS.l0 k l l (i : Int)) true := by
  intro d
  induction d with
  | zero =>
    intro i hi
    exact Ev.step (fun k => by rw [laws_eqPairS.l0, if_neg (by omega)]) (Ev.now _)
  | succ d ih =>
    intro i hi
    refine Ev.step (f := fun k => laws_eqPairS.l0 k l l ((i + 1 : Nat) : Int)) (fun k => ?_) (ih (i + 1) (by omega))
    rw [laws_eqPairS.l0, if_pos (by omega), if_pos (by omega), if_pos (by omega), eqPair_self, wid (n := (i : Int) + 1) (by omega) (by omega)]
    rfl
theorem eqPairS_ev (l : List IP) (hl : l.length ≤ 1048576) : Ev (fun k => laws_eqPairS.f k l l) true := by
  unfold laws_eqPairS.f
  simp only [if_true]
  exact eqPairS_go l hl l.length 0 (by omega)

/-! ### whether it stands -/
def keyB (x : ByteArray) : Bool := decide (1 ≤ x.size ∧ x.size ≤ 60)
def valueB (x : ByteArray) : Bool := decide (x.size ≤ 1000)
def lessB (l : List IP) (i : Nat) : Bool := decide (i = 0) || Op.bytesLess ((rd_T51 l ((i : Int) - 1)).f0).toList ((rd_T51 l (i : Int)).f0).toList
def pairB (l : List IP) (i : Nat) : Bool := keyB (rd_T51 l (i : Int)).f0 && (valueB (rd_T51 l (i : Int)).f1 && lessB l i)
def fromB (l : List IP) : Nat → Nat → Bool
  | 0, _ => true
  | d + 1, i => pairB l i && fromB l d (i + 1)
/-- The store stands: keys and values are in their bounds, keys rise, and there are at most 400. -/
def storeB (l : List IP) : Bool := fromB l l.length 0 && decide (l.length ≤ 400)
theorem implKey_eq (x : ByteArray) : impl_isKey.f x = some (keyB x) := by
  unfold impl_isKey.f impl_within.f keyB
  by_cases h : (x.size : Int) ≥ 1
  · simp only [if_pos h, Option.bind_some]; congr 1; rw [decide_eq_decide]; omega
  · simp only [if_neg h, Option.bind_some]; congr 1; rw [eq_comm, decide_eq_false_iff_not]; omega
theorem specKey_eq (x : ByteArray) : spec_l03Key.f x = some (keyB x) := by
  unfold spec_l03Key.f spec_l01In.f keyB
  by_cases h : (x.size : Int) ≥ 1
  · simp only [if_pos h, Option.bind_some]; congr 1; rw [decide_eq_decide]; omega
  · simp only [if_neg h, Option.bind_some]; congr 1; rw [eq_comm, decide_eq_false_iff_not]; omega
theorem implValue_eq (x : ByteArray) : impl_isValue.f x = some (valueB x) := by
  unfold impl_isValue.f valueB; congr 1; rw [decide_eq_decide]; omega
theorem specPair_eq (x y : ByteArray) : spec_l03Pair.f x y = some (keyB x && valueB y) := by
  unfold spec_l03Pair.f valueB
  rw [specKey_eq]
  simp only [Option.bind_some]
  cases keyB x with
  | false => rfl
  | true => simp only [if_true, Bool.true_and]; congr 1; rw [decide_eq_decide]; omega
theorem specStore_go (l : List IP) (hl : l.length ≤ 1048576) : ∀ (d i : Nat), i + d = l.length → Ev (fun k => spec_StoreOK.l0 k l (i : Int)) (fromB l d i) := by
  intro d
  induction d with
  | zero =>
    intro i hi
    exact Ev.step (fun k => by rw [spec_StoreOK.l0, if_neg (by omega)]; rfl) (Ev.now _)
  | succ d ih =>
    intro i hi
    have hstep : ∀ k, spec_StoreOK.l0 (k + 1) l (i : Int) = if pairB l i = true then spec_StoreOK.l0 k l ((i + 1 : Nat) : Int) else some false := by
      intro k
      rw [spec_StoreOK.l0, if_pos (by omega), if_pos (by omega), specPair_eq]
      simp only [Option.bind_some, pairB, lessB]
      rw [wid (n := (i : Int) + 1) (by omega) (by omega)]
      rcases Bool.eq_false_or_eq_true (keyB (rd_T51 l (i : Int)).f0) with hk | hk
      · rcases Bool.eq_false_or_eq_true (valueB (rd_T51 l (i : Int)).f1) with hv | hv
        · simp only [hk, hv, Bool.true_and, Bool.and_self, if_true]
          by_cases h0 : i = 0
          · subst h0; simp
          · rw [if_pos (show (i : Int) > 0 by omega), wid (n := (i : Int) - 1) (by omega) (by omega), if_pos (by omega), if_pos (by omega), decide_eq_false h0, Bool.false_or]
            rfl
        · simp only [hk, hv, Bool.true_and, Bool.and_false, Bool.false_and, Bool.false_eq_true, if_false, if_true]
      · simp only [hk, Bool.false_and, Bool.false_eq_true, if_false]
    have h2 := ih (i + 1) (by omega)
    refine Ev.step hstep ?_
    rw [fromB]
    cases pairB l i with
    | false => exact Ev.now _
    | true => simp only [if_true, Bool.true_and]; exact h2
theorem specStoreOK_ev (l : List IP) (hl : l.length ≤ 1048576) : Ev (fun k => spec_StoreOK.f k l) (storeB l) := by
  unfold spec_StoreOK.f storeB
  by_cases h1 : (l.length : Int) > 4096
  · simp only [if_pos h1, decide_eq_false (show ¬ l.length ≤ 400 by omega), Bool.and_false]; exact Ev.now _
  simp only [if_neg h1]
  by_cases h2 : (l.length : Int) > 400
  · simp only [if_pos h2, decide_eq_false (show ¬ l.length ≤ 400 by omega), Bool.and_false]; exact Ev.now _
  simp only [if_neg h2, decide_eq_true (show l.length ≤ 400 by omega), Bool.and_true]
  exact specStore_go l hl l.length 0 (by omega)
theorem implStore_go (l : List IP) (hl : l.length ≤ 1048576) : ∀ (d i : Nat), i + d = l.length → Ev (fun k => impl_StoreOK.l0 k l l (l.length : Int) (i : Int)) (fromB l d i && decide (l.length ≤ 400)) := by
  intro d
  induction d with
  | zero =>
    intro i hi
    refine Ev.step (fun k => ?_) (Ev.now _)
    rw [impl_StoreOK.l0, if_neg (by omega), fromB, Bool.true_and]
    congr 1; rw [decide_eq_decide]; omega
  | succ d ih =>
    intro i hi
    have hstep : ∀ k, impl_StoreOK.l0 (k + 1) l l (l.length : Int) (i : Int) = if pairB l i = true then impl_StoreOK.l0 k l l (l.length : Int) ((i + 1 : Nat) : Int) else some false := by
      intro k
      rw [impl_StoreOK.l0, if_pos (by omega), if_pos (by omega), if_pos (by omega), implKey_eq, implValue_eq]
      simp only [Option.bind_some, pairB, lessB]
      rw [wid (n := (i : Int) + 1) (by omega) (by omega)]
      rcases Bool.eq_false_or_eq_true (keyB (rd_T51 l (i : Int)).f0) with hk | hk
      · rcases Bool.eq_false_or_eq_true (valueB (rd_T51 l (i : Int)).f1) with hv | hv
        · simp only [hk, hv, Bool.true_and, Bool.and_self, if_true]
          by_cases h0 : i = 0
          · subst h0; simp
          · rw [if_pos (show (i : Int) > 0 by omega), wid (n := (i : Int) - 1) (by omega) (by omega), if_pos (by omega), if_pos (by omega), decide_eq_false h0, Bool.false_or]
            rfl
        · simp only [hk, hv, Bool.true_and, Bool.and_false, Bool.false_and, Bool.false_eq_true, if_false, if_true]
      · simp only [hk, Bool.false_and, Bool.false_eq_true, if_false]
    have h2 := ih (i + 1) (by omega)
    refine Ev.step hstep ?_
    rw [fromB]
    cases pairB l i with
    | false => exact Ev.now _
    | true => simp only [if_true, Bool.true_and]; exact h2
theorem implStoreOK_ev (l : List IP) (hl : l.length ≤ 1048576) : Ev (fun k => impl_StoreOK.f k l) (storeB l) := by
  unfold impl_StoreOK.f storeB
  exact implStore_go l hl l.length 0 (by omega)
/-- The code of a store, no texts being too long. -/
def storeV (l : List IP) : Int := if l.length ≤ 4096 then (if storeB l = true then 0 else 1) else 2
theorem storeCode_ev (l : List IP) (ts : List ByteArray) (hl : l.length ≤ 1048576) :
    Ev (fun k => impl_storeCode.f k l ts) (if l.length ≤ 4096 ∧ (ts.any fun t => decide ((t.size : Int) > 65536)) = false then (if storeB l = true then 0 else 1) else 2) := by
  unfold impl_storeCode.f impl_isList_impl_Pair.f impl_isText.f
  simp only [Option.bind_some]
  have hbad : Ev (fun k => impl_storeCode.j0 k l true) 2 := Ev.step (fun k => by rw [impl_storeCode.j0, if_pos rfl]) (Ev.now _)
  by_cases h1 : l.length ≤ 4096
  · rw [decide_eq_true (show (l.length : Int) ≤ 4096 by omega)]
    simp only [if_true]
    cases h2 : (ts.any fun t => decide ((t.size : Int) > 65536)) with
    | true => simp only [Bool.not_true, Bool.not_false, Bool.true_eq_false, and_false, if_false]; exact hbad
    | false =>
      simp only [Bool.not_false, Bool.not_true, h1, and_true, if_true]
      refine Ev.step (fun k => by rw [impl_storeCode.j0, if_neg (by decide)]) (Ev.bind (implStoreOK_ev l hl) ?_)
      cases storeB l with
      | false => exact Ev.now _
      | true => simp only [if_true]; exact Ev.now _
  · rw [decide_eq_false (show ¬ (l.length : Int) ≤ 4096 by omega), if_neg (by simp [h1])]
    exact hbad
end Go.Proofs.YtabmfhnhmoiljaaGreatDoor.U

/- Marks: what the laws write into rows to see whether memory is shared. -/
namespace Go.Proofs.YtabmfhnhmoiljaaGreatDoor.U
open Go Go.RowKit Go.Proofs.YtabmfhnhmoiljaaGreatDoor.Q Go.Proofs.YtabmfhnhmoiljaaGreatDoorW.PrintWords Go.Proofs.YtabmfhnhmoiljaaGreatDoorW.PrintLast Go.Proofs.YtabmfhnhmoiljaaGreatDoorW.PrintMore
set_option linter.unusedVariables false
set_option linter.unusedSimpArgs false

def markV (n : Nat) : ByteArray := if n = 0 then (⟨#[109, 48]⟩ : ByteArray) else (⟨#[109]⟩ : ByteArray) ++ digV n
theorem digV_big {v : Nat} (h : ¬ v < 10) : digV v = digV (v / 10) ++ (⟨#[UInt8.ofNat (48 + v % 10)]⟩ : ByteArray) := by
  apply ByteArray.ext
  unfold digV
  rw [dec_big h]
  simp
theorem mark_go (v : Nat) : ∀ (acc : ByteArray), 1 ≤ v → v ≤ 1000000000000000000 → acc.size + v ≤ 9000000000000000000 → Ev (fun k => laws_markText.l0 k (v : Int) acc) ((⟨#[109]⟩ : ByteArray) ++ (digV v ++ acc)) := by
  induction v using Nat.strongRecOn with
  | _ v ih =>
    intro acc h1 h2 h3
    have e1 : wrap64 (Int.tdiv (v : Int) 10) = ((v / 10 : Nat) : Int) := by rw [tdiv_nn (by omega), wid (by omega) (by omega)]; omega
    have e2 : Int.tmod (v : Int) 10 = ((v % 10 : Nat) : Int) := by rw [tmod_nn (by omega)]; omega
    have sz : (⟨#[UInt8.ofNat (48 + v % 10)]⟩ : ByteArray).size = 1 := rfl
    refine Ev.step (f := fun k => laws_markText.l0 k ((v / 10 : Nat) : Int) ((⟨#[UInt8.ofNat (48 + v % 10)]⟩ : ByteArray) ++ acc)) (fun k => ?_) ?_
    · rw [laws_markText.l0, if_pos (by omega), e1, e2]
      simp only [Option.bind_some, one_digit (v % 10) (by omega)]
      rw [if_pos (by rw [sz]; omega)]
    · have hacc : ((⟨#[UInt8.ofNat (48 + v % 10)]⟩ : ByteArray) ++ acc).size = 1 + acc.size := by rw [ByteArray.size_append, sz]
      by_cases hv : v < 10
      · have e : v / 10 = 0 := by omega
        rw [e]
        refine Ev.step (fun k => ?_) (Ev.now _)
        rw [show ((0 : Nat) : Int) = 0 from rfl, laws_markText.l0, if_neg (by decide), if_pos (by rw [hacc]; omega)]
        have : digV v = (⟨#[UInt8.ofNat (48 + v % 10)]⟩ : ByteArray) := by
          apply ByteArray.ext
          unfold digV
          rw [Lib.decDigits_one hv, Nat.mod_eq_of_lt hv]
        rw [this]
      · have := ih (v / 10) (by omega) ((⟨#[UInt8.ofNat (48 + v % 10)]⟩ : ByteArray) ++ acc) (by omega) (by omega) (by rw [hacc]; omega)
        rw [digV_big hv]
        simp only [ByteArray.append_assoc] at this ⊢
        exact this
theorem markText_ev (n : Nat) (h : n ≤ 1000000000000000000) : Ev (fun k => laws_markText.f k (n : Int)) (markV n) := by
  unfold laws_markText.f markV
  by_cases h0 : n = 0
  · subst h0
    simp only [if_pos (show ((0 : Nat) : Int) ≤ 0 by decide), if_true]
    exact Ev.now _
  · simp only [if_neg (show ¬ (n : Int) ≤ 0 by omega), if_neg h0]
    have e := mark_go n (⟨#[]⟩ : ByteArray) (by omega) h (by show 0 + n ≤ _; omega)
    have z : digV n ++ (⟨#[]⟩ : ByteArray) = digV n := by apply ByteArray.ext; simp
    rw [z] at e
    exact e
/-- The pairs as they are marked, from a number on. -/
def markP (n i : Nat) : IP := ⟨markV (n + 2 * i), markV (n + 2 * i + 1)⟩
def markPs (n : Nat) (l : List IP) : List IP := (List.range l.length).map fun i => markP n i
theorem markPairS_go (N : Nat) (l : List IP) (n : Nat) (hl : l.length = N) (hN : N ≤ 1048576) (hn : n ≤ 1000000) : ∀ (d i : Nat) (o : List IP), i + d = N → o.length = N → (∀ j, j < i → o[j]? = some (markP n j)) →
    Ev (fun k => laws_markPairS.l0 k o ((n + 2 * i : Nat) : Int) (i : Int)) (((n + 2 * N : Nat) : Int), markPs n l) := by
  intro d
  induction d with
  | zero =>
    intro i o hi ho hj
    have e : o = markPs n l := by
      apply List.ext_getElem?
      intro j
      by_cases h : j < i
      · rw [hj j h]; unfold markPs; rw [List.getElem?_map, List.getElem?_range (by omega)]; rfl
      · rw [List.getElem?_eq_none (by omega), List.getElem?_eq_none (by unfold markPs; simp; omega)]
    refine Ev.step (fun k => ?_) (Ev.now _)
    rw [laws_markPairS.l0, if_neg (by omega), e, show i = N by omega]
  | succ d ih =>
    intro i o hi ho hj
    have hlt : i < o.length := by omega
    refine Ev.step (f := fun k => (laws_markText.f k ((n + 2 * i : Nat) : Int)).bind fun t => (laws_markText.f k ((n + 2 * i + 1 : Nat) : Int)).bind fun u => laws_markPairS.l0 k (o.set i ⟨t, u⟩) ((n + 2 * (i + 1) : Nat) : Int) ((i + 1 : Nat) : Int)) (fun k => ?_) ?_
    · have w1 : wrap64 (((n + 2 * i : Nat) : Int) + 1) = ((n + 2 * i + 1 : Nat) : Int) := by rw [wid (by omega) (by omega)]; omega
      have w2 : wrap64 (((n + 2 * i + 1 : Nat) : Int) + 1) = ((n + 2 * (i + 1) : Nat) : Int) := by rw [wid (by omega) (by omega)]; omega
      have w3 : wrap64 ((i : Int) + 1) = ((i + 1 : Nat) : Int) := by rw [wid (by omega) (by omega)]; omega
      rw [laws_markPairS.l0, if_pos (by omega)]
      congr 1
      funext t
      rw [if_pos (by omega), w1, w2, w3]
      simp only [Option.bind_some]
      congr 1
      funext u
      rw [Int.toNat_natCast, List.set_set]
      have : (rd_T51 (o.set i (⟨t, (rd_T51 o (i : Int)).f1⟩ : IP)) (i : Int)).f0 = t := by
        rw [rdI _ i (by rw [List.length_set]; exact hlt), List.getElem_set_self]
      rw [this]
    · refine Ev.bind (markText_ev _ (by omega)) (Ev.bind (markText_ev _ (by omega)) ?_)
      refine ih (i + 1) _ (by omega) (by rw [List.length_set]; exact ho) (fun j hji => ?_)
      rw [List.getElem?_set]
      by_cases h : i = j
      · subst h
        rw [if_pos rfl, if_pos hlt]
        rfl
      · rw [if_neg h]
        exact hj j (by omega)
theorem markPairS_ev (l : List IP) (n : Nat) (hN : l.length ≤ 1048576) (hn : n ≤ 1000000) : Ev (fun k => laws_markPairS.f k l (n : Int)) (((n + 2 * l.length : Nat) : Int), markPs n l) := by
  unfold laws_markPairS.f
  exact markPairS_go l.length l n rfl hN hn l.length 0 l (by omega) rfl (fun j h => by omega)
end Go.Proofs.YtabmfhnhmoiljaaGreatDoor.U

/- Names of accounts and denominations: as the reference and as the program read them. -/
namespace Go.Proofs.YtabmfhnhmoiljaaGreatDoor.U
open Go Go.RowKit Go.Proofs.YtabmfhnhmoiljaaGreatDoor.Q Go.Proofs.YtabmfhnhmoiljaaGreatDoorW.PrintWords Go.Proofs.YtabmfhnhmoiljaaGreatDoorW.PrintLast Go.Proofs.YtabmfhnhmoiljaaGreatDoorW.PrintMore
set_option linter.unusedVariables false
set_option linter.unusedSimpArgs false

def Letter (c : Int) : Prop := (97 ≤ c ∧ c ≤ 122) ∨ (65 ≤ c ∧ c ≤ 90) ∨ c = 95
def Digit (c : Int) : Prop := 48 ≤ c ∧ c ≤ 57
def IsName (x : ByteArray) : Prop := 1 ≤ x.size ∧ x.size ≤ 40 ∧ ∀ j : Int, 0 ≤ j → j < (x.size : Int) → Letter (bt x j) ∨ (j ≠ 0 ∧ Digit (bt x j))
instance (c : Int) : Decidable (Letter c) := by unfold Letter; infer_instance
instance (c : Int) : Decidable (Digit c) := by unfold Digit; infer_instance

theorem nameok_l0 (x : ByteArray) (hn : (x.size : Int) ≤ 140737488351232) (d : Nat) : ∀ i : Int, 0 ≤ i → i ≤ (x.size : Int) → (x.size : Int) - i = d →
    ∃ b, Ev (fun k => impl_NameOK.l0 k x (x.size : Int) i) b ∧ (b = true ↔ (∀ j : Int, i ≤ j → j < (x.size : Int) → Letter (bt x j) ∨ (j ≠ 0 ∧ Digit (bt x j))) ∧ 1 ≤ x.size ∧ x.size ≤ 40) := by
  induction d with
  | zero =>
    intro i h0 h1 hd
    refine ⟨decide (1 ≤ (x.size : Int) ∧ (x.size : Int) ≤ 40), Ev.step (fun k => ?_) (Ev.now _), ?_⟩
    · rw [impl_NameOK.l0, if_neg (by omega)]
      unfold impl_within.f
      by_cases h : (x.size : Int) ≥ 1
      · rw [if_pos h]
        simp only [Option.bind_some]
        congr 1
        exact decide_eq_decide.2 ⟨fun y => ⟨h, y⟩, fun y => y.2⟩
      · rw [if_neg h, decide_eq_false (fun y => h y.1)]
        rfl
    · rw [decide_eq_true_iff]
      exact ⟨fun h => ⟨fun j hj hj' => by omega, by omega, by omega⟩, fun h => by omega⟩
  | succ d ih =>
    intro i h0 h1 hd
    have hlt : i < (x.size : Int) := by omega
    by_cases hg : Letter (bt x i) ∨ (i ≠ 0 ∧ Digit (bt x i))
    · obtain ⟨b, hb, hb'⟩ := ih (i + 1) (by omega) (by omega) (by omega)
      refine ⟨b, Ev.step (fun k => ?_) hb, hb'.trans ⟨fun h => ⟨fun j hj hj' => ?_, h.2⟩, fun h => ⟨fun j hj hj' => h.1 j (by omega) hj', h.2⟩⟩⟩
      · rw [impl_NameOK.l0, if_pos hlt, if_pos h0, if_pos hlt, wid (n := i + 1) (by omega) (by omega)]
        unfold Letter Digit at hg
        generalize bt x i = c at *
        repeat' split
        all_goals first | rfl | (exfalso; omega)
      · by_cases e : j = i
        · subst e; exact hg
        · exact h.1 j (by omega) hj'
    · refine ⟨false, Ev.step (fun k => ?_) (Ev.now _), ⟨(fun h => by cases h), fun h => absurd (h.1 i (Int.le_refl _) hlt) hg⟩⟩
      rw [impl_NameOK.l0, if_pos hlt, if_pos h0, if_pos hlt]
      unfold Letter Digit at hg
      generalize bt x i = c at *
      repeat' split
      all_goals first | rfl | (exfalso; omega)

theorem NameOK_ev (x : ByteArray) (hn : (x.size : Int) ≤ 140737488351232) : ∃ b, Ev (fun k => impl_NameOK.f k x) b ∧ (b = true ↔ IsName x) := by
  obtain ⟨b, hb, hb'⟩ := nameok_l0 x hn x.size 0 (by omega) (by omega) (by omega)
  exact ⟨b, hb, hb'.trans ⟨fun h => ⟨h.2.1, h.2.2, h.1⟩, fun h => ⟨h.2.2, h.1, h.2.1⟩⟩⟩

theorem bool_of_iff {b : Bool} {p : Prop} [Decidable p] (h : b = true ↔ p) : b = decide p := by rw [Bool.eq_iff_iff, h, decide_eq_true_iff]
theorem letter_eq (c : Int) : spec_l00Letter.f c = some (decide (Letter c)) := by
  unfold spec_l00Letter.f
  repeat' split
  all_goals
    refine congrArg some (bool_of_iff ?_)
    unfold Letter
    first
    | exact ⟨fun _ => by omega, fun _ => rfl⟩
    | (rw [beq_iff_eq]; omega)
theorem digit_eq (c : Int) : spec_l00Digit.f c = some (decide (Digit c)) := by
  unfold spec_l00Digit.f
  split
  · refine congrArg some (bool_of_iff ?_)
    unfold Digit
    rw [decide_eq_true_iff]
    omega
  · refine congrArg some (bool_of_iff ?_)
    unfold Digit
    exact ⟨(fun h => by cases h), fun h => by omega⟩

theorem word_l0 (x : ByteArray) (hn : (x.size : Int) ≤ 40) (d : Nat) : ∀ i : Int, 1 ≤ i → i ≤ (x.size : Int) → (x.size : Int) - i = d →
    ∃ b, Ev (fun k => spec_l00Word.l0 k x i) b ∧ (b = true ↔ ∀ j : Int, i ≤ j → j < (x.size : Int) → Letter (bt x j) ∨ (j ≠ 0 ∧ Digit (bt x j))) := by
  induction d with
  | zero =>
    intro i h0 h1 hd
    exact ⟨true, Ev.step (fun k => by rw [spec_l00Word.l0, if_neg (by omega)]) (Ev.now _), ⟨fun _ j hj hj' => by omega, fun _ => rfl⟩⟩
  | succ d ih =>
    intro i h0 h1 hd
    have hlt : i < (x.size : Int) := by omega
    have hstep : ∀ k, spec_l00Word.l0 (k + 1) x i = if decide (Letter (bt x i)) = true then spec_l00Word.l0 k x (i + 1) else if decide (Digit (bt x i)) = true then spec_l00Word.l0 k x (i + 1) else some false := by
      intro k
      rw [spec_l00Word.l0, if_pos hlt, if_pos (by omega), letter_eq, digit_eq, wid (n := i + 1) (by omega) (by omega)]
      rfl
    by_cases hg : Letter (bt x i) ∨ Digit (bt x i)
    · obtain ⟨b, hb, hb'⟩ := ih (i + 1) (by omega) (by omega) (by omega)
      refine ⟨b, Ev.step (fun k => ?_) hb, hb'.trans ⟨fun h j hj hj' => ?_, fun h j hj hj' => h j (by omega) hj'⟩⟩
      · rw [hstep]
        rcases hg with hg | hg
        · rw [if_pos (decide_eq_true hg)]
        · rw [if_pos (decide_eq_true hg)]
          split <;> rfl
      · by_cases e : j = i
        · subst e; exact hg.imp id (fun y => ⟨by omega, y⟩)
        · exact h j (by omega) hj'
    · refine ⟨false, Ev.step (fun k => ?_) (Ev.now _), ⟨(fun h => by cases h), fun h => absurd ((h i (Int.le_refl _) hlt).imp id (fun y => y.2)) hg⟩⟩
      rw [hstep, if_neg (by rw [decide_eq_true_iff]; exact fun y => hg (.inl y)), if_neg (by rw [decide_eq_true_iff]; exact fun y => hg (.inr y))]

theorem Word_ev (x : ByteArray) : ∃ b, Ev (fun k => spec_l00Word.f k x) b ∧ (b = true ↔ IsName x) := by
  unfold spec_l00Word.f
  have hf : Ev (fun k => spec_l00Word.j0 k x true) false := Ev.step (fun k => by rw [spec_l00Word.j0, if_pos rfl]) (Ev.now _)
  by_cases h1 : (x.size : Int) < 1
  · simp only [if_pos h1]
    exact ⟨false, hf, ⟨(fun h => by cases h), fun h => by have := h.1; omega⟩⟩
  simp only [if_neg h1]
  by_cases h2 : (x.size : Int) > 40
  · simp only [if_pos h2]
    exact ⟨false, hf, ⟨(fun h => by cases h), fun h => by have := h.2.1; omega⟩⟩
  simp only [if_neg h2, if_pos (show (0 : Int) < (x.size : Int) by omega), letter_eq, Option.bind_some]
  by_cases h3 : Letter (bt x 0)
  · obtain ⟨b, hb, hb'⟩ := word_l0 x (by omega) (x.size - 1) 1 (by omega) (by omega) (by omega)
    refine ⟨b, ?_, hb'.trans ⟨fun h => ⟨by omega, by omega, fun j hj hj' => ?_⟩, fun h j hj hj' => h.2.2 j (by omega) hj'⟩⟩
    · rw [decide_eq_true h3]
      exact Ev.step (fun k => by rw [Bool.not_true, spec_l00Word.j0, if_neg (by decide)]) hb
    · by_cases e : j = 0
      · subst e; exact .inl h3
      · exact h j (by omega) hj'
  · rw [decide_eq_false h3]
    refine ⟨false, hf, ⟨(fun h => by cases h), fun h => ?_⟩⟩
    rcases h.2.2 0 (by omega) (by omega) with h | h
    · exact absurd h h3
    · exact absurd rfl h.1

noncomputable instance (x : ByteArray) : Decidable (IsName x) := Classical.propDecidable _
/-- A name of at most twelve bytes. -/
noncomputable def nameB (x : ByteArray) : Bool := decide (IsName x ∧ x.size ≤ 12)
noncomputable def peopleB (x : ByteArray) : Bool := nameB x && !impl_isPeople.bad x

theorem DenomOK_ev (x : ByteArray) (hn : (x.size : Int) ≤ 140737488351232) : Ev (fun k => impl_DenomOK.f k x) (nameB x) := by
  obtain ⟨b, hb, hb'⟩ := NameOK_ev x hn
  unfold impl_DenomOK.f
  refine Ev.bind hb ?_
  unfold nameB
  by_cases h : IsName x
  · simp only [hb'.2 h, if_true]
    rw [show decide ((x.size : Int) ≤ 12) = decide (IsName x ∧ x.size ≤ 12) from by rw [Bool.eq_iff_iff, decide_eq_true_iff, decide_eq_true_iff]; exact ⟨fun y => ⟨h, by omega⟩, fun y => by have := y.2; omega⟩]
    exact Ev.now _
  · obtain rfl : b = false := by cases b; rfl; exact absurd (hb'.1 rfl) h
    rw [decide_eq_false (fun y : IsName x ∧ x.size ≤ 12 => h y.1)]
    exact Ev.now _

theorem l05Name_ev (x : ByteArray) : Ev (fun k => spec_l05Name.f k x) (nameB x) := by
  obtain ⟨b, hb, hb'⟩ := Word_ev x
  unfold spec_l05Name.f nameB
  by_cases h12 : (x.size : Int) ≤ 12
  · simp only [if_pos h12]
    have : Ev (fun k => spec_NameOK.f k x) b := by unfold spec_NameOK.f; exact Ev.bind hb (Ev.now _)
    refine Ev.bind this ?_
    rw [show b = decide (IsName x ∧ x.size ≤ 12) from by rw [Bool.eq_iff_iff, decide_eq_true_iff, hb']; exact ⟨fun y => ⟨y, by omega⟩, fun y => y.1⟩]
    exact Ev.now _
  · simp only [if_neg h12]
    rw [decide_eq_false (fun y : IsName x ∧ x.size ≤ 12 => h12 (by have := y.2; omega))]
    exact Ev.now _

theorem l08Name_ev (x : ByteArray) : Ev (fun k => spec_l08Name.f k x) (peopleB x) := by
  unfold spec_l08Name.f
  refine Ev.bind (l05Name_ev x) ?_
  unfold peopleB impl_isPeople.bad
  cases nameB x with
  | false => exact Ev.now _
  | true =>
    simp only [if_true, Bool.true_and]
    by_cases h1 : x.toList = ([101, 115, 99, 114, 111, 119] : List UInt8)
    · simp only [h1, if_true]; exact Ev.now _
    · simp only [if_neg h1]
      by_cases h2 : x.toList = ([111, 114, 100, 101, 114, 115] : List UInt8)
      · simp only [h2, if_true]; exact Ev.now _
      · simp only [if_neg h2]
        by_cases h3 : x.toList = ([116, 97, 107, 101, 115] : List UInt8)
        · simp only [h3, if_true]; exact Ev.now _
        · simp only [if_neg h3, beq_eq_false_iff_ne.2 h1, beq_eq_false_iff_ne.2 h2, beq_eq_false_iff_ne.2 h3, Bool.false_or]
          exact Ev.now _

theorem areNames_go (l : List ByteArray) (hl : l.length < 1000000) (hn : ∀ x ∈ l, (x.size : Int) ≤ 140737488351232) : ∀ (d : Nat) (i : Nat), i + d = l.length →
    Ev (fun k => impl_areNames.l0 k l (l.length : Int) (i : Int)) ((l.drop i).all nameB) := by
  intro d
  induction d with
  | zero =>
    intro i hi
    refine Ev.step (fun k => ?_) (Ev.now _)
    rw [impl_areNames.l0, if_neg (by omega), List.drop_of_length_le (by omega)]
    rfl
  | succ d ih =>
    intro i hi
    have hlt : i < l.length := by omega
    have hx : rdOf ByteArray.empty l (i : Int) = l[i] := by simp [rdOf, List.getD_eq_getElem?_getD, List.getElem?_eq_getElem hlt]
    have h1 := DenomOK_ev l[i] (hn _ (List.getElem_mem hlt))
    have h2 := ih (i + 1) (by omega)
    rw [List.drop_eq_getElem_cons hlt, List.all_cons]
    have hstep : ∀ k, impl_areNames.l0 (k + 1) l (l.length : Int) (i : Int) = (impl_DenomOK.f k l[i]).bind fun t => if t = true then impl_areNames.l0 k l (l.length : Int) ((i + 1 : Nat) : Int) else some false := by
      intro k
      rw [impl_areNames.l0, if_pos (by omega), if_pos (by omega), if_pos (by omega), hx, wid (n := (i : Int) + 1) (by omega) (by omega)]
      rfl
    refine Ev.step hstep (Ev.bind h1 ?_)
    cases nameB l[i] with
    | false => exact Ev.now _
    | true =>
      simp only [if_true, Bool.true_and]
      exact h2
theorem areNames_ev (l : List ByteArray) (hl : l.length < 1000000) (hn : ∀ x ∈ l, (x.size : Int) ≤ 140737488351232) : Ev (fun k => impl_areNames.f k l) (l.all nameB) := by
  have := areNames_go l hl hn l.length 0 (by omega)
  unfold impl_areNames.f
  simpa using this
theorem isPeople_ev (l : List ByteArray) (hl : l.length < 1000000) (hn : ∀ x ∈ l, (x.size : Int) ≤ 140737488351232) : Ev (fun k => impl_isPeople.f k l) (l.all peopleB) := by
  unfold impl_isPeople.f
  refine Ev.bind (areNames_ev l hl hn) ?_
  have e : l.all peopleB = (l.all nameB && !l.any impl_isPeople.bad) := by
    clear hl hn
    induction l with
    | nil => rfl
    | cons a l ih =>
      simp only [List.all_cons, List.any_cons, ih, peopleB]
      cases nameB a <;> cases impl_isPeople.bad a <;> cases l.all nameB <;> cases l.any impl_isPeople.bad <;> rfl
  rw [e]
  cases l.all nameB with
  | false => exact Ev.now _
  | true => simp only [if_true, Bool.true_and]; exact Ev.now _

end Go.Proofs.YtabmfhnhmoiljaaGreatDoor.U

/- What is found in a store: the reference's search and the program's take the same steps. -/
namespace Go.Proofs.YtabmfhnhmoiljaaGreatDoor.U
open Go Go.RowKit Go.Proofs.YtabmfhnhmoiljaaGreatDoor.Q Go.Proofs.YtabmfhnhmoiljaaGreatDoorW.PrintWords Go.Proofs.YtabmfhnhmoiljaaGreatDoorW.PrintLast Go.Proofs.YtabmfhnhmoiljaaGreatDoorW.PrintMore
set_option linter.unusedVariables false
set_option linter.unusedSimpArgs false

theorem cmp_neg : ∀ a b : List UInt8, Lib.compareBytes a b < 0 ↔ Op.bytesLess a b = true
  | [], [] => by simp [Lib.compareBytes, Op.bytesLess]
  | [], _ :: _ => by simp [Lib.compareBytes, Op.bytesLess]
  | _ :: _, [] => by simp [Lib.compareBytes, Op.bytesLess]
  | a :: x, b :: y => by
    rw [Lib.compareBytes, Op.bytesLess]
    by_cases h1 : a < b
    · simp [h1]
    · by_cases h2 : b < a
      · have h3 : ¬ a = b := fun e => by subst e; exact h1 h2
        simp [h1, h2, h3]
      · have h3 : a = b := UInt8.le_antisymm (UInt8.not_lt.1 h2) (UInt8.not_lt.1 h1)
        subst h3
        simp [h1, cmp_neg x y]
theorem cmp_zero : ∀ a b : List UInt8, Lib.compareBytes a b = 0 ↔ a = b
  | [], [] => by simp [Lib.compareBytes]
  | [], _ :: _ => by simp [Lib.compareBytes]
  | _ :: _, [] => by simp [Lib.compareBytes]
  | a :: x, b :: y => by
    rw [Lib.compareBytes]
    by_cases h1 : a < b
    · have h3 : ¬ a = b := fun e => by subst e; exact UInt8.lt_irrefl _ h1
      simp [h1, h3]
    · by_cases h2 : b < a
      · have h3 : ¬ a = b := fun e => by subst e; exact h1 h2
        simp [h1, h2, h3]
      · have h3 : a = b := UInt8.le_antisymm (UInt8.not_lt.1 h2) (UInt8.not_lt.1 h1)
        subst h3
        simp [h1, cmp_zero x y]
/-- Where a key's search ends. -/
def atV (l : List IP) (key : ByteArray) : Nat → Nat → Nat → Nat
  | 0, i, _ => i
  | f + 1, i, j => if i < j then (if Op.bytesLess ((rd_T51 l (((i + j) / 2 : Nat) : Int)).f0).toList key.toList = true then atV l key f ((i + j) / 2 + 1) j else atV l key f i ((i + j) / 2)) else i
theorem atV_bd (l : List IP) (key : ByteArray) : ∀ (f i j : Nat), i ≤ j → i ≤ atV l key f i j ∧ atV l key f i j ≤ j
  | 0, i, j, h => ⟨Nat.le_refl _, h⟩
  | f + 1, i, j, h => by
    rw [atV]
    by_cases h1 : i < j
    · rw [if_pos h1]
      split
      · have := atV_bd l key f ((i + j) / 2 + 1) j (by omega); omega
      · have := atV_bd l key f i ((i + j) / 2) (by omega); omega
    · rw [if_neg h1]; omega
theorem specAt_go (l : List IP) (key : ByteArray) (hl : l.length ≤ 1048576) : ∀ (f i j : Nat), j - i < f → i ≤ j → j ≤ l.length → Ev (fun k => spec_l03At.l0 k l key (i : Int) (j : Int)) (atV l key f i j : Int)
  | 0, i, j, h, _, _ => by omega
  | f + 1, i, j, h, hij, hj => by
    rw [atV]
    by_cases h1 : i < j
    · rw [if_pos h1]
      have e1 : wrap64 (Int.tdiv (wrap64 ((i : Int) + (j : Int))) 2) = (((i + j) / 2 : Nat) : Int) := by
        rw [wid (n := (i : Int) + (j : Int)) (by omega) (by omega), tdiv_nn (by omega), wid (by omega) (by omega)]; omega
      have hstep : ∀ k, spec_l03At.l0 (k + 1) l key (i : Int) (j : Int) = if Op.bytesLess ((rd_T51 l (((i + j) / 2 : Nat) : Int)).f0).toList key.toList = true then spec_l03At.l0 k l key (((i + j) / 2 + 1 : Nat) : Int) (j : Int) else spec_l03At.l0 k l key (i : Int) (((i + j) / 2 : Nat) : Int) := by
        intro k
        rw [spec_l03At.l0, if_pos (by omega), e1, if_pos (by omega), if_pos (by omega), wid (n := (((i + j) / 2 : Nat) : Int) + 1) (by omega) (by omega)]
        rfl
      refine Ev.step hstep ?_
      split
      · exact specAt_go l key hl f _ _ (by omega) (by omega) hj
      · exact specAt_go l key hl f _ _ (by omega) (by omega) (by omega)
    · rw [if_neg h1]
      exact Ev.step (fun k => by rw [spec_l03At.l0, if_neg (by omega)]) (Ev.now _)
theorem implAt_go (l : List IP) (key : ByteArray) (hl : l.length ≤ 1048576) : ∀ (f i j : Nat), j - i < f → i ≤ j → j ≤ l.length → Ev (fun k => impl_pairAt.l0 k l key (i : Int) (j : Int)) (atV l key f i j : Int)
  | 0, i, j, h, _, _ => by omega
  | f + 1, i, j, h, hij, hj => by
    rw [atV]
    by_cases h1 : i < j
    · rw [if_pos h1]
      have e1 : ((i : Int) + (j : Int)) / 2 = (((i + j) / 2 : Nat) : Int) := by omega
      have hstep : ∀ k, impl_pairAt.l0 (k + 1) l key (i : Int) (j : Int) = if Op.bytesLess ((rd_T51 l (((i + j) / 2 : Nat) : Int)).f0).toList key.toList = true then impl_pairAt.l0 k l key (((i + j) / 2 + 1 : Nat) : Int) (j : Int) else impl_pairAt.l0 k l key (i : Int) (((i + j) / 2 : Nat) : Int) := by
        intro k
        rw [impl_pairAt.l0, if_pos (by omega), e1, if_pos (by omega), if_pos (by omega), Lib.toList_data, Lib.toList_data]
        by_cases hb : Op.bytesLess ((rd_T51 l (((i + j) / 2 : Nat) : Int)).f0).data.toList key.data.toList = true
        · rw [if_pos hb, if_pos ((cmp_neg _ _).2 hb)]; rfl
        · rw [if_neg hb, if_neg (fun e => hb ((cmp_neg _ _).1 e))]
      refine Ev.step hstep ?_
      split
      · exact implAt_go l key hl f _ _ (by omega) (by omega) hj
      · exact implAt_go l key hl f _ _ (by omega) (by omega) (by omega)
    · rw [if_neg h1]
      exact Ev.step (fun k => by rw [impl_pairAt.l0, if_neg (by omega)]) (Ev.now _)
def atOf (l : List IP) (key : ByteArray) : Nat := atV l key (l.length + 1) 0 l.length
theorem atOf_le (l : List IP) (key : ByteArray) : atOf l key ≤ l.length := (atV_bd l key _ 0 l.length (by omega)).2
theorem specAt_ev (l : List IP) (key : ByteArray) (hl : l.length ≤ 1048576) : Ev (fun k => spec_l03At.f k l key) (atOf l key : Int) := specAt_go l key hl (l.length + 1) 0 l.length (by omega) (by omega) (by omega)
def hitB (l : List IP) (key : ByteArray) : Bool := decide (atOf l key < l.length) && (((rd_T51 l (atOf l key : Int)).f0).toList == key.toList)
theorem implAt_ev (l : List IP) (key : ByteArray) (hl : l.length ≤ 1048576) : Ev (fun k => impl_pairAt.f k l key) ((atOf l key : Int), hitB l key) := by
  unfold impl_pairAt.f
  refine Ev.bind (implAt_go l key hl (l.length + 1) 0 l.length (by omega) (by omega) (by omega)) ?_
  have hle := atOf_le l key
  have e : impl_pairAt.hit l key (atOf l key : Int) = hitB l key := by
    unfold impl_pairAt.hit hitB
    congr 1
    · rw [decide_eq_decide]; omega
    · rw [Lib.toList_data, Lib.toList_data, Bool.eq_iff_iff, beq_iff_eq, beq_iff_eq]
      exact cmp_zero _ _
  rw [show atV l key (l.length + 1) 0 l.length = atOf l key from rfl]
  simp only [if_pos (show (l.length : Int) < 1000000000000 by omega), if_pos (show (0 : Int) ≤ (atOf l key : Int) by omega), if_pos (show (atOf l key : Int) ≤ (l.length : Int) by omega), e]
  exact Ev.now _
/-- What is found, and whether. -/
def getV (l : List IP) (key : ByteArray) : ByteArray × Bool := if hitB l key = true then ((rd_T51 l (atOf l key : Int)).f1, true) else ((⟨#[]⟩ : ByteArray), false)
theorem specGet_ev (l : List IP) (key : ByteArray) (hl : l.length ≤ 1048576) : Ev (fun k => spec_l03Get.f k l key) (getV l key) := by
  unfold spec_l03Get.f getV hitB
  refine Ev.bind (specAt_ev l key hl) ?_
  by_cases h1 : atOf l key < l.length
  · simp only [if_pos (show (atOf l key : Int) < (l.length : Int) by omega), if_pos (show (0 : Int) ≤ (atOf l key : Int) by omega), decide_eq_true h1, Bool.true_and]
    by_cases h2 : ((rd_T51 l (atOf l key : Int)).f0).toList = key.toList
    · simp only [h2, beq_self_eq_true, if_true]; exact Ev.now _
    · simp only [if_neg h2, beq_eq_false_iff_ne.2 h2, Bool.false_eq_true, if_false]; exact Ev.now _
  · simp only [if_neg (show ¬ (atOf l key : Int) < (l.length : Int) by omega), decide_eq_false h1, Bool.false_and, Bool.false_eq_true, if_false]; exact Ev.now _
theorem implGet_ev (l : List IP) (key : ByteArray) (hl : l.length ≤ 1048576) : Ev (fun k => impl_get.f k l key) (getV l key) := by
  unfold impl_get.f getV
  refine Ev.bind (implAt_ev l key hl) ?_
  cases h : hitB l key with
  | false => simp only [Bool.false_eq_true, if_false]; exact Ev.now _
  | true =>
    have h1 : atOf l key < l.length := by
      unfold hitB at h
      rw [Bool.and_eq_true, decide_eq_true_iff] at h
      exact h.1
    simp only [if_true, if_pos (show (0 : Int) ≤ (atOf l key : Int) by omega), if_pos (show (atOf l key : Int) < (l.length : Int) by omega)]
    exact Ev.now _
end Go.Proofs.YtabmfhnhmoiljaaGreatDoor.U
