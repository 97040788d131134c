/- Parts of the proof: what single Go functions compute, each with its walk, and plain laws over these. -/
import Derived.Test.YtabmfhnhmoiljaaGreatDoorM0
import Derived.Test.YtabmfhnhmoiljaaGreatDoorM1
import Derived.Test.YtabmfhnhmoiljaaGreatDoorM2
import Derived.IntWalk
import Derived.Laws.BitsLemmas
import Derived.Test.YtabmfhnhmoiljaaGreatDoorVMore
import Derived.Lib.ItoaNum
import Derived.Lib.AtoiAllCases
namespace Go.Proofs.YtabmfhnhmoiljaaGreatDoor.Q
open Go.RowKit Go.Proofs.YtabmfhnhmoiljaaGreatDoorW.PrintWords Go.Proofs.YtabmfhnhmoiljaaGreatDoorW.PrintLast Go.Proofs.YtabmfhnhmoiljaaGreatDoorW.PrintMore
open Go.Proofs.YtabmfhnhmoiljaaGreatDoorW.PrintWords.Aside0 renaming mk → ζa
open Go.Proofs.YtabmfhnhmoiljaaGreatDoorW.PrintWords renaming gate_dst → δx, box_event → δz, below_step → δr, below_alloc → δk, pw_below_drewN → δi, below_drew1 → δj, below_size → δs, blk_cell → δl, blk_frozen → δm, below_set → δq, blk_drewN → δn, blk_drew → δp, blk_alloc → δo, gate_callee → δv
open List renaming map_toArray → δd, map_cons → δe, map_nil → δf, length_drop → δg, length_take → δh
open Go.Proofs.YtabmfhnhmoiljaaGreatDoorW.PrintWords.Kd renaming R_reads' → ζg, R_alloc → ζd, R_drewN → ζc, R_drew → ζe
open Bool renaming true → τ, false → φ
attribute [local go_sem] max2_int min2_int max_two min_two max_three min_three max_four min_four   -- for this text's walks alone
set_option linter.unusedVariables false
set_option linter.unusedSimpArgs false

/-! ### impl_OrderOK: function 106 -/
def impl_OrderOK.f (k:Nat) (a0_0:ByteArray) (a0_1:ByteArray) (a0_2:Int) (a0_3:Int) (a0_4:Int) (a0_5:Bool):Option (Bool):=(impl_areNames.f k (([a0_0]:List ByteArray))).bind fun t630=>(if t630=τ then ((impl_isPeople.f k (([a0_1]:List ByteArray))).bind fun t634=>(if t634=τ then ((impl_isSome.f a0_2).bind fun t635=>(if t635=τ then ((impl_isSome.f a0_3).bind fun t636=>(if t636=τ then ((impl_within.f a0_4 0 a0_2).bind fun t637=>(if t637=τ then (some ((decide (a0_4 > 0)) == a0_5)) else (some φ))) else (some φ))) else (some φ))) else (some φ))) else (some φ))
set_option maxHeartbeats 8000000 in
set_option maxRecDepth 100000 in
theorem impl_OrderOK.calls (k:Nat) (a0_0:ByteArray) (a0_1:ByteArray) (a0_2:Int) (a0_3:Int) (a0_4:Int) (a0_5:Bool) (r:Bool) (w:World) (h:impl_OrderOK.f k a0_0 a0_1 a0_2 a0_3 a0_4 a0_5=some r) :
  Calls Tryz.prog 106 #[.agg #[.string a0_0,.string a0_1,.int .i64 a0_2,.int .i64 a0_3,.int .i64 a0_4,.bool a0_5]] w fun e w'=>e = .returned (.bool r)∧Below w.heap.size w w':=by
 have hu66:=Tryz.underlying66
 have HB:=ζa (Below.refl w.heap.size w)
 have H:((impl_areNames.f k (([a0_0]:List ByteArray))).bind fun t630=>(if t630=τ then ((impl_isPeople.f k (([a0_1]:List ByteArray))).bind fun t634=>(if t634=τ then ((impl_isSome.f a0_2).bind fun t635=>(if t635=τ then ((impl_isSome.f a0_3).bind fun t636=>(if t636=τ then ((impl_within.f a0_4 0 a0_2).bind fun t637=>(if t637=τ then (some ((decide (a0_4 > 0)) == a0_5)) else (some φ))) else (some φ))) else (some φ))) else (some φ))) else (some φ)))=some r:=h
 clear h
 obtain ⟨y627,hy627⟩ : ∃ y_:List ByteArray,y_=(([a0_0]:List ByteArray)):=⟨_,rfl⟩
 replace H:((impl_areNames.f k y627).bind fun t630=>(if t630=τ then ((impl_isPeople.f k (([a0_1]:List ByteArray))).bind fun t634=>(if t634=τ then ((impl_isSome.f a0_2).bind fun t635=>(if t635=τ then ((impl_isSome.f a0_3).bind fun t636=>(if t636=τ then ((impl_within.f a0_4 0 a0_2).bind fun t637=>(if t637=τ then (some ((decide (a0_4 > 0)) == a0_5)) else (some φ))) else (some φ))) else (some φ))) else (some φ))) else (some φ)))=some r:=by first|(rw [hy627];with_reducible exact H)|(have H2_:=(Option.bind_some _ _).symm.trans H;rw [hy627];with_reducible exact H2_)|(have H2_:=(Option.bind_some _ _).symm.trans H;with_reducible exact H2_)|with_reducible exact H|(rw [hy627];exact H)|exact H
 have Ny627:=ζa hy627
 clear hy627
 replace H:=Option.bind_eq_some_iff.mp H
 obtain ⟨t630,A20,H⟩:=H
 replace H:(if t630=τ then ((impl_isPeople.f k (([a0_1]:List ByteArray))).bind fun t634=>(if t634=τ then ((impl_isSome.f a0_2).bind fun t635=>(if t635=τ then ((impl_isSome.f a0_3).bind fun t636=>(if t636=τ then ((impl_within.f a0_4 0 a0_2).bind fun t637=>(if t637=τ then (some ((decide (a0_4 > 0)) == a0_5)) else (some φ))) else (some φ))) else (some φ))) else (some φ))) else (some φ))=some r:=H
 have A2:=ζa A20
 clear A20
 by_cases c3:t630=τ
 ·
  subst c3
  have H1:((impl_isPeople.f k (([a0_1]:List ByteArray))).bind fun t634=>(if t634=τ then ((impl_isSome.f a0_2).bind fun t635=>(if t635=τ then ((impl_isSome.f a0_3).bind fun t636=>(if t636=τ then ((impl_within.f a0_4 0 a0_2).bind fun t637=>(if t637=τ then (some ((decide (a0_4 > 0)) == a0_5)) else (some φ))) else (some φ))) else (some φ))) else (some φ)))=some r:=by rw [if_pos rfl] at H;exact H
  clear H
  have H:=H1
  clear H1
  obtain ⟨y631,hy631⟩ : ∃ y_:List ByteArray,y_=(([a0_1]:List ByteArray)):=⟨_,rfl⟩
  replace H:((impl_isPeople.f k y631).bind fun t634=>(if t634=τ then ((impl_isSome.f a0_2).bind fun t635=>(if t635=τ then ((impl_isSome.f a0_3).bind fun t636=>(if t636=τ then ((impl_within.f a0_4 0 a0_2).bind fun t637=>(if t637=τ then (some ((decide (a0_4 > 0)) == a0_5)) else (some φ))) else (some φ))) else (some φ))) else (some φ)))=some r:=by first|(rw [hy631];with_reducible exact H)|(have H2_:=(Option.bind_some _ _).symm.trans H;rw [hy631];with_reducible exact H2_)|(have H2_:=(Option.bind_some _ _).symm.trans H;with_reducible exact H2_)|with_reducible exact H|(rw [hy631];exact H)|exact H
  have Ny631:=ζa hy631
  clear hy631
  replace H:=Option.bind_eq_some_iff.mp H
  obtain ⟨t634,A40,H⟩:=H
  replace H:(if t634=τ then ((impl_isSome.f a0_2).bind fun t635=>(if t635=τ then ((impl_isSome.f a0_3).bind fun t636=>(if t636=τ then ((impl_within.f a0_4 0 a0_2).bind fun t637=>(if t637=τ then (some ((decide (a0_4 > 0)) == a0_5)) else (some φ))) else (some φ))) else (some φ))) else (some φ))=some r:=H
  have A4:=ζa A40
  clear A40
  by_cases c5:t634=τ
  ·
   subst c5
   have H1:((impl_isSome.f a0_2).bind fun t635=>(if t635=τ then ((impl_isSome.f a0_3).bind fun t636=>(if t636=τ then ((impl_within.f a0_4 0 a0_2).bind fun t637=>(if t637=τ then (some ((decide (a0_4 > 0)) == a0_5)) else (some φ))) else (some φ))) else (some φ)))=some r:=by rw [if_pos rfl] at H;exact H
   clear H
   have H:=H1
   clear H1
   replace H:=Option.bind_eq_some_iff.mp H
   obtain ⟨t635,A60,H⟩:=H
   replace H:(if t635=τ then ((impl_isSome.f a0_3).bind fun t636=>(if t636=τ then ((impl_within.f a0_4 0 a0_2).bind fun t637=>(if t637=τ then (some ((decide (a0_4 > 0)) == a0_5)) else (some φ))) else (some φ))) else (some φ))=some r:=H
   have A6:=ζa A60
   clear A60
   by_cases c7:t635=τ
   ·
    subst c7
    have H1:((impl_isSome.f a0_3).bind fun t636=>(if t636=τ then ((impl_within.f a0_4 0 a0_2).bind fun t637=>(if t637=τ then (some ((decide (a0_4 > 0)) == a0_5)) else (some φ))) else (some φ)))=some r:=by rw [if_pos rfl] at H;exact H
    clear H
    have H:=H1
    clear H1
    replace H:=Option.bind_eq_some_iff.mp H
    obtain ⟨t636,A80,H⟩:=H
    replace H:(if t636=τ then ((impl_within.f a0_4 0 a0_2).bind fun t637=>(if t637=τ then (some ((decide (a0_4 > 0)) == a0_5)) else (some φ))) else (some φ))=some r:=H
    have A8:=ζa A80
    clear A80
    by_cases c9:t636=τ
    ·
     subst c9
     have H1:((impl_within.f a0_4 0 a0_2).bind fun t637=>(if t637=τ then (some ((decide (a0_4 > 0)) == a0_5)) else (some φ)))=some r:=by rw [if_pos rfl] at H;exact H
     clear H
     have H:=H1
     clear H1
     replace H:=Option.bind_eq_some_iff.mp H
     obtain ⟨t637,A100,H⟩:=H
     replace H:(if t637=τ then (some ((decide (a0_4 > 0)) == a0_5)) else (some φ))=some r:=H
     have A10:=ζa A100
     clear A100
     by_cases c11:t637=τ
     ·
      subst c11
      have H1:(some ((decide (a0_4 > 0)) == a0_5))=some r:=by rw [if_pos rfl] at H;exact H
      clear H
      have H:=H1
      clear H1
      obtain rfl:=Option.some.inj H
      go_enter Tryz.func106,Tryz.ntmps106
      go_wp2_with (first|((with_reducible refine δx (N:=1) rfl ?_);(try (refine gate_guard (by rfl) ?_;dsimp only));refine δz ?hg (N:=1) ?hd (cs:=#[.string a0_0,.string a0_1,.int .i64 a0_2,.int .i64 a0_3,.int .i64 a0_4,.bool a0_5]) (t:=66) ?hr ?_;(case hd=>rfl);(case hg=>rfl);(case hr=>first|(go_simp;done)|(go_simp;rfl));intro gb626 hg w12 hbox hb;have n0_:=ζa (δr (by repeat (first|(with_reducible first|exact HB.out|apply δk|apply δi|apply δj)|exact HB.out)) hb);have n1_:=ζa (hbox);have n2_:=ζa ((by rw [hg];exact (δs (by repeat (first|(with_reducible first|exact HB.out|apply δk|apply δi|apply δj)|exact HB.out))):w.heap.size≤gb626));have n3_:=ζa ((by rw [hg];exact (δs (by repeat (first|(with_reducible first|exact HB.out|apply δk|apply δi|apply δj)|exact HB.out))):w.heap.size≤gb626));clear HB;have HB:=n0_;have BK626:=n1_;have GW626:=n2_;have GE626:=n3_;clear n0_ n1_ n2_ n3_;clear hb hbox hg;have hcz13_0:w12.cell? ⟨gb626,0,none⟩=some (.string a0_0):=(δl BK626.out 0).trans rfl;have hcz13_1:w12.cell? ⟨gb626,1,none⟩=some (.string a0_1):=(δl BK626.out 1).trans rfl;have hcz13_2:w12.cell? ⟨gb626,2,none⟩=some (.int .i64 a0_2):=(δl BK626.out 2).trans rfl;have hcz13_3:w12.cell? ⟨gb626,3,none⟩=some (.int .i64 a0_3):=(δl BK626.out 3).trans rfl;have hcz13_4:w12.cell? ⟨gb626,4,none⟩=some (.int .i64 a0_4):=(δl BK626.out 4).trans rfl;have hcz13_5:w12.cell? ⟨gb626,5,none⟩=some (.bool a0_5):=(δl BK626.out 5).trans rfl;have hfz13_0:=δm BK626.out 0;have hfz13_1:=δm BK626.out 1;have hfz13_2:=δm BK626.out 2;have hfz13_3:=δm BK626.out 3;have hfz13_4:=δm BK626.out 4;have hfz13_5:=δm BK626.out 5)|((with_reducible refine δx (N:=5) rfl ?_);(try (refine gate_guard (by rfl) ?_;dsimp only));refine Kd.R_lit Kd.string _ 9 ?hg (N:=5) ?hd (xs:=([a0_0]:List ByteArray)) (inner:=[.string a0_0]) (ok:=fun _=>True) (okp:=fun _=>True) ?hr ?hp (fun _ hk=>hk) trivial (Below.refl _ _) (Nat.le_refl _) (by simp) ?_;(case hd=>rfl);(case hg=>rfl);(case hr=>first|(go_simp;done)|(go_simp;rfl));(case hp=>exact (Reps.one (show Kd.M Kd.string _ _ _ a0_0 [.string a0_0] from rfl) (Reps.none _ _)));intro v628 w14 ho15 hb hg_ hnew_;clear hg_ hnew_;(first|rw [← Ny627.out] at ho15|(simp only [Int.reduceToNat] at ho15;rw [← Ny627.out] at ho15));have n0_:=ζa (Kd.R_lower ho15 (δs (by repeat (first|(with_reducible first|exact HB.out|apply δk|apply δi|apply δj|refine δq ?_ GE626.out)|exact HB.out))));have n1_:=ζa (blk_below (g:=gb626) (o:=.cells #[.string a0_0,.string a0_1,.int .i64 a0_2,.int .i64 a0_3,.int .i64 a0_4,.bool a0_5] 66 (0,0)) (by (with_reducible repeat (first|refine δn ?_ _|refine δp ?_|refine δo ?_ _));exact BK626.out) hb);have n2_:=ζa (δr (by repeat (first|(with_reducible first|exact HB.out|apply δk|apply δi|apply δj|refine δq ?_ GE626.out)|exact HB.out)) hb);clear BK626;clear HB;have HO629:=n0_;have BK626:=n1_;have HB:=n2_;clear n0_ n1_ n2_;clear hb ho15;obtain ⟨Ao16,co16,eo16⟩:=Kd.R_slice HO629.out;subst eo16)|((with_reducible refine δv (f:=63) rfl ?_);refine goesL_ (some 6) rfl rfl Tryz.func63 (by kernel_rfl) rfl #[.slice Ao16 y627.length co16] rfl (by (try simp only [δd,δe,δf]);first|done|rfl|(simp only [δg,δh];rfl)) ?_;(with_reducible refine (impl_areNames.calls k _ _ y627 τ _ ?side1 ?side2 A2.out).mono ?_);(case side1=>repeat (first|exact (ζg HO629.out).2.2|(with_reducible refine Kd.C_alloc ?_ _)|(with_reducible refine Kd.C_drewN ?_ _)|(with_reducible refine Kd.C_drew ?_)));(case side2=>exact (ζg HO629.out).2.1);rintro e w' ⟨rfl,⟨nd,rfl⟩⟩;refine ⟨_,rfl,?_⟩;have hcz17_0:w14.cell? ⟨gb626,0,none⟩=some (.string a0_0):=(δl BK626.out 0).trans rfl;have hcz17_1:w14.cell? ⟨gb626,1,none⟩=some (.string a0_1):=(δl BK626.out 1).trans rfl;have hcz17_2:w14.cell? ⟨gb626,2,none⟩=some (.int .i64 a0_2):=(δl BK626.out 2).trans rfl;have hcz17_3:w14.cell? ⟨gb626,3,none⟩=some (.int .i64 a0_3):=(δl BK626.out 3).trans rfl;have hcz17_4:w14.cell? ⟨gb626,4,none⟩=some (.int .i64 a0_4):=(δl BK626.out 4).trans rfl;have hcz17_5:w14.cell? ⟨gb626,5,none⟩=some (.bool a0_5):=(δl BK626.out 5).trans rfl;have hfz17_0:=δm BK626.out 0;have hfz17_1:=δm BK626.out 1;have hfz17_2:=δm BK626.out 2;have hfz17_3:=δm BK626.out 3;have hfz17_4:=δm BK626.out 4;have hfz17_5:=δm BK626.out 5)|((with_reducible refine δx (N:=10) rfl ?_);(try (refine gate_guard (by rfl) ?_;dsimp only));refine Kd.R_lit Kd.string _ 9 ?hg (N:=10) ?hd (xs:=([a0_1]:List ByteArray)) (inner:=[.string a0_1]) (ok:=fun _=>True) (okp:=fun _=>True) ?hr ?hp (fun _ hk=>hk) trivial (Below.refl _ _) (Nat.le_refl _) (by simp) ?_;(case hd=>rfl);(case hg=>rfl);(case hr=>first|(go_simp;done)|(go_simp;rfl));(case hp=>exact (Reps.one (show Kd.M Kd.string _ _ _ a0_1 [.string a0_1] from rfl) (Reps.none _ _)));intro v632 w18 ho19 hb hg_ hnew_;clear hg_ hnew_;(first|rw [← Ny631.out] at ho19|(simp only [Int.reduceToNat] at ho19;rw [← Ny631.out] at ho19));have n0_:=ζa (Kd.R_elder' (by (with_reducible repeat (first|apply ζd|apply ζc|apply ζe));exact HO629.out) (Kd.R_base ho19) hb);have n1_:=ζa (Kd.R_lower (Kd.R_new' ho19 (Kd.R_lt (by (with_reducible repeat (first|apply ζd|apply ζc|apply ζe));exact HO629.out))) (δs (by repeat (first|(with_reducible first|exact HB.out|apply δk|apply δi|apply δj|refine δq ?_ GE626.out)|exact HB.out))));have n2_:=ζa (blk_below (g:=gb626) (o:=.cells #[.string a0_0,.string a0_1,.int .i64 a0_2,.int .i64 a0_3,.int .i64 a0_4,.bool a0_5] 66 (0,0)) (by (with_reducible repeat (first|refine δn ?_ _|refine δp ?_|refine δo ?_ _));exact BK626.out) hb);have n3_:=ζa (δr (by repeat (first|(with_reducible first|exact HB.out|apply δk|apply δi|apply δj|refine δq ?_ GE626.out)|exact HB.out)) hb);clear HO629;clear BK626;clear HB;have HO629:=n0_;have HO633:=n1_;have BK626:=n2_;have HB:=n3_;clear n0_ n1_ n2_ n3_;clear hb ho19;obtain ⟨Ao20,co20,eo20⟩:=Kd.R_slice HO633.out;subst eo20)|(go_at_call 121;(with_reducible refine (impl_isPeople.calls k _ _ y631 τ _ ?side1 ?side2 A4.out).mono ?_);(case side1=>repeat (first|exact (ζg HO633.out).2.2|(with_reducible refine Kd.C_alloc ?_ _)|(with_reducible refine Kd.C_drewN ?_ _)|(with_reducible refine Kd.C_drew ?_)));(case side2=>exact (ζg HO633.out).2.1);rintro e w' ⟨rfl,⟨nd,rfl⟩⟩;have hcz21_0:w18.cell? ⟨gb626,0,none⟩=some (.string a0_0):=(δl BK626.out 0).trans rfl;have hcz21_1:w18.cell? ⟨gb626,1,none⟩=some (.string a0_1):=(δl BK626.out 1).trans rfl;have hcz21_2:w18.cell? ⟨gb626,2,none⟩=some (.int .i64 a0_2):=(δl BK626.out 2).trans rfl;have hcz21_3:w18.cell? ⟨gb626,3,none⟩=some (.int .i64 a0_3):=(δl BK626.out 3).trans rfl;have hcz21_4:w18.cell? ⟨gb626,4,none⟩=some (.int .i64 a0_4):=(δl BK626.out 4).trans rfl;have hcz21_5:w18.cell? ⟨gb626,5,none⟩=some (.bool a0_5):=(δl BK626.out 5).trans rfl;have hfz21_0:=δm BK626.out 0;have hfz21_1:=δm BK626.out 1;have hfz21_2:=δm BK626.out 2;have hfz21_3:=δm BK626.out 3;have hfz21_4:=δm BK626.out 4;have hfz21_5:=δm BK626.out 5)|(go_at_call 122;(with_reducible refine (impl_isSome.calls a0_2 τ _ A6.out).mono ?_);rintro e w' ⟨rfl,⟨nd,rfl⟩⟩)|(go_at_call 122;(with_reducible refine (impl_isSome.calls a0_3 τ _ A8.out).mono ?_);rintro e w' ⟨rfl,⟨nd,rfl⟩⟩)|(go_at_call 161;(with_reducible refine (impl_within.calls a0_4 0 a0_2 τ _ A10.out).mono ?_);rintro e w' ⟨rfl,⟨nd,rfl⟩⟩))
      go_ret
      exact ⟨by first|rfl|(simp [errW_none,errW_some] <;> rfl)|(simp [*,errW_none,errW_some] <;> rfl),by repeat (first|(with_reducible first|exact HB.out|apply δk|apply δi|apply δj|refine δq ?_ GE626.out)|exact HB.out)⟩
     ·
      replace c11:=Bool.eq_false_iff.mpr c11
      subst c11
      have H1:(some φ)=some r:=by rw [if_neg (show ¬ (φ=τ) by decide)] at H;exact H
      clear H
      have H:=H1
      clear H1
      obtain rfl:=Option.some.inj H
      go_enter Tryz.func106,Tryz.ntmps106
      go_wp2_with (first|((with_reducible refine δx (N:=1) rfl ?_);(try (refine gate_guard (by rfl) ?_;dsimp only));refine δz ?hg (N:=1) ?hd (cs:=#[.string a0_0,.string a0_1,.int .i64 a0_2,.int .i64 a0_3,.int .i64 a0_4,.bool a0_5]) (t:=66) ?hr ?_;(case hd=>rfl);(case hg=>rfl);(case hr=>first|(go_simp;done)|(go_simp;rfl));intro gb626 hg w22 hbox hb;have n0_:=ζa (δr (by repeat (first|(with_reducible first|exact HB.out|apply δk|apply δi|apply δj)|exact HB.out)) hb);have n1_:=ζa (hbox);have n2_:=ζa ((by rw [hg];exact (δs (by repeat (first|(with_reducible first|exact HB.out|apply δk|apply δi|apply δj)|exact HB.out))):w.heap.size≤gb626));have n3_:=ζa ((by rw [hg];exact (δs (by repeat (first|(with_reducible first|exact HB.out|apply δk|apply δi|apply δj)|exact HB.out))):w.heap.size≤gb626));clear HB;have HB:=n0_;have BK626:=n1_;have GW626:=n2_;have GE626:=n3_;clear n0_ n1_ n2_ n3_;clear hb hbox hg;have hcz23_0:w22.cell? ⟨gb626,0,none⟩=some (.string a0_0):=(δl BK626.out 0).trans rfl;have hcz23_1:w22.cell? ⟨gb626,1,none⟩=some (.string a0_1):=(δl BK626.out 1).trans rfl;have hcz23_2:w22.cell? ⟨gb626,2,none⟩=some (.int .i64 a0_2):=(δl BK626.out 2).trans rfl;have hcz23_3:w22.cell? ⟨gb626,3,none⟩=some (.int .i64 a0_3):=(δl BK626.out 3).trans rfl;have hcz23_4:w22.cell? ⟨gb626,4,none⟩=some (.int .i64 a0_4):=(δl BK626.out 4).trans rfl;have hcz23_5:w22.cell? ⟨gb626,5,none⟩=some (.bool a0_5):=(δl BK626.out 5).trans rfl;have hfz23_0:=δm BK626.out 0;have hfz23_1:=δm BK626.out 1;have hfz23_2:=δm BK626.out 2;have hfz23_3:=δm BK626.out 3;have hfz23_4:=δm BK626.out 4;have hfz23_5:=δm BK626.out 5)|((with_reducible refine δx (N:=5) rfl ?_);(try (refine gate_guard (by rfl) ?_;dsimp only));refine Kd.R_lit Kd.string _ 9 ?hg (N:=5) ?hd (xs:=([a0_0]:List ByteArray)) (inner:=[.string a0_0]) (ok:=fun _=>True) (okp:=fun _=>True) ?hr ?hp (fun _ hk=>hk) trivial (Below.refl _ _) (Nat.le_refl _) (by simp) ?_;(case hd=>rfl);(case hg=>rfl);(case hr=>first|(go_simp;done)|(go_simp;rfl));(case hp=>exact (Reps.one (show Kd.M Kd.string _ _ _ a0_0 [.string a0_0] from rfl) (Reps.none _ _)));intro v628 w24 ho25 hb hg_ hnew_;clear hg_ hnew_;(first|rw [← Ny627.out] at ho25|(simp only [Int.reduceToNat] at ho25;rw [← Ny627.out] at ho25));have n0_:=ζa (Kd.R_lower ho25 (δs (by repeat (first|(with_reducible first|exact HB.out|apply δk|apply δi|apply δj|refine δq ?_ GE626.out)|exact HB.out))));have n1_:=ζa (blk_below (g:=gb626) (o:=.cells #[.string a0_0,.string a0_1,.int .i64 a0_2,.int .i64 a0_3,.int .i64 a0_4,.bool a0_5] 66 (0,0)) (by (with_reducible repeat (first|refine δn ?_ _|refine δp ?_|refine δo ?_ _));exact BK626.out) hb);have n2_:=ζa (δr (by repeat (first|(with_reducible first|exact HB.out|apply δk|apply δi|apply δj|refine δq ?_ GE626.out)|exact HB.out)) hb);clear BK626;clear HB;have HO629:=n0_;have BK626:=n1_;have HB:=n2_;clear n0_ n1_ n2_;clear hb ho25;obtain ⟨Ao26,co26,eo26⟩:=Kd.R_slice HO629.out;subst eo26)|((with_reducible refine δv (f:=63) rfl ?_);refine goesL_ (some 6) rfl rfl Tryz.func63 (by kernel_rfl) rfl #[.slice Ao26 y627.length co26] rfl (by (try simp only [δd,δe,δf]);first|done|rfl|(simp only [δg,δh];rfl)) ?_;(with_reducible refine (impl_areNames.calls k _ _ y627 τ _ ?side1 ?side2 A2.out).mono ?_);(case side1=>repeat (first|exact (ζg HO629.out).2.2|(with_reducible refine Kd.C_alloc ?_ _)|(with_reducible refine Kd.C_drewN ?_ _)|(with_reducible refine Kd.C_drew ?_)));(case side2=>exact (ζg HO629.out).2.1);rintro e w' ⟨rfl,⟨nd,rfl⟩⟩;refine ⟨_,rfl,?_⟩;have hcz27_0:w24.cell? ⟨gb626,0,none⟩=some (.string a0_0):=(δl BK626.out 0).trans rfl;have hcz27_1:w24.cell? ⟨gb626,1,none⟩=some (.string a0_1):=(δl BK626.out 1).trans rfl;have hcz27_2:w24.cell? ⟨gb626,2,none⟩=some (.int .i64 a0_2):=(δl BK626.out 2).trans rfl;have hcz27_3:w24.cell? ⟨gb626,3,none⟩=some (.int .i64 a0_3):=(δl BK626.out 3).trans rfl;have hcz27_4:w24.cell? ⟨gb626,4,none⟩=some (.int .i64 a0_4):=(δl BK626.out 4).trans rfl;have hcz27_5:w24.cell? ⟨gb626,5,none⟩=some (.bool a0_5):=(δl BK626.out 5).trans rfl;have hfz27_0:=δm BK626.out 0;have hfz27_1:=δm BK626.out 1;have hfz27_2:=δm BK626.out 2;have hfz27_3:=δm BK626.out 3;have hfz27_4:=δm BK626.out 4;have hfz27_5:=δm BK626.out 5)|((with_reducible refine δx (N:=10) rfl ?_);(try (refine gate_guard (by rfl) ?_;dsimp only));refine Kd.R_lit Kd.string _ 9 ?hg (N:=10) ?hd (xs:=([a0_1]:List ByteArray)) (inner:=[.string a0_1]) (ok:=fun _=>True) (okp:=fun _=>True) ?hr ?hp (fun _ hk=>hk) trivial (Below.refl _ _) (Nat.le_refl _) (by simp) ?_;(case hd=>rfl);(case hg=>rfl);(case hr=>first|(go_simp;done)|(go_simp;rfl));(case hp=>exact (Reps.one (show Kd.M Kd.string _ _ _ a0_1 [.string a0_1] from rfl) (Reps.none _ _)));intro v632 w28 ho29 hb hg_ hnew_;clear hg_ hnew_;(first|rw [← Ny631.out] at ho29|(simp only [Int.reduceToNat] at ho29;rw [← Ny631.out] at ho29));have n0_:=ζa (Kd.R_elder' (by (with_reducible repeat (first|apply ζd|apply ζc|apply ζe));exact HO629.out) (Kd.R_base ho29) hb);have n1_:=ζa (Kd.R_lower (Kd.R_new' ho29 (Kd.R_lt (by (with_reducible repeat (first|apply ζd|apply ζc|apply ζe));exact HO629.out))) (δs (by repeat (first|(with_reducible first|exact HB.out|apply δk|apply δi|apply δj|refine δq ?_ GE626.out)|exact HB.out))));have n2_:=ζa (blk_below (g:=gb626) (o:=.cells #[.string a0_0,.string a0_1,.int .i64 a0_2,.int .i64 a0_3,.int .i64 a0_4,.bool a0_5] 66 (0,0)) (by (with_reducible repeat (first|refine δn ?_ _|refine δp ?_|refine δo ?_ _));exact BK626.out) hb);have n3_:=ζa (δr (by repeat (first|(with_reducible first|exact HB.out|apply δk|apply δi|apply δj|refine δq ?_ GE626.out)|exact HB.out)) hb);clear HO629;clear BK626;clear HB;have HO629:=n0_;have HO633:=n1_;have BK626:=n2_;have HB:=n3_;clear n0_ n1_ n2_ n3_;clear hb ho29;obtain ⟨Ao30,co30,eo30⟩:=Kd.R_slice HO633.out;subst eo30)|(go_at_call 121;(with_reducible refine (impl_isPeople.calls k _ _ y631 τ _ ?side1 ?side2 A4.out).mono ?_);(case side1=>repeat (first|exact (ζg HO633.out).2.2|(with_reducible refine Kd.C_alloc ?_ _)|(with_reducible refine Kd.C_drewN ?_ _)|(with_reducible refine Kd.C_drew ?_)));(case side2=>exact (ζg HO633.out).2.1);rintro e w' ⟨rfl,⟨nd,rfl⟩⟩;have hcz31_0:w28.cell? ⟨gb626,0,none⟩=some (.string a0_0):=(δl BK626.out 0).trans rfl;have hcz31_1:w28.cell? ⟨gb626,1,none⟩=some (.string a0_1):=(δl BK626.out 1).trans rfl;have hcz31_2:w28.cell? ⟨gb626,2,none⟩=some (.int .i64 a0_2):=(δl BK626.out 2).trans rfl;have hcz31_3:w28.cell? ⟨gb626,3,none⟩=some (.int .i64 a0_3):=(δl BK626.out 3).trans rfl;have hcz31_4:w28.cell? ⟨gb626,4,none⟩=some (.int .i64 a0_4):=(δl BK626.out 4).trans rfl;have hcz31_5:w28.cell? ⟨gb626,5,none⟩=some (.bool a0_5):=(δl BK626.out 5).trans rfl;have hfz31_0:=δm BK626.out 0;have hfz31_1:=δm BK626.out 1;have hfz31_2:=δm BK626.out 2;have hfz31_3:=δm BK626.out 3;have hfz31_4:=δm BK626.out 4;have hfz31_5:=δm BK626.out 5)|(go_at_call 122;(with_reducible refine (impl_isSome.calls a0_2 τ _ A6.out).mono ?_);rintro e w' ⟨rfl,⟨nd,rfl⟩⟩)|(go_at_call 122;(with_reducible refine (impl_isSome.calls a0_3 τ _ A8.out).mono ?_);rintro e w' ⟨rfl,⟨nd,rfl⟩⟩)|(go_at_call 161;(with_reducible refine (impl_within.calls a0_4 0 a0_2 φ _ A10.out).mono ?_);rintro e w' ⟨rfl,⟨nd,rfl⟩⟩))
      go_ret
      exact ⟨by first|rfl|(simp [errW_none,errW_some] <;> rfl)|(simp [*,errW_none,errW_some] <;> rfl),by repeat (first|(with_reducible first|exact HB.out|apply δk|apply δi|apply δj|refine δq ?_ GE626.out)|exact HB.out)⟩
    ·
     replace c9:=Bool.eq_false_iff.mpr c9
     subst c9
     have H1:(some φ)=some r:=by rw [if_neg (show ¬ (φ=τ) by decide)] at H;exact H
     clear H
     have H:=H1
     clear H1
     obtain rfl:=Option.some.inj H
     go_enter Tryz.func106,Tryz.ntmps106
     go_wp2_with (first|((with_reducible refine δx (N:=1) rfl ?_);(try (refine gate_guard (by rfl) ?_;dsimp only));refine δz ?hg (N:=1) ?hd (cs:=#[.string a0_0,.string a0_1,.int .i64 a0_2,.int .i64 a0_3,.int .i64 a0_4,.bool a0_5]) (t:=66) ?hr ?_;(case hd=>rfl);(case hg=>rfl);(case hr=>first|(go_simp;done)|(go_simp;rfl));intro gb626 hg w32 hbox hb;have n0_:=ζa (δr (by repeat (first|(with_reducible first|exact HB.out|apply δk|apply δi|apply δj)|exact HB.out)) hb);have n1_:=ζa (hbox);have n2_:=ζa ((by rw [hg];exact (δs (by repeat (first|(with_reducible first|exact HB.out|apply δk|apply δi|apply δj)|exact HB.out))):w.heap.size≤gb626));have n3_:=ζa ((by rw [hg];exact (δs (by repeat (first|(with_reducible first|exact HB.out|apply δk|apply δi|apply δj)|exact HB.out))):w.heap.size≤gb626));clear HB;have HB:=n0_;have BK626:=n1_;have GW626:=n2_;have GE626:=n3_;clear n0_ n1_ n2_ n3_;clear hb hbox hg;have hcz33_0:w32.cell? ⟨gb626,0,none⟩=some (.string a0_0):=(δl BK626.out 0).trans rfl;have hcz33_1:w32.cell? ⟨gb626,1,none⟩=some (.string a0_1):=(δl BK626.out 1).trans rfl;have hcz33_2:w32.cell? ⟨gb626,2,none⟩=some (.int .i64 a0_2):=(δl BK626.out 2).trans rfl;have hcz33_3:w32.cell? ⟨gb626,3,none⟩=some (.int .i64 a0_3):=(δl BK626.out 3).trans rfl;have hcz33_4:w32.cell? ⟨gb626,4,none⟩=some (.int .i64 a0_4):=(δl BK626.out 4).trans rfl;have hcz33_5:w32.cell? ⟨gb626,5,none⟩=some (.bool a0_5):=(δl BK626.out 5).trans rfl;have hfz33_0:=δm BK626.out 0;have hfz33_1:=δm BK626.out 1;have hfz33_2:=δm BK626.out 2;have hfz33_3:=δm BK626.out 3;have hfz33_4:=δm BK626.out 4;have hfz33_5:=δm BK626.out 5)|((with_reducible refine δx (N:=5) rfl ?_);(try (refine gate_guard (by rfl) ?_;dsimp only));refine Kd.R_lit Kd.string _ 9 ?hg (N:=5) ?hd (xs:=([a0_0]:List ByteArray)) (inner:=[.string a0_0]) (ok:=fun _=>True) (okp:=fun _=>True) ?hr ?hp (fun _ hk=>hk) trivial (Below.refl _ _) (Nat.le_refl _) (by simp) ?_;(case hd=>rfl);(case hg=>rfl);(case hr=>first|(go_simp;done)|(go_simp;rfl));(case hp=>exact (Reps.one (show Kd.M Kd.string _ _ _ a0_0 [.string a0_0] from rfl) (Reps.none _ _)));intro v628 w34 ho35 hb hg_ hnew_;clear hg_ hnew_;(first|rw [← Ny627.out] at ho35|(simp only [Int.reduceToNat] at ho35;rw [← Ny627.out] at ho35));have n0_:=ζa (Kd.R_lower ho35 (δs (by repeat (first|(with_reducible first|exact HB.out|apply δk|apply δi|apply δj|refine δq ?_ GE626.out)|exact HB.out))));have n1_:=ζa (blk_below (g:=gb626) (o:=.cells #[.string a0_0,.string a0_1,.int .i64 a0_2,.int .i64 a0_3,.int .i64 a0_4,.bool a0_5] 66 (0,0)) (by (with_reducible repeat (first|refine δn ?_ _|refine δp ?_|refine δo ?_ _));exact BK626.out) hb);have n2_:=ζa (δr (by repeat (first|(with_reducible first|exact HB.out|apply δk|apply δi|apply δj|refine δq ?_ GE626.out)|exact HB.out)) hb);clear BK626;clear HB;have HO629:=n0_;have BK626:=n1_;have HB:=n2_;clear n0_ n1_ n2_;clear hb ho35;obtain ⟨Ao36,co36,eo36⟩:=Kd.R_slice HO629.out;subst eo36)|((with_reducible refine δv (f:=63) rfl ?_);refine goesL_ (some 6) rfl rfl Tryz.func63 (by kernel_rfl) rfl #[.slice Ao36 y627.length co36] rfl (by (try simp only [δd,δe,δf]);first|done|rfl|(simp only [δg,δh];rfl)) ?_;(with_reducible refine (impl_areNames.calls k _ _ y627 τ _ ?side1 ?side2 A2.out).mono ?_);(case side1=>repeat (first|exact (ζg HO629.out).2.2|(with_reducible refine Kd.C_alloc ?_ _)|(with_reducible refine Kd.C_drewN ?_ _)|(with_reducible refine Kd.C_drew ?_)));(case side2=>exact (ζg HO629.out).2.1);rintro e w' ⟨rfl,⟨nd,rfl⟩⟩;refine ⟨_,rfl,?_⟩;have hcz37_0:w34.cell? ⟨gb626,0,none⟩=some (.string a0_0):=(δl BK626.out 0).trans rfl;have hcz37_1:w34.cell? ⟨gb626,1,none⟩=some (.string a0_1):=(δl BK626.out 1).trans rfl;have hcz37_2:w34.cell? ⟨gb626,2,none⟩=some (.int .i64 a0_2):=(δl BK626.out 2).trans rfl;have hcz37_3:w34.cell? ⟨gb626,3,none⟩=some (.int .i64 a0_3):=(δl BK626.out 3).trans rfl;have hcz37_4:w34.cell? ⟨gb626,4,none⟩=some (.int .i64 a0_4):=(δl BK626.out 4).trans rfl;have hcz37_5:w34.cell? ⟨gb626,5,none⟩=some (.bool a0_5):=(δl BK626.out 5).trans rfl;have hfz37_0:=δm BK626.out 0;have hfz37_1:=δm BK626.out 1;have hfz37_2:=δm BK626.out 2;have hfz37_3:=δm BK626.out 3;have hfz37_4:=δm BK626.out 4;have hfz37_5:=δm BK626.out 5)|((with_reducible refine δx (N:=10) rfl ?_);(try (refine gate_guard (by rfl) ?_;dsimp only));refine Kd.R_lit Kd.string _ 9 ?hg (N:=10) ?hd (xs:=([a0_1]:List ByteArray)) (inner:=[.string a0_1]) (ok:=fun _=>True) (okp:=fun _=>True) ?hr ?hp (fun _ hk=>hk) trivial (Below.refl _ _) (Nat.le_refl _) (by simp) ?_;(case hd=>rfl);(case hg=>rfl);(case hr=>first|(go_simp;done)|(go_simp;rfl));(case hp=>exact (Reps.one (show Kd.M Kd.string _ _ _ a0_1 [.string a0_1] from rfl) (Reps.none _ _)));intro v632 w38 ho39 hb hg_ hnew_;clear hg_ hnew_;(first|rw [← Ny631.out] at ho39|(simp only [Int.reduceToNat] at ho39;rw [← Ny631.out] at ho39));have n0_:=ζa (Kd.R_elder' (by (with_reducible repeat (first|apply ζd|apply ζc|apply ζe));exact HO629.out) (Kd.R_base ho39) hb);have n1_:=ζa (Kd.R_lower (Kd.R_new' ho39 (Kd.R_lt (by (with_reducible repeat (first|apply ζd|apply ζc|apply ζe));exact HO629.out))) (δs (by repeat (first|(with_reducible first|exact HB.out|apply δk|apply δi|apply δj|refine δq ?_ GE626.out)|exact HB.out))));have n2_:=ζa (blk_below (g:=gb626) (o:=.cells #[.string a0_0,.string a0_1,.int .i64 a0_2,.int .i64 a0_3,.int .i64 a0_4,.bool a0_5] 66 (0,0)) (by (with_reducible repeat (first|refine δn ?_ _|refine δp ?_|refine δo ?_ _));exact BK626.out) hb);have n3_:=ζa (δr (by repeat (first|(with_reducible first|exact HB.out|apply δk|apply δi|apply δj|refine δq ?_ GE626.out)|exact HB.out)) hb);clear HO629;clear BK626;clear HB;have HO629:=n0_;have HO633:=n1_;have BK626:=n2_;have HB:=n3_;clear n0_ n1_ n2_ n3_;clear hb ho39;obtain ⟨Ao40,co40,eo40⟩:=Kd.R_slice HO633.out;subst eo40)|(go_at_call 121;(with_reducible refine (impl_isPeople.calls k _ _ y631 τ _ ?side1 ?side2 A4.out).mono ?_);(case side1=>repeat (first|exact (ζg HO633.out).2.2|(with_reducible refine Kd.C_alloc ?_ _)|(with_reducible refine Kd.C_drewN ?_ _)|(with_reducible refine Kd.C_drew ?_)));(case side2=>exact (ζg HO633.out).2.1);rintro e w' ⟨rfl,⟨nd,rfl⟩⟩;have hcz41_0:w38.cell? ⟨gb626,0,none⟩=some (.string a0_0):=(δl BK626.out 0).trans rfl;have hcz41_1:w38.cell? ⟨gb626,1,none⟩=some (.string a0_1):=(δl BK626.out 1).trans rfl;have hcz41_2:w38.cell? ⟨gb626,2,none⟩=some (.int .i64 a0_2):=(δl BK626.out 2).trans rfl;have hcz41_3:w38.cell? ⟨gb626,3,none⟩=some (.int .i64 a0_3):=(δl BK626.out 3).trans rfl;have hcz41_4:w38.cell? ⟨gb626,4,none⟩=some (.int .i64 a0_4):=(δl BK626.out 4).trans rfl;have hcz41_5:w38.cell? ⟨gb626,5,none⟩=some (.bool a0_5):=(δl BK626.out 5).trans rfl;have hfz41_0:=δm BK626.out 0;have hfz41_1:=δm BK626.out 1;have hfz41_2:=δm BK626.out 2;have hfz41_3:=δm BK626.out 3;have hfz41_4:=δm BK626.out 4;have hfz41_5:=δm BK626.out 5)|(go_at_call 122;(with_reducible refine (impl_isSome.calls a0_2 τ _ A6.out).mono ?_);rintro e w' ⟨rfl,⟨nd,rfl⟩⟩)|(go_at_call 122;(with_reducible refine (impl_isSome.calls a0_3 φ _ A8.out).mono ?_);rintro e w' ⟨rfl,⟨nd,rfl⟩⟩))
     go_ret
     exact ⟨by first|rfl|(simp [errW_none,errW_some] <;> rfl)|(simp [*,errW_none,errW_some] <;> rfl),by repeat (first|(with_reducible first|exact HB.out|apply δk|apply δi|apply δj|refine δq ?_ GE626.out)|exact HB.out)⟩
   ·
    replace c7:=Bool.eq_false_iff.mpr c7
    subst c7
    have H1:(some φ)=some r:=by rw [if_neg (show ¬ (φ=τ) by decide)] at H;exact H
    clear H
    have H:=H1
    clear H1
    obtain rfl:=Option.some.inj H
    go_enter Tryz.func106,Tryz.ntmps106
    go_wp2_with (first|((with_reducible refine δx (N:=1) rfl ?_);(try (refine gate_guard (by rfl) ?_;dsimp only));refine δz ?hg (N:=1) ?hd (cs:=#[.string a0_0,.string a0_1,.int .i64 a0_2,.int .i64 a0_3,.int .i64 a0_4,.bool a0_5]) (t:=66) ?hr ?_;(case hd=>rfl);(case hg=>rfl);(case hr=>first|(go_simp;done)|(go_simp;rfl));intro gb626 hg w42 hbox hb;have n0_:=ζa (δr (by repeat (first|(with_reducible first|exact HB.out|apply δk|apply δi|apply δj)|exact HB.out)) hb);have n1_:=ζa (hbox);have n2_:=ζa ((by rw [hg];exact (δs (by repeat (first|(with_reducible first|exact HB.out|apply δk|apply δi|apply δj)|exact HB.out))):w.heap.size≤gb626));have n3_:=ζa ((by rw [hg];exact (δs (by repeat (first|(with_reducible first|exact HB.out|apply δk|apply δi|apply δj)|exact HB.out))):w.heap.size≤gb626));clear HB;have HB:=n0_;have BK626:=n1_;have GW626:=n2_;have GE626:=n3_;clear n0_ n1_ n2_ n3_;clear hb hbox hg;have hcz43_0:w42.cell? ⟨gb626,0,none⟩=some (.string a0_0):=(δl BK626.out 0).trans rfl;have hcz43_1:w42.cell? ⟨gb626,1,none⟩=some (.string a0_1):=(δl BK626.out 1).trans rfl;have hcz43_2:w42.cell? ⟨gb626,2,none⟩=some (.int .i64 a0_2):=(δl BK626.out 2).trans rfl;have hcz43_3:w42.cell? ⟨gb626,3,none⟩=some (.int .i64 a0_3):=(δl BK626.out 3).trans rfl;have hcz43_4:w42.cell? ⟨gb626,4,none⟩=some (.int .i64 a0_4):=(δl BK626.out 4).trans rfl;have hcz43_5:w42.cell? ⟨gb626,5,none⟩=some (.bool a0_5):=(δl BK626.out 5).trans rfl;have hfz43_0:=δm BK626.out 0;have hfz43_1:=δm BK626.out 1;have hfz43_2:=δm BK626.out 2;have hfz43_3:=δm BK626.out 3;have hfz43_4:=δm BK626.out 4;have hfz43_5:=δm BK626.out 5)|((with_reducible refine δx (N:=5) rfl ?_);(try (refine gate_guard (by rfl) ?_;dsimp only));refine Kd.R_lit Kd.string _ 9 ?hg (N:=5) ?hd (xs:=([a0_0]:List ByteArray)) (inner:=[.string a0_0]) (ok:=fun _=>True) (okp:=fun _=>True) ?hr ?hp (fun _ hk=>hk) trivial (Below.refl _ _) (Nat.le_refl _) (by simp) ?_;(case hd=>rfl);(case hg=>rfl);(case hr=>first|(go_simp;done)|(go_simp;rfl));(case hp=>exact (Reps.one (show Kd.M Kd.string _ _ _ a0_0 [.string a0_0] from rfl) (Reps.none _ _)));intro v628 w44 ho45 hb hg_ hnew_;clear hg_ hnew_;(first|rw [← Ny627.out] at ho45|(simp only [Int.reduceToNat] at ho45;rw [← Ny627.out] at ho45));have n0_:=ζa (Kd.R_lower ho45 (δs (by repeat (first|(with_reducible first|exact HB.out|apply δk|apply δi|apply δj|refine δq ?_ GE626.out)|exact HB.out))));have n1_:=ζa (blk_below (g:=gb626) (o:=.cells #[.string a0_0,.string a0_1,.int .i64 a0_2,.int .i64 a0_3,.int .i64 a0_4,.bool a0_5] 66 (0,0)) (by (with_reducible repeat (first|refine δn ?_ _|refine δp ?_|refine δo ?_ _));exact BK626.out) hb);have n2_:=ζa (δr (by repeat (first|(with_reducible first|exact HB.out|apply δk|apply δi|apply δj|refine δq ?_ GE626.out)|exact HB.out)) hb);clear BK626;clear HB;have HO629:=n0_;have BK626:=n1_;have HB:=n2_;clear n0_ n1_ n2_;clear hb ho45;obtain ⟨Ao46,co46,eo46⟩:=Kd.R_slice HO629.out;subst eo46)|((with_reducible refine δv (f:=63) rfl ?_);refine goesL_ (some 6) rfl rfl Tryz.func63 (by kernel_rfl) rfl #[.slice Ao46 y627.length co46] rfl (by (try simp only [δd,δe,δf]);first|done|rfl|(simp only [δg,δh];rfl)) ?_;(with_reducible refine (impl_areNames.calls k _ _ y627 τ _ ?side1 ?side2 A2.out).mono ?_);(case side1=>repeat (first|exact (ζg HO629.out).2.2|(with_reducible refine Kd.C_alloc ?_ _)|(with_reducible refine Kd.C_drewN ?_ _)|(with_reducible refine Kd.C_drew ?_)));(case side2=>exact (ζg HO629.out).2.1);rintro e w' ⟨rfl,⟨nd,rfl⟩⟩;refine ⟨_,rfl,?_⟩;have hcz47_0:w44.cell? ⟨gb626,0,none⟩=some (.string a0_0):=(δl BK626.out 0).trans rfl;have hcz47_1:w44.cell? ⟨gb626,1,none⟩=some (.string a0_1):=(δl BK626.out 1).trans rfl;have hcz47_2:w44.cell? ⟨gb626,2,none⟩=some (.int .i64 a0_2):=(δl BK626.out 2).trans rfl;have hcz47_3:w44.cell? ⟨gb626,3,none⟩=some (.int .i64 a0_3):=(δl BK626.out 3).trans rfl;have hcz47_4:w44.cell? ⟨gb626,4,none⟩=some (.int .i64 a0_4):=(δl BK626.out 4).trans rfl;have hcz47_5:w44.cell? ⟨gb626,5,none⟩=some (.bool a0_5):=(δl BK626.out 5).trans rfl;have hfz47_0:=δm BK626.out 0;have hfz47_1:=δm BK626.out 1;have hfz47_2:=δm BK626.out 2;have hfz47_3:=δm BK626.out 3;have hfz47_4:=δm BK626.out 4;have hfz47_5:=δm BK626.out 5)|((with_reducible refine δx (N:=10) rfl ?_);(try (refine gate_guard (by rfl) ?_;dsimp only));refine Kd.R_lit Kd.string _ 9 ?hg (N:=10) ?hd (xs:=([a0_1]:List ByteArray)) (inner:=[.string a0_1]) (ok:=fun _=>True) (okp:=fun _=>True) ?hr ?hp (fun _ hk=>hk) trivial (Below.refl _ _) (Nat.le_refl _) (by simp) ?_;(case hd=>rfl);(case hg=>rfl);(case hr=>first|(go_simp;done)|(go_simp;rfl));(case hp=>exact (Reps.one (show Kd.M Kd.string _ _ _ a0_1 [.string a0_1] from rfl) (Reps.none _ _)));intro v632 w48 ho49 hb hg_ hnew_;clear hg_ hnew_;(first|rw [← Ny631.out] at ho49|(simp only [Int.reduceToNat] at ho49;rw [← Ny631.out] at ho49));have n0_:=ζa (Kd.R_elder' (by (with_reducible repeat (first|apply ζd|apply ζc|apply ζe));exact HO629.out) (Kd.R_base ho49) hb);have n1_:=ζa (Kd.R_lower (Kd.R_new' ho49 (Kd.R_lt (by (with_reducible repeat (first|apply ζd|apply ζc|apply ζe));exact HO629.out))) (δs (by repeat (first|(with_reducible first|exact HB.out|apply δk|apply δi|apply δj|refine δq ?_ GE626.out)|exact HB.out))));have n2_:=ζa (blk_below (g:=gb626) (o:=.cells #[.string a0_0,.string a0_1,.int .i64 a0_2,.int .i64 a0_3,.int .i64 a0_4,.bool a0_5] 66 (0,0)) (by (with_reducible repeat (first|refine δn ?_ _|refine δp ?_|refine δo ?_ _));exact BK626.out) hb);have n3_:=ζa (δr (by repeat (first|(with_reducible first|exact HB.out|apply δk|apply δi|apply δj|refine δq ?_ GE626.out)|exact HB.out)) hb);clear HO629;clear BK626;clear HB;have HO629:=n0_;have HO633:=n1_;have BK626:=n2_;have HB:=n3_;clear n0_ n1_ n2_ n3_;clear hb ho49;obtain ⟨Ao50,co50,eo50⟩:=Kd.R_slice HO633.out;subst eo50)|(go_at_call 121;(with_reducible refine (impl_isPeople.calls k _ _ y631 τ _ ?side1 ?side2 A4.out).mono ?_);(case side1=>repeat (first|exact (ζg HO633.out).2.2|(with_reducible refine Kd.C_alloc ?_ _)|(with_reducible refine Kd.C_drewN ?_ _)|(with_reducible refine Kd.C_drew ?_)));(case side2=>exact (ζg HO633.out).2.1);rintro e w' ⟨rfl,⟨nd,rfl⟩⟩;have hcz51_0:w48.cell? ⟨gb626,0,none⟩=some (.string a0_0):=(δl BK626.out 0).trans rfl;have hcz51_1:w48.cell? ⟨gb626,1,none⟩=some (.string a0_1):=(δl BK626.out 1).trans rfl;have hcz51_2:w48.cell? ⟨gb626,2,none⟩=some (.int .i64 a0_2):=(δl BK626.out 2).trans rfl;have hcz51_3:w48.cell? ⟨gb626,3,none⟩=some (.int .i64 a0_3):=(δl BK626.out 3).trans rfl;have hcz51_4:w48.cell? ⟨gb626,4,none⟩=some (.int .i64 a0_4):=(δl BK626.out 4).trans rfl;have hcz51_5:w48.cell? ⟨gb626,5,none⟩=some (.bool a0_5):=(δl BK626.out 5).trans rfl;have hfz51_0:=δm BK626.out 0;have hfz51_1:=δm BK626.out 1;have hfz51_2:=δm BK626.out 2;have hfz51_3:=δm BK626.out 3;have hfz51_4:=δm BK626.out 4;have hfz51_5:=δm BK626.out 5)|(go_at_call 122;(with_reducible refine (impl_isSome.calls a0_2 φ _ A6.out).mono ?_);rintro e w' ⟨rfl,⟨nd,rfl⟩⟩))
    go_ret
    exact ⟨by first|rfl|(simp [errW_none,errW_some] <;> rfl)|(simp [*,errW_none,errW_some] <;> rfl),by repeat (first|(with_reducible first|exact HB.out|apply δk|apply δi|apply δj|refine δq ?_ GE626.out)|exact HB.out)⟩
  ·
   replace c5:=Bool.eq_false_iff.mpr c5
   subst c5
   have H1:(some φ)=some r:=by rw [if_neg (show ¬ (φ=τ) by decide)] at H;exact H
   clear H
   have H:=H1
   clear H1
   obtain rfl:=Option.some.inj H
   go_enter Tryz.func106,Tryz.ntmps106
   go_wp2_with (first|((with_reducible refine δx (N:=1) rfl ?_);(try (refine gate_guard (by rfl) ?_;dsimp only));refine δz ?hg (N:=1) ?hd (cs:=#[.string a0_0,.string a0_1,.int .i64 a0_2,.int .i64 a0_3,.int .i64 a0_4,.bool a0_5]) (t:=66) ?hr ?_;(case hd=>rfl);(case hg=>rfl);(case hr=>first|(go_simp;done)|(go_simp;rfl));intro gb626 hg w52 hbox hb;have n0_:=ζa (δr (by repeat (first|(with_reducible first|exact HB.out|apply δk|apply δi|apply δj)|exact HB.out)) hb);have n1_:=ζa (hbox);have n2_:=ζa ((by rw [hg];exact (δs (by repeat (first|(with_reducible first|exact HB.out|apply δk|apply δi|apply δj)|exact HB.out))):w.heap.size≤gb626));have n3_:=ζa ((by rw [hg];exact (δs (by repeat (first|(with_reducible first|exact HB.out|apply δk|apply δi|apply δj)|exact HB.out))):w.heap.size≤gb626));clear HB;have HB:=n0_;have BK626:=n1_;have GW626:=n2_;have GE626:=n3_;clear n0_ n1_ n2_ n3_;clear hb hbox hg;have hcz53_0:w52.cell? ⟨gb626,0,none⟩=some (.string a0_0):=(δl BK626.out 0).trans rfl;have hcz53_1:w52.cell? ⟨gb626,1,none⟩=some (.string a0_1):=(δl BK626.out 1).trans rfl;have hcz53_2:w52.cell? ⟨gb626,2,none⟩=some (.int .i64 a0_2):=(δl BK626.out 2).trans rfl;have hcz53_3:w52.cell? ⟨gb626,3,none⟩=some (.int .i64 a0_3):=(δl BK626.out 3).trans rfl;have hcz53_4:w52.cell? ⟨gb626,4,none⟩=some (.int .i64 a0_4):=(δl BK626.out 4).trans rfl;have hcz53_5:w52.cell? ⟨gb626,5,none⟩=some (.bool a0_5):=(δl BK626.out 5).trans rfl;have hfz53_0:=δm BK626.out 0;have hfz53_1:=δm BK626.out 1;have hfz53_2:=δm BK626.out 2;have hfz53_3:=δm BK626.out 3;have hfz53_4:=δm BK626.out 4;have hfz53_5:=δm BK626.out 5)|((with_reducible refine δx (N:=5) rfl ?_);(try (refine gate_guard (by rfl) ?_;dsimp only));refine Kd.R_lit Kd.string _ 9 ?hg (N:=5) ?hd (xs:=([a0_0]:List ByteArray)) (inner:=[.string a0_0]) (ok:=fun _=>True) (okp:=fun _=>True) ?hr ?hp (fun _ hk=>hk) trivial (Below.refl _ _) (Nat.le_refl _) (by simp) ?_;(case hd=>rfl);(case hg=>rfl);(case hr=>first|(go_simp;done)|(go_simp;rfl));(case hp=>exact (Reps.one (show Kd.M Kd.string _ _ _ a0_0 [.string a0_0] from rfl) (Reps.none _ _)));intro v628 w54 ho55 hb hg_ hnew_;clear hg_ hnew_;(first|rw [← Ny627.out] at ho55|(simp only [Int.reduceToNat] at ho55;rw [← Ny627.out] at ho55));have n0_:=ζa (Kd.R_lower ho55 (δs (by repeat (first|(with_reducible first|exact HB.out|apply δk|apply δi|apply δj|refine δq ?_ GE626.out)|exact HB.out))));have n1_:=ζa (blk_below (g:=gb626) (o:=.cells #[.string a0_0,.string a0_1,.int .i64 a0_2,.int .i64 a0_3,.int .i64 a0_4,.bool a0_5] 66 (0,0)) (by (with_reducible repeat (first|refine δn ?_ _|refine δp ?_|refine δo ?_ _));exact BK626.out) hb);have n2_:=ζa (δr (by repeat (first|(with_reducible first|exact HB.out|apply δk|apply δi|apply δj|refine δq ?_ GE626.out)|exact HB.out)) hb);clear BK626;clear HB;have HO629:=n0_;have BK626:=n1_;have HB:=n2_;clear n0_ n1_ n2_;clear hb ho55;obtain ⟨Ao56,co56,eo56⟩:=Kd.R_slice HO629.out;subst eo56)|((with_reducible refine δv (f:=63) rfl ?_);refine goesL_ (some 6) rfl rfl Tryz.func63 (by kernel_rfl) rfl #[.slice Ao56 y627.length co56] rfl (by (try simp only [δd,δe,δf]);first|done|rfl|(simp only [δg,δh];rfl)) ?_;(with_reducible refine (impl_areNames.calls k _ _ y627 τ _ ?side1 ?side2 A2.out).mono ?_);(case side1=>repeat (first|exact (ζg HO629.out).2.2|(with_reducible refine Kd.C_alloc ?_ _)|(with_reducible refine Kd.C_drewN ?_ _)|(with_reducible refine Kd.C_drew ?_)));(case side2=>exact (ζg HO629.out).2.1);rintro e w' ⟨rfl,⟨nd,rfl⟩⟩;refine ⟨_,rfl,?_⟩;have hcz57_0:w54.cell? ⟨gb626,0,none⟩=some (.string a0_0):=(δl BK626.out 0).trans rfl;have hcz57_1:w54.cell? ⟨gb626,1,none⟩=some (.string a0_1):=(δl BK626.out 1).trans rfl;have hcz57_2:w54.cell? ⟨gb626,2,none⟩=some (.int .i64 a0_2):=(δl BK626.out 2).trans rfl;have hcz57_3:w54.cell? ⟨gb626,3,none⟩=some (.int .i64 a0_3):=(δl BK626.out 3).trans rfl;have hcz57_4:w54.cell? ⟨gb626,4,none⟩=some (.int .i64 a0_4):=(δl BK626.out 4).trans rfl;have hcz57_5:w54.cell? ⟨gb626,5,none⟩=some (.bool a0_5):=(δl BK626.out 5).trans rfl;have hfz57_0:=δm BK626.out 0;have hfz57_1:=δm BK626.out 1;have hfz57_2:=δm BK626.out 2;have hfz57_3:=δm BK626.out 3;have hfz57_4:=δm BK626.out 4;have hfz57_5:=δm BK626.out 5)|((with_reducible refine δx (N:=10) rfl ?_);(try (refine gate_guard (by rfl) ?_;dsimp only));refine Kd.R_lit Kd.string _ 9 ?hg (N:=10) ?hd (xs:=([a0_1]:List ByteArray)) (inner:=[.string a0_1]) (ok:=fun _=>True) (okp:=fun _=>True) ?hr ?hp (fun _ hk=>hk) trivial (Below.refl _ _) (Nat.le_refl _) (by simp) ?_;(case hd=>rfl);(case hg=>rfl);(case hr=>first|(go_simp;done)|(go_simp;rfl));(case hp=>exact (Reps.one (show Kd.M Kd.string _ _ _ a0_1 [.string a0_1] from rfl) (Reps.none _ _)));intro v632 w58 ho59 hb hg_ hnew_;clear hg_ hnew_;(first|rw [← Ny631.out] at ho59|(simp only [Int.reduceToNat] at ho59;rw [← Ny631.out] at ho59));have n0_:=ζa (Kd.R_elder' (by (with_reducible repeat (first|apply ζd|apply ζc|apply ζe));exact HO629.out) (Kd.R_base ho59) hb);have n1_:=ζa (Kd.R_lower (Kd.R_new' ho59 (Kd.R_lt (by (with_reducible repeat (first|apply ζd|apply ζc|apply ζe));exact HO629.out))) (δs (by repeat (first|(with_reducible first|exact HB.out|apply δk|apply δi|apply δj|refine δq ?_ GE626.out)|exact HB.out))));have n2_:=ζa (blk_below (g:=gb626) (o:=.cells #[.string a0_0,.string a0_1,.int .i64 a0_2,.int .i64 a0_3,.int .i64 a0_4,.bool a0_5] 66 (0,0)) (by (with_reducible repeat (first|refine δn ?_ _|refine δp ?_|refine δo ?_ _));exact BK626.out) hb);have n3_:=ζa (δr (by repeat (first|(with_reducible first|exact HB.out|apply δk|apply δi|apply δj|refine δq ?_ GE626.out)|exact HB.out)) hb);clear HO629;clear BK626;clear HB;have HO629:=n0_;have HO633:=n1_;have BK626:=n2_;have HB:=n3_;clear n0_ n1_ n2_ n3_;clear hb ho59;obtain ⟨Ao60,co60,eo60⟩:=Kd.R_slice HO633.out;subst eo60)|(go_at_call 121;(with_reducible refine (impl_isPeople.calls k _ _ y631 φ _ ?side1 ?side2 A4.out).mono ?_);(case side1=>repeat (first|exact (ζg HO633.out).2.2|(with_reducible refine Kd.C_alloc ?_ _)|(with_reducible refine Kd.C_drewN ?_ _)|(with_reducible refine Kd.C_drew ?_)));(case side2=>exact (ζg HO633.out).2.1);rintro e w' ⟨rfl,⟨nd,rfl⟩⟩))
   go_ret
   exact ⟨by first|rfl|(simp [errW_none,errW_some] <;> rfl)|(simp [*,errW_none,errW_some] <;> rfl),by repeat (first|(with_reducible first|exact HB.out|apply δk|apply δi|apply δj|refine δq ?_ GE626.out)|exact HB.out)⟩
 ·
  replace c3:=Bool.eq_false_iff.mpr c3
  subst c3
  have H1:(some φ)=some r:=by rw [if_neg (show ¬ (φ=τ) by decide)] at H;exact H
  clear H
  have H:=H1
  clear H1
  obtain rfl:=Option.some.inj H
  go_enter Tryz.func106,Tryz.ntmps106
  go_wp2_with (first|((with_reducible refine δx (N:=1) rfl ?_);(try (refine gate_guard (by rfl) ?_;dsimp only));refine δz ?hg (N:=1) ?hd (cs:=#[.string a0_0,.string a0_1,.int .i64 a0_2,.int .i64 a0_3,.int .i64 a0_4,.bool a0_5]) (t:=66) ?hr ?_;(case hd=>rfl);(case hg=>rfl);(case hr=>first|(go_simp;done)|(go_simp;rfl));intro gb626 hg w61 hbox hb;have n0_:=ζa (δr (by repeat (first|(with_reducible first|exact HB.out|apply δk|apply δi|apply δj)|exact HB.out)) hb);have n1_:=ζa (hbox);have n2_:=ζa ((by rw [hg];exact (δs (by repeat (first|(with_reducible first|exact HB.out|apply δk|apply δi|apply δj)|exact HB.out))):w.heap.size≤gb626));have n3_:=ζa ((by rw [hg];exact (δs (by repeat (first|(with_reducible first|exact HB.out|apply δk|apply δi|apply δj)|exact HB.out))):w.heap.size≤gb626));clear HB;have HB:=n0_;have BK626:=n1_;have GW626:=n2_;have GE626:=n3_;clear n0_ n1_ n2_ n3_;clear hb hbox hg;have hcz62_0:w61.cell? ⟨gb626,0,none⟩=some (.string a0_0):=(δl BK626.out 0).trans rfl;have hcz62_1:w61.cell? ⟨gb626,1,none⟩=some (.string a0_1):=(δl BK626.out 1).trans rfl;have hcz62_2:w61.cell? ⟨gb626,2,none⟩=some (.int .i64 a0_2):=(δl BK626.out 2).trans rfl;have hcz62_3:w61.cell? ⟨gb626,3,none⟩=some (.int .i64 a0_3):=(δl BK626.out 3).trans rfl;have hcz62_4:w61.cell? ⟨gb626,4,none⟩=some (.int .i64 a0_4):=(δl BK626.out 4).trans rfl;have hcz62_5:w61.cell? ⟨gb626,5,none⟩=some (.bool a0_5):=(δl BK626.out 5).trans rfl;have hfz62_0:=δm BK626.out 0;have hfz62_1:=δm BK626.out 1;have hfz62_2:=δm BK626.out 2;have hfz62_3:=δm BK626.out 3;have hfz62_4:=δm BK626.out 4;have hfz62_5:=δm BK626.out 5)|((with_reducible refine δx (N:=5) rfl ?_);(try (refine gate_guard (by rfl) ?_;dsimp only));refine Kd.R_lit Kd.string _ 9 ?hg (N:=5) ?hd (xs:=([a0_0]:List ByteArray)) (inner:=[.string a0_0]) (ok:=fun _=>True) (okp:=fun _=>True) ?hr ?hp (fun _ hk=>hk) trivial (Below.refl _ _) (Nat.le_refl _) (by simp) ?_;(case hd=>rfl);(case hg=>rfl);(case hr=>first|(go_simp;done)|(go_simp;rfl));(case hp=>exact (Reps.one (show Kd.M Kd.string _ _ _ a0_0 [.string a0_0] from rfl) (Reps.none _ _)));intro v628 w63 ho64 hb hg_ hnew_;clear hg_ hnew_;(first|rw [← Ny627.out] at ho64|(simp only [Int.reduceToNat] at ho64;rw [← Ny627.out] at ho64));have n0_:=ζa (Kd.R_lower ho64 (δs (by repeat (first|(with_reducible first|exact HB.out|apply δk|apply δi|apply δj|refine δq ?_ GE626.out)|exact HB.out))));have n1_:=ζa (blk_below (g:=gb626) (o:=.cells #[.string a0_0,.string a0_1,.int .i64 a0_2,.int .i64 a0_3,.int .i64 a0_4,.bool a0_5] 66 (0,0)) (by (with_reducible repeat (first|refine δn ?_ _|refine δp ?_|refine δo ?_ _));exact BK626.out) hb);have n2_:=ζa (δr (by repeat (first|(with_reducible first|exact HB.out|apply δk|apply δi|apply δj|refine δq ?_ GE626.out)|exact HB.out)) hb);clear BK626;clear HB;have HO629:=n0_;have BK626:=n1_;have HB:=n2_;clear n0_ n1_ n2_;clear hb ho64;obtain ⟨Ao65,co65,eo65⟩:=Kd.R_slice HO629.out;subst eo65)|((with_reducible refine δv (f:=63) rfl ?_);refine goesL_ (some 6) rfl rfl Tryz.func63 (by kernel_rfl) rfl #[.slice Ao65 y627.length co65] rfl (by (try simp only [δd,δe,δf]);first|done|rfl|(simp only [δg,δh];rfl)) ?_;(with_reducible refine (impl_areNames.calls k _ _ y627 φ _ ?side1 ?side2 A2.out).mono ?_);(case side1=>repeat (first|exact (ζg HO629.out).2.2|(with_reducible refine Kd.C_alloc ?_ _)|(with_reducible refine Kd.C_drewN ?_ _)|(with_reducible refine Kd.C_drew ?_)));(case side2=>exact (ζg HO629.out).2.1);rintro e w' ⟨rfl,⟨nd,rfl⟩⟩;refine ⟨_,rfl,?_⟩))
  go_ret
  exact ⟨by first|rfl|(simp [errW_none,errW_some] <;> rfl)|(simp [*,errW_none,errW_some] <;> rfl),by repeat (first|(with_reducible first|exact HB.out|apply δk|apply δi|apply δj|refine δq ?_ GE626.out)|exact HB.out)⟩


open Bool renaming true → τ

/-! ### impl_orderKey: function 108 -/
def impl_orderKey.f (a0:ByteArray):Option (ByteArray):=if 2+a0.size≤9223372036854775807 then (some ((⟨#[111,47]⟩:ByteArray) ++ a0)) else (none)
set_option maxHeartbeats 8000000 in
set_option maxRecDepth 100000 in
theorem impl_orderKey.calls (a0:ByteArray) (r:ByteArray) (w:World) (h:impl_orderKey.f a0=some r) :
  Calls Tryz.prog 108 #[.string a0] w fun e w'=>e = .returned (.string r)∧Drawn0 w w':=by
 have H:(if 2+a0.size≤9223372036854775807 then (some ((⟨#[111,47]⟩:ByteArray) ++ a0)) else (none))=some r:=h
 clear h
 by_cases c2:2+a0.size≤9223372036854775807
 ·
  rw [if_pos c2] at H
  have c2b0:=eq_true c2
  have c2b1:decide (2+a0.size≤9223372036854775807)=τ:=decide_eq_true c2
  try have c2b2:(9223372036854775807<2+a0.size)=False:=eq_false (Nat.not_lt.2 c2)
  obtain rfl:=Option.some.inj H
  go_enter Tryz.func108,Tryz.ntmps108
  go_wp2
  go_ret
  exact ⟨by first|rfl|(simp;done)|(simp [*];done),by repeat (first|exact Drawn0.refl _|apply Drawn0.step)⟩
 ·
  rw [if_neg c2] at H
  exact absurd H (by simp)


open Go.RowKit renaming wrap64 → ζm
open Go.Proofs.YtabmfhnhmoiljaaGreatDoorW.PrintWords renaming gate_dst → δx, below_size → δs, below_alloc → δk, pw_below_drewN → δi, below_drew1 → δj, below_step → δr, below_set → δq
open Go.Proofs.YtabmfhnhmoiljaaGreatDoorW.PrintWords.Kd renaming R_alloc → ζd, R_drewN → ζc, R_drew → ζe

/-! ### impl_number: function 189 -/
def impl_number.l0:Nat→Int→List Int→Int→Option (ByteArray)
 | 0,_,_,_=>none
 | k+1,x0,x5,x6=>if x6 ≥ 0 then (if 0≤x6 then (if x6<(x5.length:Int) then (impl_number.l0 k (x0 / 256) (x5.set (x6:Int).toNat ((x0) % 256)) (ζm (x6 - 1))) else (none)) else (none)) else (some (strOfNums x5))
def impl_number.f (k:Nat) (a0:Int) (a1:Int):Option (ByteArray):=if 0≤a1 then (if (a1:Int).toNat≤281474976710656 then (impl_number.l0 k a0 (List.replicate (a1:Int).toNat 0) (ζm (a1 - 1))) else (none)) else (none)
set_option maxHeartbeats 8000000 in
set_option maxRecDepth 100000 in
theorem impl_number.calls (k:Nat) (a0:Int) (a1:Int) (r:ByteArray) (w:World) (h:impl_number.f k a0 a1=some r) :
  Calls Tryz.prog 189 #[.int .i64 a0,.int .i64 a1] w fun e w'=>e = .returned (.string r)∧Below w.heap.size w w':=by
 have HB:=ζa (Below.refl w.heap.size w)
 have H:(if 0≤a1 then (if (a1:Int).toNat≤281474976710656 then (impl_number.l0 k a0 (List.replicate (a1:Int).toNat 0) (ζm (a1 - 1))) else (none)) else (none))=some r:=h
 clear h
 by_cases c3:0≤a1
 ·
  rw [if_pos c3] at H
  have c3b0:=eq_true c3
  have c3b1:decide (0≤a1)=τ:=decide_eq_true c3
  clear c3
  by_cases c4:(a1:Int).toNat≤281474976710656
  ·
   rw [if_pos c4] at H
   have c4b0:=eq_true c4
   have c4b1:decide ((a1:Int).toNat≤281474976710656)=τ:=decide_eq_true c4
   clear c4
   obtain ⟨y240,hy240⟩ : ∃ y_:List Int,y_=(List.replicate (a1:Int).toNat 0):=⟨_,rfl⟩
   replace H:(impl_number.l0 k a0 y240 (ζm (a1 - 1)))=some r:=by first|(rw [hy240];with_reducible exact H)|(have H2_:=(Option.bind_some _ _).symm.trans H;rw [hy240];with_reducible exact H2_)|(have H2_:=(Option.bind_some _ _).symm.trans H;with_reducible exact H2_)|with_reducible exact H|(rw [hy240];exact H)|exact H
   have Ny240:=ζa hy240
   clear hy240
   have H':=ζa H
   clear H
   go_enter Tryz.func189,Tryz.ntmps189
   go_wp2_with (first|((with_reducible refine δx (N:=8) rfl ?_);refine Kd.R_make (Kd.int .u8) _ 5 rfl (N:=8) rfl 82 _ _ rfl a1 rfl rfl Tryz.underlying82 (.int .u8 0) 1 info5 rfl (by decide) (by omega) 0 (ok:=fun _=>True) (okp:=fun _=>True) rfl (fun _ hk=>hk) trivial (of_decide_eq_true (by first|(with_reducible assumption)|assumption)) (Nat.le_trans (Nat.mul_le_mul_right _ (of_decide_eq_true (by first|(with_reducible assumption)|assumption):a1.toNat≤281474976710656)) (by omega)) (Below.refl _ _) (Nat.le_refl _) ?_;intro v241 w5 ho6 hb hg_ hnew_;clear hg_ hnew_;(first|rw [← Ny240.out] at ho6|(simp only [Int.reduceToNat] at ho6;rw [← Ny240.out] at ho6));have n0_:=ζa (Kd.R_lower ho6 (δs (by repeat (first|(with_reducible first|exact HB.out|apply δk|apply δi|apply δj)|exact HB.out))));have n1_:=ζa (δr (by repeat (first|(with_reducible first|exact HB.out|apply δk|apply δi|apply δj)|exact HB.out)) hb);clear HB;have HO242:=n0_;have HB:=n1_;clear n0_ n1_;clear hb ho6))
   go_loopg [0,6] k (fun kq v0 v6 w' => ∃ (x0_1:Int) (x5_1:List Int) (x6_1:Int),v0 = .int .i64 x0_1∧v6 = .int .i64 x6_1∧Aside0 (impl_number.l0 kq x0_1 x5_1 x6_1=some r)∧Aside0 (kq≤k)∧Aside0 (Kd.R (Kd.int .u8) 5 w' w.heap.size (fun _=>True) v241 x5_1)∧Aside0 (Below w.heap.size w w'))
   case atStart=>exact ⟨(a0),(y240),(ζm (a1 - 1)),(by first|rfl|(simp;done)|(simp [*];done)),(by first|rfl|(simp;done)|(simp [*];done)),H',⟨Nat.le_refl _⟩,⟨by (with_reducible repeat (first|apply ζd|apply ζc|apply ζe));exact HO242.out⟩,⟨by repeat (first|(with_reducible first|exact HB.out|apply δk|apply δi|apply δj)|exact HB.out)⟩⟩
   case round =>
    clear H'
    try clear c1
    try clear p2
    try clear c3
    try clear c3b0
    try clear c3b1
    try clear c4
    try clear c4b0
    try clear c4b1
    try clear p6
    obtain ⟨x0_1,x5_1,x6_1,rfl,rfl,HA,HK1,HO_5,HB⟩:=hrel
    cases gk with
    | zero=>exact absurd HA.out (by simp [impl_number.l0])
    | succ k1 =>
     have H:=HA.out
     clear HA
     simp only [impl_number.l0] at H
     by_cases c7:x6_1 ≥ 0
     ·
      rw [if_pos c7] at H
      have c7b0:decide (0≤x6_1)=τ:=decide_eq_true c7
      clear c7
      by_cases c8:0≤x6_1
      ·
       rw [if_pos c8] at H
       have c8b0:decide (0≤x6_1)=τ:=decide_eq_true c8
       clear c8
       by_cases c9:x6_1<(x5_1.length:Int)
       ·
        rw [if_pos c9] at H
        have c9b0:decide (x6_1<(x5_1.length:Int))=τ:=decide_eq_true c9
        clear c9
        obtain ⟨y243,hy243⟩ : ∃ y_:List Int,y_=(x5_1.set (x6_1:Int).toNat ((x0_1) % 256)):=⟨_,rfl⟩
        replace H:(impl_number.l0 k1 (x0_1 / 256) y243 (ζm (x6_1 - 1)))=some r:=by first|(rw [hy243];with_reducible exact H)|(have H2_:=(Option.bind_some _ _).symm.trans H;rw [hy243];with_reducible exact H2_)|(have H2_:=(Option.bind_some _ _).symm.trans H;with_reducible exact H2_)|with_reducible exact H|(rw [hy243];exact H)|exact H
        have Ny243:=ζa hy243
        clear hy243
        have H':=ζa H
        clear H
        have p10:0≤(x6_1:Int):=of_decide_eq_true (by first|(with_reducible assumption)|assumption)
        have q10:(x6_1:Int)<((x5_1.length:Int):Int):=of_decide_eq_true (by first|(with_reducible assumption)|assumption)
        obtain ⟨go10,co10,eo10,gb10,gl10,cl10,HG10⟩:=Kd.R_form HO_5.out (by omega)
        (first|cases eo10|(injection eo10 with ea_ en_ ec_;(first|subst ea_|(injection ea_ with ea_;subst ea_));subst ec_;clear en_))
        have GB10:=ζa gb10
        have GG10:=ζa HG10
        clear gb10 gl10 HG10
        obtain ⟨hx10_0,hf10_0⟩:=Kd.R_celln 0 HO_5.out (x6_1:Int) p10 q10
        replace p10:=eq_true p10
        replace q10:=eq_true q10
        have HP11:=Kd.R_putg HO_5.out (x6_1:Int) ((x0_1) % 256)
        go_wp2_with (first|((with_reducible refine gate_store (t:=5) (p:=19) rfl ?_);refine store_event (t:=5) (p:=19) (v:=?vo_w12) (w1:=(wr.setCell ⟨go10,(x6_1:Int).toNat,none⟩ (.int .u8 ((x0_1) % 256)))) ?hg ?ho ?hn ?hr ?_;(case ho=>rfl);(case hg=>rfl);(case hn=>rfl);(case hr=>first|(go_simp;done)|(go_simp;rfl));intro w12 hw;have hg:wr.grownBy w12 (some go10):=(by rw [hw];exact HP11.2);have hp_:Kd.R (Kd.int .u8) 5 w12 w.heap.size (fun _=>True) (.slice (some ⟨go10,0,none⟩) x5_1.length co10) y243:=(by rw [hw,Ny243.out];exact HP11.1);clear HP11;have n0_:=ζa (hp_);have n1_:=ζa ((by rw [hw];exact δq (HB.out) GB10.out:Below w.heap.size w w12));clear HO_5;clear HB;have HO_5:=n0_;have HB:=n1_;clear n0_ n1_;clear hg hw hp_))
        go_roundg k1
        case measure=>have:=HK1.out;omega
        case rel=>exact ⟨(x0_1 / 256),(y243),(ζm (x6_1 - 1)),(by first|rfl|(simp;done)|(simp [*];done)),(by first|rfl|(simp;done)|(simp [*];done)),H',⟨by have:=HK1.out;omega⟩,⟨by (with_reducible repeat (first|apply ζd|apply ζc|apply ζe));exact HO_5.out⟩,⟨by repeat (first|(with_reducible first|exact HB.out|apply δk|apply δi|apply δj)|exact HB.out)⟩⟩
       ·
        rw [if_neg c9] at H
        exact absurd H (by simp)
      ·
       rw [if_neg c8] at H
       exact absurd H (by simp)
     ·
      rw [if_neg c7] at H
      have c7b0:decide (0≤x6_1)=φ:=decide_eq_false c7
      clear c7
      obtain rfl:=Option.some.inj H
      have hcv13:=own_string (P:=Tryz.prog) Tryz.underlying82 Tryz.underlying5 Tryz.underlying9 (Kd.own_of_R HO_5.out)
      go_wp2
      go_ret
      exact ⟨by first|rfl|(simp [errW_none,errW_some] <;> rfl)|(simp [*,errW_none,errW_some] <;> rfl),by repeat (first|(with_reducible first|exact HB.out|apply δk|apply δi|apply δj)|exact HB.out)⟩
  ·
   rw [if_neg c4] at H
   exact absurd H (by simp)
 ·
  rw [if_neg c3] at H
  exact absurd H (by simp)


open Go.Proofs.YtabmfhnhmoiljaaGreatDoorW.PrintWords renaming gate_callee → δv, below_step → δr, below_alloc → δk, pw_below_drewN → δi, below_drew1 → δj

/-! ### impl_fields: function 146 -/
def impl_fields.l0:Nat→ByteArray→List ByteArray→Int→Int→Option (ByteArray)
 | 0,_,_,_,_=>none
 | k+1,x3,x9,x10,x11=>if x11<x10 then (if 0≤x11 then (if x11<(x9.length:Int) then ((impl_number.f k ((rdOf ByteArray.empty x9 x11).size:Int) 2).bind fun t246=>(if t246.size+(rdOf ByteArray.empty x9 x11).size≤9223372036854775807 then (if x3.size+(t246 ++ (rdOf ByteArray.empty x9 x11)).size≤9223372036854775807 then (impl_fields.l0 k (x3 ++ (t246 ++ (rdOf ByteArray.empty x9 x11))) x9 x10 (ζm (x11+1))) else (none)) else (none))) else (none)) else (none)) else (some x3)
def impl_fields.f (k:Nat) (l0:List ByteArray):Option (ByteArray):=(impl_number.f k (l0.length:Int) 1).bind fun t244=>(impl_fields.l0 k t244 l0 (l0.length:Int) 0)
set_option maxHeartbeats 8000000 in
set_option maxRecDepth 100000 in
theorem impl_fields.calls (k:Nat) (A0:Option Addr) (c0:Nat) (l0:List ByteArray) (r:ByteArray) (w:World) (hr0:Kd.C Kd.string w A0 l0.length l0) (hc0:l0.length≤c0) (h:impl_fields.f k l0=some r) :
  Calls Tryz.prog 146 #[.slice A0 l0.length c0] w fun e w'=>e = .returned (.string r)∧Below w.heap.size w w':=by
 have HR0:=ζa hr0
 have HC0:=ζa hc0
 clear hr0 hc0
 have HB:=ζa (Below.refl w.heap.size w)
 have H:((impl_number.f k (l0.length:Int) 1).bind fun t244=>(impl_fields.l0 k t244 l0 (l0.length:Int) 0))=some r:=h
 clear h
 replace H:=Option.bind_eq_some_iff.mp H
 obtain ⟨t244,A20,H⟩:=H
 replace H:(impl_fields.l0 k t244 l0 (l0.length:Int) 0)=some r:=H
 have A2:=ζa A20
 clear A20
 have H':=ζa H
 clear H
 go_enter Tryz.func146,Tryz.ntmps146
 go_wp2_with (first|((with_reducible refine δv (f:=189) rfl ?_);refine goesL_ (some 8) rfl rfl Tryz.func189 (by kernel_rfl) rfl #[.int .i64 (l0.length:Int),.int .i64 1] rfl (by (try simp only [δd,δe,δf]);first|done|rfl|(simp only [δg,δh];rfl)) ?_;(with_reducible refine (impl_number.calls k (l0.length:Int) 1 t244 _ A2.out).mono ?_);rintro e w3 ⟨rfl,hb⟩;refine ⟨_,rfl,?_⟩;have n0_:=ζa (δr (by repeat (first|(with_reducible first|exact HB.out|apply δk|apply δi|apply δj)|exact HB.out)) hb);clear HB;have HB:=n0_;clear n0_;(try clear hb);(try clear hb2);(try clear hk);(try clear hi)))
 go_loopg [3,11] k (fun kq v3 v11 w' => ∃ (x3_1:ByteArray) (x11_1:Int),v3 = .string x3_1∧v11 = .int .i64 x11_1∧Aside0 (impl_fields.l0 kq x3_1 l0 (l0.length:Int) x11_1=some r)∧Aside0 (kq≤k)∧Aside0 (Below w.heap.size w w'))
 case atStart=>exact ⟨(t244),(0),(by first|rfl|(simp;done)|(simp [*];done)),(by first|rfl|(simp;done)|(simp [*];done)),H',⟨Nat.le_refl _⟩,⟨by repeat (first|(with_reducible first|exact HB.out|apply δk|apply δi|apply δj)|exact HB.out)⟩⟩
 case round =>
  clear H'
  try clear c1
  try clear p2
  obtain ⟨x3_1,x11_1,rfl,rfl,HA,HK1,HB⟩:=hrel
  cases gk with
  | zero=>exact absurd HA.out (by simp [impl_fields.l0])
  | succ k1 =>
   have H:=HA.out
   clear HA
   simp only [impl_fields.l0] at H
   by_cases c4:x11_1<(l0.length:Int)
   ·
    rw [if_pos c4] at H
    have c4b0:decide (x11_1<(l0.length:Int))=τ:=decide_eq_true c4
    clear c4
    by_cases c5:0≤x11_1
    ·
     rw [if_pos c5] at H
     have c5b0:decide (0≤x11_1)=τ:=decide_eq_true c5
     clear c5
     by_cases c6:x11_1<(l0.length:Int)
     ·
      rw [if_pos c6] at H
      have c6b0:decide (x11_1<(l0.length:Int))=τ:=decide_eq_true c6
      clear c6
      replace H:=Option.bind_eq_some_iff.mp H
      obtain ⟨t246,A70,H⟩:=H
      replace H:(if t246.size+(rdOf ByteArray.empty l0 x11_1).size≤9223372036854775807 then (if x3_1.size+(t246 ++ (rdOf ByteArray.empty l0 x11_1)).size≤9223372036854775807 then (impl_fields.l0 k1 (x3_1 ++ (t246 ++ (rdOf ByteArray.empty l0 x11_1))) l0 (l0.length:Int) (ζm (x11_1+1))) else (none)) else (none))=some r:=H
      have A7:=ζa A70
      clear A70
      by_cases c8:t246.size+(rdOf ByteArray.empty l0 x11_1).size≤9223372036854775807
      ·
       rw [if_pos c8] at H
       have c8b0:=eq_true c8
       have c8b1:decide (t246.size+(rdOf ByteArray.empty l0 x11_1).size≤9223372036854775807)=τ:=decide_eq_true c8
       try have c8b2:(9223372036854775807<t246.size+(rdOf ByteArray.empty l0 x11_1).size)=False:=eq_false (Nat.not_lt.2 c8)
       by_cases c9:x3_1.size+(t246 ++ (rdOf ByteArray.empty l0 x11_1)).size≤9223372036854775807
       ·
        rw [if_pos c9] at H
        have c9b0:=eq_true c9
        have c9b1:decide (x3_1.size+(t246 ++ (rdOf ByteArray.empty l0 x11_1)).size≤9223372036854775807)=τ:=decide_eq_true c9
        try have c9b2:(9223372036854775807<x3_1.size+(t246 ++ (rdOf ByteArray.empty l0 x11_1)).size)=False:=eq_false (Nat.not_lt.2 c9)
        have H':=ζa H
        clear H
        have p245:0≤(x11_1:Int):=of_decide_eq_true (by first|(with_reducible assumption)|assumption)
        have q245:x11_1<(l0.length:Int):=of_decide_eq_true (by first|(with_reducible assumption)|assumption)
        obtain ⟨ad245,e245,hx245_0⟩:=Kd.at_string HR0.out x11_1 p245 q245
        cases e245
        replace hx245_0:=(HB.out.cell (World.block_lt_of_cell? w _ hx245_0)).trans hx245_0
        replace p245:=eq_true p245
        replace q245:=eq_true q245
        go_wp2_with (first|((with_reducible refine δv (f:=189) rfl ?_);refine goesL_ (some 18) rfl rfl Tryz.func189 (by kernel_rfl) rfl #[.int .i64 ((rdOf ByteArray.empty l0 x11_1).size:Int),.int .i64 2] rfl (by (try simp only [δd,δe,δf]);first|done|rfl|(simp only [δg,δh];rfl)) ?_;(with_reducible refine (impl_number.calls k1 ((rdOf ByteArray.empty l0 x11_1).size:Int) 2 t246 _ A7.out).mono ?_);rintro e w10 ⟨rfl,hb⟩;refine ⟨_,rfl,?_⟩;have n0_:=ζa (δr (by repeat (first|(with_reducible first|exact HB.out|apply δk|apply δi|apply δj)|exact HB.out)) hb);clear HB;have HB:=n0_;clear n0_;(try clear hb);(try clear hb2);(try clear hk);(try clear hi)))
        go_roundg k1
        case measure=>have:=HK1.out;omega
        case rel=>exact ⟨(x3_1 ++ (t246 ++ (rdOf ByteArray.empty l0 x11_1))),(ζm (x11_1+1)),(by first|rfl|(simp;done)|(simp [*];done)),(by first|rfl|(simp;done)|(simp [*];done)),H',⟨by have:=HK1.out;omega⟩,⟨by repeat (first|(with_reducible first|exact HB.out|apply δk|apply δi|apply δj)|exact HB.out)⟩⟩
       ·
        rw [if_neg c9] at H
        exact absurd H (by simp)
      ·
       rw [if_neg c8] at H
       exact absurd H (by simp)
     ·
      rw [if_neg c6] at H
      exact absurd H (by simp)
    ·
     rw [if_neg c5] at H
     exact absurd H (by simp)
   ·
    rw [if_neg c4] at H
    have c4b0:decide (x11_1<(l0.length:Int))=φ:=decide_eq_false c4
    clear c4
    obtain rfl:=Option.some.inj H
    go_wp2
    go_ret
    exact ⟨by first|rfl|(simp [errW_none,errW_some] <;> rfl)|(simp [*,errW_none,errW_some] <;> rfl),by repeat (first|(with_reducible first|exact HB.out|apply δk|apply δi|apply δj)|exact HB.out)⟩


open Go.Proofs.YtabmfhnhmoiljaaGreatDoorW.PrintWords renaming gate_dst → δx, box_event → δz, below_step → δr, below_alloc → δk, pw_below_drewN → δi, below_drew1 → δj, below_size → δs, blk_cell → δl, blk_frozen → δm, blk_drewN → δn, blk_drew → δp, blk_alloc → δo, below_set → δq
open Go.Act renaming put → ζl
open List renaming setIfInBounds_toArray → δa, set_cons_zero → δb, set_cons_succ → δc, map_toArray → δd, map_cons → δe, map_nil → δf, length_drop → δg, length_take → δh
open Go.Proofs.YtabmfhnhmoiljaaGreatDoorW.PrintLast renaming pure_ → ζk, any_of → ζj
open Go.Proofs.YtabmfhnhmoiljaaGreatDoorW.PrintWords.Kd renaming R_reads' → ζg, R_below → ζh, R_alloc → ζd, R_drewN → ζc, R_drew → ζe

/-! ### impl_Order_value: function 166 -/
def impl_Order_value.j0:Nat→ByteArray→ByteArray→ByteArray→Int→Int→Int→Bool→Option (ByteArray)
 | 0,_,_,_,_,_,_,_=>none
 | k+1,x3,x639000,x639001,x639002,x639003,x639004,x639005=>(impl_amountText.f x639002).bind fun t639=>((impl_amountText.f x639003).bind fun t640=>((impl_amountText.f x639004).bind fun t641=>((impl_fields.f k (([x639001,t639,t640,t641,x3]:List ByteArray))).bind fun t645=>(some t645))))
def impl_Order_value.f (k:Nat) (a0_0:ByteArray) (a0_1:ByteArray) (a0_2:Int) (a0_3:Int) (a0_4:Int) (a0_5:Bool):Option (ByteArray):=if a0_5=τ then (impl_Order_value.j0 k (⟨#[111,112,101,110]⟩:ByteArray) a0_0 a0_1 a0_2 a0_3 a0_4 a0_5) else (impl_Order_value.j0 k (⟨#[99,108,111,115,101,100]⟩:ByteArray) a0_0 a0_1 a0_2 a0_3 a0_4 a0_5)
def impl_Order_value.T4:Bool × List (List Nat × List Nat):=(τ,[([],[]),([0],[0]),([],[]),([2],[2]),([3],[3]),([],[]),([5],[5]),([6,4],[6]),([],[]),([8],[8]),([9,7],[9]),([],[]),([1,4,7,10,11],[1,4,7,10,11]),([12,10],[12]),([13,13,0,1,2,3,4,5,6,7,8,9,10,11,12,13],[13])])
def impl_Order_value.B4:List Nat:=[0,1,0,4,12,0,32,124,0,256,1020,0,4095,8191,16383]
theorem impl_Order_value.tab4:rtab .any (opsOf Tryz.f166 4)=impl_Order_value.T4:=by kernel_rfl
theorem impl_Order_value.bits4:waitsOk impl_Order_value.T4.2 impl_Order_value.B4=τ:=by kernel_rfl
set_option maxHeartbeats 8000000 in
set_option maxRecDepth 100000 in
theorem impl_Order_value.calls (k:Nat) (a0_0:ByteArray) (a0_1:ByteArray) (a0_2:Int) (a0_3:Int) (a0_4:Int) (a0_5:Bool) (r:ByteArray) (w:World) (hT0:TabsOK w) (h:impl_Order_value.f k a0_0 a0_1 a0_2 a0_3 a0_4 a0_5=some r) :
  Calls Tryz.prog 166 #[.agg #[.string a0_0,.string a0_1,.int .i64 a0_2,.int .i64 a0_3,.int .i64 a0_4,.bool a0_5]] w fun e w'=>e = .returned (.string r)∧Below w.heap.size w w':=by
 have HT0:=ζa hT0
 clear hT0
 have hu66:=Tryz.underlying66
 have HB:=ζa (Below.refl w.heap.size w)
 have H:(if a0_5=τ then (impl_Order_value.j0 k (⟨#[111,112,101,110]⟩:ByteArray) a0_0 a0_1 a0_2 a0_3 a0_4 a0_5) else (impl_Order_value.j0 k (⟨#[99,108,111,115,101,100]⟩:ByteArray) a0_0 a0_1 a0_2 a0_3 a0_4 a0_5))=some r:=h
 clear h
 have HC2:=ζa H
 clear H
 go_enter Tryz.func166,Tryz.ntmps166
 go_upto_if 5 with (first|((with_reducible refine δx (N:=1) rfl ?_);refine δz ?hg (N:=1) ?hd (cs:=#[.string a0_0,.string a0_1,.int .i64 a0_2,.int .i64 a0_3,.int .i64 a0_4,.bool a0_5]) (t:=66) ?hr ?_;(case hd=>rfl);(case hg=>rfl);(case hr=>first|(go_simp;done)|(go_simp;rfl));intro gb638 hg w3 hbox hb;have n0_:=ζa (δr (by repeat (first|(with_reducible first|exact HB.out|apply δk|apply δi|apply δj)|exact HB.out)) hb);have n1_:=ζa (hbox);have n2_:=ζa ((by rw [hg];exact (δs (by repeat (first|(with_reducible first|exact HB.out|apply δk|apply δi|apply δj)|exact HB.out))):w.heap.size≤gb638));have n3_:=ζa ((by rw [hg];exact (δs (by repeat (first|(with_reducible first|exact HB.out|apply δk|apply δi|apply δj)|exact HB.out))):w.heap.size≤gb638));clear HB;have HB:=n0_;have BK638:=n1_;have GW638:=n2_;have GE638:=n3_;clear n0_ n1_ n2_ n3_;clear hb hbox hg;have hcz4_0:w3.cell? ⟨gb638,0,none⟩=some (.string a0_0):=(δl BK638.out 0).trans rfl;have hcz4_1:w3.cell? ⟨gb638,1,none⟩=some (.string a0_1):=(δl BK638.out 1).trans rfl;have hcz4_2:w3.cell? ⟨gb638,2,none⟩=some (.int .i64 a0_2):=(δl BK638.out 2).trans rfl;have hcz4_3:w3.cell? ⟨gb638,3,none⟩=some (.int .i64 a0_3):=(δl BK638.out 3).trans rfl;have hcz4_4:w3.cell? ⟨gb638,4,none⟩=some (.int .i64 a0_4):=(δl BK638.out 4).trans rfl;have hcz4_5:w3.cell? ⟨gb638,5,none⟩=some (.bool a0_5):=(δl BK638.out 5).trans rfl;have hfz4_0:=δm BK638.out 0;have hfz4_1:=δm BK638.out 1;have hfz4_2:=δm BK638.out 2;have hfz4_3:=δm BK638.out 3;have hfz4_4:=δm BK638.out 4;have hfz4_5:=δm BK638.out 5))
 (try simp only [ζl,δa,δb,δc])
 go_cut [3] (fun v3 wc => ∃ (kq:Nat) (x3_1:ByteArray),v3 = .string x3_1∧Aside0 (impl_Order_value.j0 kq x3_1 a0_0 a0_1 a0_2 a0_3 a0_4 a0_5=some r)∧Aside0 (kq≤k)∧Aside0 (wc.heap[gb638]? = some (.cells #[.string a0_0,.string a0_1,.int .i64 a0_2,.int .i64 a0_3,.int .i64 a0_4,.bool a0_5] 66 (0,0)))∧Aside0 (Below w.heap.size w wc))
 case first =>
  have H:=HC2.out
  clear HC2
  by_cases c5:a0_5=τ
  ·
   subst c5
   have H1:(impl_Order_value.j0 k (⟨#[111,112,101,110]⟩:ByteArray) a0_0 a0_1 a0_2 a0_3 a0_4 τ)=some r:=by rw [if_pos rfl] at H;exact H
   clear H
   have H:=H1
   clear H1
   have H':=ζa H
   clear H
   go_wp2
   go_meet
   case rel=>exact ⟨_,((⟨#[111,112,101,110]⟩:ByteArray)),(by first|rfl|(simp;done)|(simp [*];done)),H',⟨by first|omega|exact Nat.le_refl _⟩,⟨by (with_reducible repeat (first|refine δn ?_ _|refine δp ?_|refine δo ?_ _));exact BK638.out⟩,⟨by repeat (first|(with_reducible first|exact HB.out|apply δk|apply δi|apply δj|refine δq ?_ GE638.out)|exact HB.out)⟩⟩
  ·
   replace c5:=Bool.eq_false_iff.mpr c5
   subst c5
   have H1:(impl_Order_value.j0 k (⟨#[99,108,111,115,101,100]⟩:ByteArray) a0_0 a0_1 a0_2 a0_3 a0_4 φ)=some r:=by rw [if_neg (show ¬ (φ=τ) by decide)] at H;exact H
   clear H
   have H:=H1
   clear H1
   have H':=ζa H
   clear H
   go_wp2
   go_meet
   case rel=>exact ⟨_,((⟨#[99,108,111,115,101,100]⟩:ByteArray)),(by first|rfl|(simp;done)|(simp [*];done)),H',⟨by first|omega|exact Nat.le_refl _⟩,⟨by (with_reducible repeat (first|refine δn ?_ _|refine δp ?_|refine δo ?_ _));exact BK638.out⟩,⟨by repeat (first|(with_reducible first|exact HB.out|apply δk|apply δi|apply δj|refine δq ?_ GE638.out)|exact HB.out)⟩⟩
 case rest =>
  clear HC2
  try clear c1
  try clear p2
  try clear c5
  try clear hcz4_0
  try clear hcz4_1
  try clear hcz4_2
  try clear hcz4_3
  try clear hcz4_4
  try clear hcz4_5
  try clear hfz4_0
  try clear hfz4_1
  try clear hfz4_2
  try clear hfz4_3
  try clear hfz4_4
  try clear hfz4_5
  obtain ⟨kq,x3_1,rfl,HA,HJ1,BK638,HB⟩:=hcut
  cases kq with
  | zero=>exact absurd HA.out (by simp [impl_Order_value.j0])
  | succ kj1 =>
   have H:=HA.out
   clear HA
   simp only [impl_Order_value.j0] at H
   replace H:=Option.bind_eq_some_iff.mp H
   obtain ⟨t639,A60,H⟩:=H
   replace H:((impl_amountText.f a0_3).bind fun t640=>((impl_amountText.f a0_4).bind fun t641=>((impl_fields.f kj1 (([a0_1,t639,t640,t641,x3_1]:List ByteArray))).bind fun t645=>(some t645))))=some r:=H
   have A6:=ζa A60
   clear A60
   replace H:=Option.bind_eq_some_iff.mp H
   obtain ⟨t640,A70,H⟩:=H
   replace H:((impl_amountText.f a0_4).bind fun t641=>((impl_fields.f kj1 (([a0_1,t639,t640,t641,x3_1]:List ByteArray))).bind fun t645=>(some t645)))=some r:=H
   have A7:=ζa A70
   clear A70
   replace H:=Option.bind_eq_some_iff.mp H
   obtain ⟨t641,A80,H⟩:=H
   replace H:((impl_fields.f kj1 (([a0_1,t639,t640,t641,x3_1]:List ByteArray))).bind fun t645=>(some t645))=some r:=H
   have A8:=ζa A80
   clear A80
   obtain ⟨y642,hy642⟩ : ∃ y_:List ByteArray,y_=(([a0_1,t639,t640,t641,x3_1]:List ByteArray)):=⟨_,rfl⟩
   replace H:((impl_fields.f kj1 y642).bind fun t645=>(some t645))=some r:=by first|(rw [hy642];with_reducible exact H)|(have H2_:=(Option.bind_some _ _).symm.trans H;rw [hy642];with_reducible exact H2_)|(have H2_:=(Option.bind_some _ _).symm.trans H;with_reducible exact H2_)|with_reducible exact H|(rw [hy642];exact H)|exact H
   have Ny642:=ζa hy642
   clear hy642
   replace H:=Option.bind_eq_some_iff.mp H
   obtain ⟨t645,A90,H⟩:=H
   replace H:(some t645)=some r:=H
   have A9:=ζa A90
   clear A90
   obtain rfl:=Option.some.inj H
   try go_wp2
   have n0_:=ζa (δp BK638.out)
   have n1_:=ζa (δj HB.out)
   clear BK638
   clear HB
   have BK638:=n0_
   have HB:=n1_
   clear n0_ n1_
   refine start_ (n:=15) (S:=fun w'=>w'.cell? ⟨gb638,0,none⟩=some (.string a0_0)∧w'.cell? ⟨gb638,1,none⟩=some (.string a0_1)∧w'.cell? ⟨gb638,2,none⟩=some (.int .i64 a0_2)∧w'.cell? ⟨gb638,3,none⟩=some (.int .i64 a0_3)∧w'.cell? ⟨gb638,4,none⟩=some (.int .i64 a0_4)∧w'.cell? ⟨gb638,5,none⟩=some (.bool a0_5)) (ds:=[]) #[φ,φ,φ,φ,φ,φ,φ,φ,φ,φ,φ,φ,φ,φ,φ] (by kernel_rfl) rfl rfl ⟨(δl BK638.out 0).trans rfl,(δl BK638.out 1).trans rfl,(δl BK638.out 2).trans rfl,(δl BK638.out 3).trans rfl,(δl BK638.out 4).trans rfl,(δl BK638.out 5).trans rfl⟩ (fun hHeld => ?_);refine with_tabW impl_Order_value.tab4 impl_Order_value.bits4 (fun HT_ HW_ => ?_)
   generalize wc.drew=w10 at BK638 HB hHeld ⊢
   refine ζk (i:=0) (N:=some 6) (v:=?_) (a':=?_) #[τ,φ,φ,φ,φ,φ,φ,φ,φ,φ,φ,φ,φ,φ,φ] rfl rfl (ζj HT_.out (by kernel_rfl)) (fun _ _ _ h=>h) (Or.inl ⟨by rfl,?_⟩) ?_ ?_
   rotate_left
   · intro w';go_simp;with_reducible rfl
   rotate_left
   · simp only [ζl,δa,δb,δc,i64_w,i32_w];rfl
   refine ζk (i:=2) (N:=some 8) (v:=?_) (a':=?_) #[τ,φ,τ,φ,φ,φ,φ,φ,φ,φ,φ,φ,φ,φ,φ] rfl rfl (ζj HT_.out (by kernel_rfl)) (fun _ _ _ h=>h) (Or.inl ⟨by rfl,?_⟩) ?_ ?_
   rotate_left
   · intro w';go_simp;with_reducible rfl
   rotate_left
   · simp only [ζl,δa,δb,δc,i64_w,i32_w];rfl
   refine ζk (i:=5) (N:=some 11) (v:=?_) (a':=?_) #[τ,φ,τ,φ,φ,τ,φ,φ,φ,φ,φ,φ,φ,φ,φ] rfl rfl (ζj HT_.out (by kernel_rfl)) (fun _ _ _ h=>h) (Or.inl ⟨by rfl,?_⟩) ?_ ?_
   rotate_left
   · intro w';go_simp;with_reducible rfl
   rotate_left
   · simp only [ζl,δa,δb,δc,i64_w,i32_w];rfl
   refine ζk (i:=8) (N:=some 14) (v:=?_) (a':=?_) #[τ,φ,τ,φ,φ,τ,φ,φ,τ,φ,φ,φ,φ,φ,φ] rfl rfl (ζj HT_.out (by kernel_rfl)) (fun _ _ _ h=>h) (Or.inl ⟨by rfl,?_⟩) ?_ ?_
   rotate_left
   · intro w';go_simp;with_reducible rfl
   rotate_left
   · simp only [ζl,δa,δb,δc,i64_w,i32_w];rfl
   refine ζk (i:=11) (N:=some 17) (v:=?_) (a':=?_) #[τ,φ,τ,φ,φ,τ,φ,φ,τ,φ,φ,τ,φ,φ,φ] rfl rfl (ζj HT_.out (by kernel_rfl)) (fun _ _ _ h=>h) (Or.inl ⟨by rfl,?_⟩) ?_ ?_
   rotate_left
   · intro w';go_simp;with_reducible rfl
   rotate_left
   · simp only [ζl,δa,δb,δc,i64_w,i32_w];rfl
   refine take_ (i:=1) (N:=some 7) (v:=?_) (a':=?_) #[τ,τ,τ,φ,φ,τ,φ,φ,τ,φ,φ,τ,φ,φ,φ] rfl rfl (take_ofW HT_.out HW_.out (by kernel_rfl)) (fun _ _ _ h=>h) (Or.inl ⟨by rfl,?_⟩) hHeld ?_ ?_
   rotate_left
   · rintro w' ⟨s0,s1,s2,s3,s4,s5⟩;go_simp;with_reducible rfl
   rotate_left
   · simp only [ζl,δa,δb,δc,i64_w,i32_w];rfl
   refine take_ (i:=3) (N:=some 9) (v:=?_) (a':=?_) #[τ,τ,τ,τ,φ,τ,φ,φ,τ,φ,φ,τ,φ,φ,φ] rfl rfl (take_ofW HT_.out HW_.out (by kernel_rfl)) (fun _ _ _ h=>h) (Or.inl ⟨by rfl,?_⟩) hHeld ?_ ?_
   rotate_left
   · rintro w' ⟨s0,s1,s2,s3,s4,s5⟩;go_simp;with_reducible rfl
   rotate_left
   · simp only [ζl,δa,δb,δc,i64_w,i32_w];rfl
   refine take_ (i:=6) (N:=some 12) (v:=?_) (a':=?_) #[τ,τ,τ,τ,φ,τ,τ,φ,τ,φ,φ,τ,φ,φ,φ] rfl rfl (take_ofW HT_.out HW_.out (by kernel_rfl)) (fun _ _ _ h=>h) (Or.inl ⟨by rfl,?_⟩) hHeld ?_ ?_
   rotate_left
   · rintro w' ⟨s0,s1,s2,s3,s4,s5⟩;go_simp;with_reducible rfl
   rotate_left
   · simp only [ζl,δa,δb,δc,i64_w,i32_w];rfl
   refine take_ (i:=9) (N:=some 15) (v:=?_) (a':=?_) #[τ,τ,τ,τ,φ,τ,τ,φ,τ,τ,φ,τ,φ,φ,φ] rfl rfl (take_ofW HT_.out HW_.out (by kernel_rfl)) (fun _ _ _ h=>h) (Or.inl ⟨by rfl,?_⟩) hHeld ?_ ?_
   rotate_left
   · rintro w' ⟨s0,s1,s2,s3,s4,s5⟩;go_simp;with_reducible rfl
   rotate_left
   · simp only [ζl,δa,δb,δc,i64_w,i32_w];rfl
   refine one_ (i:=4) (N:=some 10) #[τ,τ,τ,τ,τ,τ,τ,φ,τ,τ,φ,τ,φ,φ,φ] rfl rfl (one_of HT_.out (by kernel_rfl)) (by decide) (fun K hK => ?_)
   refine goes_ Tryz.func147 (by kernel_rfl) rfl #[.int .i64 a0_2] (by rfl) rfl rfl (by (try simp only [δd,δe,δf]);first|done|rfl|(simp only [δg,δh];rfl)) ?_
   with_reducible refine (impl_amountText.calls a0_2 t639 _ (HT0.out.below (by repeat (first|(with_reducible first|exact HB.out|apply δk|apply δi|apply δj|refine δq ?_ GE638.out)|exact HB.out))) A6.out).mono ?_
   rintro e w11 ⟨rfl,hb⟩
   refine ⟨_,rfl,?_⟩
   have n0_:=ζa (blk_below (g:=gb638) (o:=.cells #[.string a0_0,.string a0_1,.int .i64 a0_2,.int .i64 a0_3,.int .i64 a0_4,.bool a0_5] 66 (0,0)) (by (with_reducible repeat (first|refine δn ?_ _|refine δp ?_|refine δo ?_ _));exact BK638.out) hb)
   have n1_:=ζa (δr (by repeat (first|(with_reducible first|exact HB.out|apply δk|apply δi|apply δj|refine δq ?_ GE638.out)|exact HB.out)) hb)
   clear BK638
   clear HB
   have BK638:=n0_
   have HB:=n1_
   clear n0_ n1_
   (try clear hb)
   (try clear hb2)
   (try clear hk)
   (try clear hi)
   refine hK.out _ _ ⟨(δl BK638.out 0).trans rfl,(δl BK638.out 1).trans rfl,(δl BK638.out 2).trans rfl,(δl BK638.out 3).trans rfl,(δl BK638.out 4).trans rfl,(δl BK638.out 5).trans rfl⟩ (fun hHeld => ?_)
   clear hK K
   refine norm_ (a':=?_) ?_ ?_
   rotate_left
   ·
    show ζl _ (some 10) _=_
    simp only [ζl,δa,δb,δc,i64_w,i32_w];rfl
   refine one_ (i:=7) (N:=some 13) #[τ,τ,τ,τ,τ,τ,τ,τ,τ,τ,φ,τ,φ,φ,φ] rfl rfl (one_of HT_.out (by kernel_rfl)) (by decide) (fun K hK => ?_)
   refine goes_ Tryz.func147 (by kernel_rfl) rfl #[.int .i64 a0_3] (by rfl) rfl rfl (by (try simp only [δd,δe,δf]);first|done|rfl|(simp only [δg,δh];rfl)) ?_
   with_reducible refine (impl_amountText.calls a0_3 t640 _ (HT0.out.below (by repeat (first|(with_reducible first|exact HB.out|apply δk|apply δi|apply δj|refine δq ?_ GE638.out)|exact HB.out))) A7.out).mono ?_
   rintro e w12 ⟨rfl,hb⟩
   refine ⟨_,rfl,?_⟩
   have n0_:=ζa (blk_below (g:=gb638) (o:=.cells #[.string a0_0,.string a0_1,.int .i64 a0_2,.int .i64 a0_3,.int .i64 a0_4,.bool a0_5] 66 (0,0)) (by (with_reducible repeat (first|refine δn ?_ _|refine δp ?_|refine δo ?_ _));exact BK638.out) hb)
   have n1_:=ζa (δr (by repeat (first|(with_reducible first|exact HB.out|apply δk|apply δi|apply δj|refine δq ?_ GE638.out)|exact HB.out)) hb)
   clear BK638
   clear HB
   have BK638:=n0_
   have HB:=n1_
   clear n0_ n1_
   (try clear hb)
   (try clear hb2)
   (try clear hk)
   (try clear hi)
   refine hK.out _ _ ⟨(δl BK638.out 0).trans rfl,(δl BK638.out 1).trans rfl,(δl BK638.out 2).trans rfl,(δl BK638.out 3).trans rfl,(δl BK638.out 4).trans rfl,(δl BK638.out 5).trans rfl⟩ (fun hHeld => ?_)
   clear hK K
   refine norm_ (a':=?_) ?_ ?_
   rotate_left
   ·
    show ζl _ (some 13) _=_
    simp only [ζl,δa,δb,δc,i64_w,i32_w];rfl
   refine one_ (i:=10) (N:=some 16) #[τ,τ,τ,τ,τ,τ,τ,τ,τ,τ,τ,τ,φ,φ,φ] rfl rfl (one_of HT_.out (by kernel_rfl)) (by decide) (fun K hK => ?_)
   refine goes_ Tryz.func147 (by kernel_rfl) rfl #[.int .i64 a0_4] (by rfl) rfl rfl (by (try simp only [δd,δe,δf]);first|done|rfl|(simp only [δg,δh];rfl)) ?_
   with_reducible refine (impl_amountText.calls a0_4 t641 _ (HT0.out.below (by repeat (first|(with_reducible first|exact HB.out|apply δk|apply δi|apply δj|refine δq ?_ GE638.out)|exact HB.out))) A8.out).mono ?_
   rintro e w13 ⟨rfl,hb⟩
   refine ⟨_,rfl,?_⟩
   have n0_:=ζa (blk_below (g:=gb638) (o:=.cells #[.string a0_0,.string a0_1,.int .i64 a0_2,.int .i64 a0_3,.int .i64 a0_4,.bool a0_5] 66 (0,0)) (by (with_reducible repeat (first|refine δn ?_ _|refine δp ?_|refine δo ?_ _));exact BK638.out) hb)
   have n1_:=ζa (δr (by repeat (first|(with_reducible first|exact HB.out|apply δk|apply δi|apply δj|refine δq ?_ GE638.out)|exact HB.out)) hb)
   clear BK638
   clear HB
   have BK638:=n0_
   have HB:=n1_
   clear n0_ n1_
   (try clear hb)
   (try clear hb2)
   (try clear hk)
   (try clear hi)
   refine hK.out _ _ ⟨(δl BK638.out 0).trans rfl,(δl BK638.out 1).trans rfl,(δl BK638.out 2).trans rfl,(δl BK638.out 3).trans rfl,(δl BK638.out 4).trans rfl,(δl BK638.out 5).trans rfl⟩ (fun hHeld => ?_)
   clear hK K
   refine norm_ (a':=?_) ?_ ?_
   rotate_left
   ·
    show ζl _ (some 16) _=_
    simp only [ζl,δa,δb,δc,i64_w,i32_w];rfl
   refine one_ (i:=12) (N:=some 18) #[τ,τ,τ,τ,τ,τ,τ,τ,τ,τ,τ,τ,τ,φ,φ] rfl rfl (one_of HT_.out (by kernel_rfl)) (by decide) (fun K hK => ?_)
   refine Kd.R_lit_step Kd.string _ 9 ?hg (N:=18) ?hd (xs:=([a0_1,t639,t640,t641,x3_1]:List ByteArray)) (inner:=[.string a0_1,.string t639,.string t640,.string t641,.string x3_1]) (ok:=fun _=>True) (okp:=fun _=>True) ?hr ?hp (fun _ hk=>hk) trivial (Below.refl _ _) (Nat.le_refl _) (by simp) ?_;(case hd=>rfl);(case hg=>rfl);(case hr=>first|(go_simp;done)|(go_simp;rfl));(case hp=>exact (Reps.one (show Kd.M Kd.string _ _ _ a0_1 [.string a0_1] from rfl) (Reps.one (show Kd.M Kd.string _ _ _ t639 [.string t639] from rfl) (Reps.one (show Kd.M Kd.string _ _ _ t640 [.string t640] from rfl) (Reps.one (show Kd.M Kd.string _ _ _ t641 [.string t641] from rfl) (Reps.one (show Kd.M Kd.string _ _ _ x3_1 [.string x3_1] from rfl) (Reps.none _ _)))))))
   intro v643 w14 ho15 hb hg_ hnew_
   clear hg_ hnew_
   (first|rw [← Ny642.out] at ho15|(simp only [Int.reduceToNat] at ho15;rw [← Ny642.out] at ho15))
   have n0_:=ζa (Kd.R_lower ho15 (δs (by repeat (first|(with_reducible first|exact HB.out|apply δk|apply δi|apply δj|refine δq ?_ GE638.out)|exact HB.out))))
   have n1_:=ζa (blk_below (g:=gb638) (o:=.cells #[.string a0_0,.string a0_1,.int .i64 a0_2,.int .i64 a0_3,.int .i64 a0_4,.bool a0_5] 66 (0,0)) (by (with_reducible repeat (first|refine δn ?_ _|refine δp ?_|refine δo ?_ _));exact BK638.out) hb)
   have n2_:=ζa (δr (by repeat (first|(with_reducible first|exact HB.out|apply δk|apply δi|apply δj|refine δq ?_ GE638.out)|exact HB.out)) hb)
   clear BK638
   clear HB
   have HO644:=n0_
   have BK638:=n1_
   have HB:=n2_
   clear n0_ n1_ n2_
   clear hb ho15
   obtain ⟨Ao16,co16,eo16⟩:=Kd.R_slice HO644.out
   (first|subst eo16|(injection eo16 with f1_ f2_ f3_;have f4_:=f1_.symm;have f5_:=f3_.symm;clear f1_ f2_ f3_;subst f4_;subst f5_))
   refine hK.out _ _ ⟨(δl BK638.out 0).trans rfl,(δl BK638.out 1).trans rfl,(δl BK638.out 2).trans rfl,(δl BK638.out 3).trans rfl,(δl BK638.out 4).trans rfl,(δl BK638.out 5).trans rfl⟩ (fun hHeld => ?_)
   clear hK K
   refine norm_ (a':=?_) ?_ ?_
   rotate_left
   ·
    show ζl _ (some 18) _=_
    simp only [ζl,δa,δb,δc,i64_w,i32_w];rfl
   refine one_ (i:=13) (N:=some 19) #[τ,τ,τ,τ,τ,τ,τ,τ,τ,τ,τ,τ,τ,τ,φ] rfl rfl (one_of HT_.out (by kernel_rfl)) (by decide) (fun K hK => ?_)
   refine goes_ Tryz.func146 (by kernel_rfl) rfl #[.slice Ao16 y642.length co16] (by rfl) rfl rfl (by (try simp only [δd,δe,δf]);first|done|rfl|(simp only [δg,δh];rfl)) ?_
   with_reducible refine (impl_fields.calls kj1 _ _ y642 t645 _ ?side1 ?side2 A9.out).mono ?_
   (case side1=>repeat (first|exact (ζg HO644.out).2.2|(with_reducible refine Kd.C_alloc ?_ _)|(with_reducible refine Kd.C_drewN ?_ _)|(with_reducible refine Kd.C_drew ?_)))
   (case side2=>exact (ζg HO644.out).2.1)
   rintro e w17 ⟨rfl,hb⟩
   refine ⟨_,rfl,?_⟩
   have n0_:=ζa (ζh (by (with_reducible repeat (first|apply ζd|apply ζc|apply ζe));exact HO644.out) hb)
   have n1_:=ζa (blk_below (g:=gb638) (o:=.cells #[.string a0_0,.string a0_1,.int .i64 a0_2,.int .i64 a0_3,.int .i64 a0_4,.bool a0_5] 66 (0,0)) (by (with_reducible repeat (first|refine δn ?_ _|refine δp ?_|refine δo ?_ _));exact BK638.out) hb)
   have n2_:=ζa (δr (by repeat (first|(with_reducible first|exact HB.out|apply δk|apply δi|apply δj|refine δq ?_ GE638.out)|exact HB.out)) hb)
   clear HO644
   clear BK638
   clear HB
   have HO644:=n0_
   have BK638:=n1_
   have HB:=n2_
   clear n0_ n1_ n2_
   (try clear hb)
   (try clear hb2)
   (try clear hk)
   (try clear hi)
   refine hK.out _ _ ⟨(δl BK638.out 0).trans rfl,(δl BK638.out 1).trans rfl,(δl BK638.out 2).trans rfl,(δl BK638.out 3).trans rfl,(δl BK638.out 4).trans rfl,(δl BK638.out 5).trans rfl⟩ (fun hHeld => ?_)
   clear hK K
   refine norm_ (a':=?_) ?_ ?_
   rotate_left
   ·
    show ζl _ (some 19) _=_
    simp only [ζl,δa,δb,δc,i64_w,i32_w];rfl
   refine ζk (i:=14) (N:=some 2) (v:=?_) (a':=?_) #[τ,τ,τ,τ,τ,τ,τ,τ,τ,τ,τ,τ,τ,τ,τ] rfl rfl (ζj HT_.out (by kernel_rfl)) (fun _ _ _ h=>h) (Or.inl ⟨by rfl,?_⟩) ?_ ?_
   rotate_left
   · intro w';go_simp;with_reducible rfl
   rotate_left
   · simp only [ζl,δa,δb,δc,i64_w,i32_w];rfl
   refine done_ (done_of HT_.out (by kernel_rfl)) ?_
   try go_wp2
   go_ret
   exact ⟨by first|rfl|(simp [errW_none,errW_some] <;> rfl)|(simp [*,errW_none,errW_some] <;> rfl),by repeat (first|(with_reducible first|exact HB.out|apply δk|apply δi|apply δj|refine δq ?_ GE638.out)|exact HB.out)⟩


open Go.Proofs.YtabmfhnhmoiljaaGreatDoorW.PrintWords renaming blk_cell → δl, below_alloc → δk, below_drew1 → δj, pw_below_drewN → δi, blk_alloc → δo, blk_drew → δp, blk_drewN → δn, below_step → δr

/-! ### impl_putOrder_1: function 164 -/
def impl_putOrder.F (k:Nat) (o_0:ByteArray) (o_1:ByteArray) (o_2:Int) (o_3:Int) (o_4:Int) (o_5:Bool):List S51→Option (List S51 × Int):=fun l0=>(impl_orderKey.f o_0).bind fun key=>(impl_Order_value.f k o_0 o_1 o_2 o_3 o_4 o_5).bind fun v=>impl_put.f k l0 key v
set_option maxHeartbeats 4000000 in
set_option maxRecDepth 100000 in
theorem impl_putOrder_1.calls (k:Nat) (A0:Option Addr) (c0:Nat) (l0:List S51) (gb:Nat) (o_0:ByteArray) (o_1:ByteArray) (o_2:Int) (o_3:Int) (o_4:Int) (o_5:Bool) (r1:List S51) (r2:Int) (w:World) (hr0:Kd.C k51 w A0 l0.length l0) (hc0:l0.length≤c0) (hT0:TabsOK w) (hbk:w.heap[gb]? = some (.cells #[.string o_0,.string o_1,.int .i64 o_2,.int .i64 o_3,.int .i64 o_4,.bool o_5] 66 (0,0))) (h:impl_putOrder.F k o_0 o_1 o_2 o_3 o_4 o_5 l0=some (r1,r2)) :
  Calls Tryz.prog 164 #[.slice A0 l0.length c0,.pointer (some ⟨gb,0,none⟩)] w fun e w' => ∃ v0_:Value,e = .returned (.tuple #[v0_,.int .i64 r2])∧Kd.R k51 51 w' w.heap.size (fun _=>True) v0_ r1∧Below w.heap.size w w':=by
 unfold impl_putOrder.F at h
 obtain ⟨key,hk,h⟩:=Option.bind_eq_some_iff.mp h
 have HK:=ζa hk
 clear hk
 obtain ⟨v,hv,h⟩:=Option.bind_eq_some_iff.mp h
 have HV:=ζa hv
 have HF:=ζa h
 have HR0:=ζa hr0
 have HC0:=ζa hc0
 have HT0:=ζa hT0
 have BK:=ζa hbk
 have HB:=ζa (Below.refl w.heap.size w)
 clear hv h hr0 hc0 hT0 hbk
 have hz0:=(δl BK.out 0).trans rfl
 have hz1:=(δl BK.out 1).trans rfl
 have hz2:=(δl BK.out 2).trans rfl
 have hz3:=(δl BK.out 3).trans rfl
 have hz4:=(δl BK.out 4).trans rfl
 have hz5:=(δl BK.out 5).trans rfl
 go_enter Tryz.func164,Tryz.ntmps164
 go_wp2_with fail
 go_region_held3 (fun w'=>w'.cell? ⟨gb,0,none⟩=some (.string o_0)∧w'.cell? ⟨gb,1,none⟩=some (.string o_1)∧w'.cell? ⟨gb,2,none⟩=some (.int .i64 o_2)∧w'.cell? ⟨gb,3,none⟩=some (.int .i64 o_3)∧w'.cell? ⟨gb,4,none⟩=some (.int .i64 o_4)∧w'.cell? ⟨gb,5,none⟩=some (.bool o_5)) (first|go_keep|exact ⟨(δl BK.out 0).trans rfl,(δl BK.out 1).trans rfl,(δl BK.out 2).trans rfl,(δl BK.out 3).trans rfl,(δl BK.out 4).trans rfl,(δl BK.out 5).trans rfl⟩)
  (first
   | (go_at_call 108;refine (impl_orderKey.calls o_0 key _ HK.out).mono ?_;rintro e w' ⟨rfl,⟨q',rfl⟩⟩)
   | (go_at_call 166;refine (impl_Order_value.calls k o_0 o_1 o_2 o_3 o_4 o_5 v _ (HT0.out.below (by repeat (first|exact HB.out|apply δk|apply δj|apply δi))) HV.out).mono ?_;rintro e w2 ⟨rfl,hb⟩;have m_:=ζa (blk_below (by repeat (first|exact BK.out|apply δo|apply δp|apply δn)) hb);clear BK;have BK:=m_;clear m_;have m_:=ζa (δr (by repeat (first|exact HB.out|apply δk|apply δj|apply δi)) hb);clear HB;have HB:=m_;clear m_;clear hb)
   | (go_at_call 165;refine (impl_put.calls k A0 c0 l0 key v r1 r2 _ (by repeat (first|exact Kd.C_below HR0.out HB.out|apply Kd.C_drew|apply Kd.C_drewN)) HC0.out HF.out).mono ?_;rintro e w3 ⟨v3,rfl,ho,hb⟩;have HO3:=ζa (Kd.R_lower ho (Below.size (show Below w.heap.size w _ from (by repeat (first|exact HB.out|apply δk|apply δj|apply δi)))));have m_:=ζa (blk_below (by repeat (first|exact BK.out|apply δo|apply δp|apply δn)) hb);clear BK;have BK:=m_;clear m_;have m_:=ζa (δr (by repeat (first|exact HB.out|apply δk|apply δj|apply δi)) hb);clear HB;have HB:=m_;clear m_;clear hb ho))
 all_goals go_wp2
 all_goals (go_ret2;exact ⟨_,rfl,HO3.out,HB.out⟩)


open Go.Proofs.YtabmfhnhmoiljaaGreatDoorW.PrintWords renaming gate_dst → δx, box_event → δz, below_step → δr, below_alloc → δk, pw_below_drewN → δi, below_drew1 → δj

/-! ### impl_putOrder: function 110 -/
set_option maxHeartbeats 2000000 in
set_option maxRecDepth 100000 in
theorem impl_putOrder.calls (k:Nat) (o_0:ByteArray) (o_1:ByteArray) (o_2:Int) (o_3:Int) (o_4:Int) (o_5:Bool) (w:World) (hT0:TabsOK w) :
  Calls Tryz.prog 110 #[.agg #[.string o_0,.string o_1,.int .i64 o_2,.int .i64 o_3,.int .i64 o_4,.bool o_5]] w fun e w' => ∃ (g:Nat) (lb:Array Value),e = .returned (.func (.func g) #[] lb)∧ChgR w' (g,lb) (impl_putOrder.F k o_0 o_1 o_2 o_3 o_4 o_5)∧Below w.heap.size w w':=by
 have HT0:=ζa hT0
 have HB:=ζa (Below.refl w.heap.size w)
 have hu:=Tryz.underlying66
 clear hT0
 go_enter Tryz.func110,Tryz.ntmps110
 go_wp2_with (first
  | ((with_reducible refine δx (N:=1) rfl ?_);refine δz ?hg (N:=1) ?hd (cs:=#[.string o_0,.string o_1,.int .i64 o_2,.int .i64 o_3,.int .i64 o_4,.bool o_5]) (t:=66) ?hr ?_;(case hd=>rfl);(case hg=>rfl);(case hr=>first|(go_simp;done)|(go_simp;rfl));intro gbp hg wp hbox hb;have n0_:=ζa (δr (by repeat (first|exact HB.out|apply δk|apply δi|apply δj)) hb);clear HB;have HB:=n0_;clear n0_;have BKp:=ζa hbox;clear hb hbox hg))
 go_ret
 refine ⟨_,_,rfl,⟨enters_of Tryz.func164 (by kernel_rfl) rfl,fun W A c l r code hb hr hc hF => ?_⟩,HB.out⟩
 exact impl_putOrder_1.calls k A c l gbp o_0 o_1 o_2 o_3 o_4 o_5 r code W hr hc ((HT0.out.below HB.out).below hb) (blk_below BKp.out hb) hF


open Go.Proofs.YtabmfhnhmoiljaaGreatDoorW.PrintWords renaming gate_dst → δx, box_event → δz, below_step → δr, below_alloc → δk, below_drew1 → δj, pw_below_drewN → δi, blk_cell → δl, blk_frozen → δm, blk_alloc → δo, blk_drew → δp, blk_drewN → δn
open Go.Proofs.YtabmfhnhmoiljaaGreatDoorW.PrintWords.Kd renaming R_alloc → ζd, R_drew → ζe, R_drewN → ζc

/-! ### impl_makeOrder: function 58 -/
def impl_makeOrder.f (k:Nat) (name:ByteArray) (list:List S51) (o_0:ByteArray) (o_1:ByteArray) (o_2:Int) (o_3:Int) (o_4:Int) (o_5:Bool):Option (List S51 × Int) :=
 (impl_OrderOK.f k o_0 o_1 o_2 o_3 o_4 o_5).bind fun q1=>if q1=τ then ((impl_orderKey.f o_0).bind fun q2=>(impl_get.f k list q2).bind fun q3=>if q3.2=τ then ((slices_Clone_impl_Pair_impl_Pair.f list).bind fun q4=>some (q4,9)) else ((impl_all.f k list [(impl_move.F k o_1 (⟨#[111,114,100,101,114,115]⟩:ByteArray) name o_2),(impl_putOrder.F k o_0 o_1 o_2 o_3 o_4 o_5)]).bind fun q5=>some (q5.1,q5.2))) else ((slices_Clone_impl_Pair_impl_Pair.f list).bind fun q6=>some (q6,4))
set_option maxHeartbeats 4000000 in
set_option maxRecDepth 100000 in
theorem impl_makeOrder.calls (k:Nat) (name:ByteArray) (A_list:Option Addr) (c_list:Nat) (list:List S51) (o_0:ByteArray) (o_1:ByteArray) (o_2:Int) (o_3:Int) (o_4:Int) (o_5:Bool) (r1:List S51) (r2:Int) (w:World) (hr0_list:Kd.C k51 w A_list list.length list) (hc0_list:list.length≤c_list) (hT0:TabsOK w) (h:impl_makeOrder.f k name list o_0 o_1 o_2 o_3 o_4 o_5=some (r1,r2)) :
  Calls Tryz.prog 58 #[.string name,.slice A_list list.length c_list,.agg #[.string o_0,.string o_1,.int .i64 o_2,.int .i64 o_3,.int .i64 o_4,.bool o_5]] w fun e w' => ∃ v0_:Value,e = .returned (.tuple #[v0_,.int .i64 r2])∧Kd.R k51 51 w' w.heap.size (fun _=>True) v0_ r1∧Below w.heap.size w w':=by
 have HR0_list:=ζa hr0_list
 have HC0_list:=ζa hc0_list
 clear hr0_list hc0_list
 have HT0:=ζa hT0
 clear hT0
 have HB0:=ζa (Below.refl w.heap.size w)
 unfold impl_makeOrder.f at h
 have HH:=ζa h
 clear h
 go_enter Tryz.func58,Tryz.ntmps58
 have h:=HH.out
 clear HH
 obtain ⟨b1,h2_,h⟩:=Option.bind_eq_some_iff.mp h
 have HH:=ζa h
 have H2:=ζa h2_
 clear h h2_
 go_wp2_with (first|((with_reducible refine δx (N:=5) rfl ?_);refine δz ?hg (N:=5) ?hd (cs:=#[.string o_0,.string o_1,.int .i64 o_2,.int .i64 o_3,.int .i64 o_4,.bool o_5]) (t:=66) ?hr ?_;(case hd=>rfl);(case hg=>rfl);(case hr=>first|(go_simp;done)|(go_simp;rfl));intro gbo hg w1 hbox hb;have hbc:=δr (show Below w.heap.size w _ from by repeat (first|exact Below.refl _ _|apply δk|apply δj|apply δi)) hb;have GEo:Aside0 (w.heap.size≤gbo):=⟨by rw [hg];exact Below.size (show Below w.heap.size w _ from by repeat (first|exact Below.refl _ _|apply δk|apply δj|apply δi))⟩;have GWo:Aside0 (w.heap.size≤gbo):=⟨Nat.le_trans HB0.out.size GEo.out⟩;have BKo:=ζa hbox;have m_:=ζa (δr HB0.out hbc);have HB1:=m_;clear m_;clear hb hbc hbox hg;have hzo_0:=(δl BKo.out 0).trans rfl;have hzo_1:=(δl BKo.out 1).trans rfl;have hzo_2:=(δl BKo.out 2).trans rfl;have hzo_3:=(δl BKo.out 3).trans rfl;have hzo_4:=(δl BKo.out 4).trans rfl;have hzo_5:=(δl BKo.out 5).trans rfl;have hfo_0:=δm BKo.out 0;have hfo_1:=δm BKo.out 1;have hfo_2:=δm BKo.out 2;have hfo_3:=δm BKo.out 3;have hfo_4:=δm BKo.out 4;have hfo_5:=δm BKo.out 5))
 refine (impl_OrderOK.calls k o_0 o_1 o_2 o_3 o_4 o_5 b1 _ H2.out).mono ?_
 rintro e w2 ⟨rfl,hb⟩
 have m_:=ζa (blk_below (by repeat (first|exact BKo.out|apply δo|apply δp|apply δn)) hb)
 clear BKo
 have BKo:=m_
 clear m_
 clear hzo_0 hfo_0 hzo_1 hfo_1 hzo_2 hfo_2 hzo_3 hfo_3 hzo_4 hfo_4 hzo_5 hfo_5
 have m_:=ζa (δr (by repeat (first|exact HB1.out|apply δk|apply δj|apply δi)) hb)
 clear hb
 have HB2:=m_
 clear m_
 have hzo_0:=(δl BKo.out 0).trans rfl
 have hfo_0:=δm BKo.out 0
 have hzo_1:=(δl BKo.out 1).trans rfl
 have hfo_1:=δm BKo.out 1
 have hzo_2:=(δl BKo.out 2).trans rfl
 have hfo_2:=δm BKo.out 2
 have hzo_3:=(δl BKo.out 3).trans rfl
 have hfo_3:=δm BKo.out 3
 have hzo_4:=(δl BKo.out 4).trans rfl
 have hfo_4:=δm BKo.out 4
 have hzo_5:=(δl BKo.out 5).trans rfl
 have hfo_5:=δm BKo.out 5
 have h:=HH.out
 clear HH
 cases b1 with
 | true =>
  rw [if_pos rfl] at h
  have HH:=ζa h
  clear h
  have h:=HH.out
  clear HH
  obtain ⟨k1,h4_,h⟩:=Option.bind_eq_some_iff.mp h
  have HH:=ζa h
  have H4:=ζa h4_
  clear h h4_
  go_wp2_with fail
  refine (impl_orderKey.calls o_0 k1 _ H4.out).mono ?_
  rintro e w4 ⟨rfl,hd⟩
  have hb:=hd.below
  clear hd
  have m_:=ζa (blk_below (by repeat (first|exact BKo.out|apply δo|apply δp|apply δn)) hb)
  clear BKo
  have BKo:=m_
  clear m_
  clear hzo_0 hfo_0 hzo_1 hfo_1 hzo_2 hfo_2 hzo_3 hfo_3 hzo_4 hfo_4 hzo_5 hfo_5
  have m_:=ζa (δr (by repeat (first|exact HB2.out|apply δk|apply δj|apply δi)) hb)
  clear hb
  have HB4:=m_
  clear m_
  have hzo_0:=(δl BKo.out 0).trans rfl
  have hfo_0:=δm BKo.out 0
  have hzo_1:=(δl BKo.out 1).trans rfl
  have hfo_1:=δm BKo.out 1
  have hzo_2:=(δl BKo.out 2).trans rfl
  have hfo_2:=δm BKo.out 2
  have hzo_3:=(δl BKo.out 3).trans rfl
  have hfo_3:=δm BKo.out 3
  have hzo_4:=(δl BKo.out 4).trans rfl
  have hfo_4:=δm BKo.out 4
  have hzo_5:=(δl BKo.out 5).trans rfl
  have hfo_5:=δm BKo.out 5
  have h:=HH.out
  clear HH
  obtain ⟨⟨y1,there⟩,h5_,h⟩:=Option.bind_eq_some_iff.mp h
  have HH:=ζa h
  have H5:=ζa h5_
  clear h h5_
  go_wp2_with fail
  refine (impl_get.calls k A_list c_list list k1 y1 there _ (by repeat (first|exact Kd.C_below HR0_list.out HB4.out|apply Kd.C_alloc|apply Kd.C_drew|apply Kd.C_drewN)) HC0_list.out H5.out).mono ?_
  rintro e w5 ⟨rfl,hb⟩
  have m_:=ζa (blk_below (by repeat (first|exact BKo.out|apply δo|apply δp|apply δn)) hb)
  clear BKo
  have BKo:=m_
  clear m_
  clear hzo_0 hfo_0 hzo_1 hfo_1 hzo_2 hfo_2 hzo_3 hfo_3 hzo_4 hfo_4 hzo_5 hfo_5
  have m_:=ζa (δr (by repeat (first|exact HB4.out|apply δk|apply δj|apply δi)) hb)
  clear hb
  have HB5:=m_
  clear m_
  have hzo_0:=(δl BKo.out 0).trans rfl
  have hfo_0:=δm BKo.out 0
  have hzo_1:=(δl BKo.out 1).trans rfl
  have hfo_1:=δm BKo.out 1
  have hzo_2:=(δl BKo.out 2).trans rfl
  have hfo_2:=δm BKo.out 2
  have hzo_3:=(δl BKo.out 3).trans rfl
  have hfo_3:=δm BKo.out 3
  have hzo_4:=(δl BKo.out 4).trans rfl
  have hfo_4:=δm BKo.out 4
  have hzo_5:=(δl BKo.out 5).trans rfl
  have hfo_5:=δm BKo.out 5
  have h:=HH.out
  clear HH
  cases there with
  | true =>
   rw [if_pos rfl] at h
   have HH:=ζa h
   clear h
   have h:=HH.out
   clear HH
   obtain ⟨o2,h7_,h⟩:=Option.bind_eq_some_iff.mp h
   have HH:=ζa h
   have H7:=ζa h7_
   clear h h7_
   go_wp2_with fail
   refine (slices_Clone_impl_Pair_impl_Pair.calls A_list c_list list o2 _ (by repeat (first|exact Kd.C_below HR0_list.out HB5.out|apply Kd.C_alloc|apply Kd.C_drew|apply Kd.C_drewN)) HC0_list.out H7.out).mono ?_
   rintro e w7 ⟨v7,rfl,ho,hb⟩
   have m_:=ζa (blk_below (by repeat (first|exact BKo.out|apply δo|apply δp|apply δn)) hb)
   clear BKo
   have BKo:=m_
   clear m_
   clear hzo_0 hfo_0 hzo_1 hfo_1 hzo_2 hfo_2 hzo_3 hfo_3 hzo_4 hfo_4 hzo_5 hfo_5
   have ho':=Kd.R_lower ho (Below.size (show Below w.heap.size w _ from by repeat (first|exact HB5.out|apply δk|apply δj|apply δi)))
   obtain ⟨adr7,cap7,rfl,hl7,hq7⟩:=Kd.R_reads ho'
   have HC7:=ζa hl7
   have HRn7:=ζa hq7
   have HOn7:=ζa ho'
   clear hl7 hq7 ho ho'
   have m_:=ζa (δr (by repeat (first|exact HB5.out|apply δk|apply δj|apply δi)) hb)
   clear hb
   have HB7:=m_
   clear m_
   have hzo_0:=(δl BKo.out 0).trans rfl
   have hfo_0:=δm BKo.out 0
   have hzo_1:=(δl BKo.out 1).trans rfl
   have hfo_1:=δm BKo.out 1
   have hzo_2:=(δl BKo.out 2).trans rfl
   have hfo_2:=δm BKo.out 2
   have hzo_3:=(δl BKo.out 3).trans rfl
   have hfo_3:=δm BKo.out 3
   have hzo_4:=(δl BKo.out 4).trans rfl
   have hfo_4:=δm BKo.out 4
   have hzo_5:=(δl BKo.out 5).trans rfl
   have hfo_5:=δm BKo.out 5
   have h:=HH.out
   clear HH
   simp only [Option.some.injEq,Prod.mk.injEq] at h
   obtain ⟨rfl,rfl⟩:=h
   go_wp2
   go_ret2
   exact ⟨_,rfl,(by repeat (first|exact HOn7.out|apply ζd|apply ζe|apply ζc)),(by repeat (first|exact HB7.out|apply δk|apply δj|apply δi))⟩
  | false =>
   rw [if_neg (by decide)] at h
   have HH:=ζa h
   clear h
   have h:=HH.out
   clear HH
   obtain ⟨⟨o1,c1⟩,h8_,h⟩:=Option.bind_eq_some_iff.mp h
   have HH:=ζa h
   have H8:=ζa h8_
   clear h h8_
   go_wp2_with fail
   have HBr:=ζa HB5.out
   go_region_held3 (fun w'=>w'.cell? ⟨gbo,0,none⟩=some (.string o_0)∧w'.cell? ⟨gbo,1,none⟩=some (.string o_1)∧w'.cell? ⟨gbo,2,none⟩=some (.int .i64 o_2)∧w'.cell? ⟨gbo,3,none⟩=some (.int .i64 o_3)∧w'.cell? ⟨gbo,4,none⟩=some (.int .i64 o_4)∧w'.cell? ⟨gbo,5,none⟩=some (.bool o_5)) (first|go_keep|exact ⟨(δl (by repeat (first|exact BKo.out|apply δo|apply δp|apply δn)) 0).trans rfl,(δl (by repeat (first|exact BKo.out|apply δo|apply δp|apply δn)) 1).trans rfl,(δl (by repeat (first|exact BKo.out|apply δo|apply δp|apply δn)) 2).trans rfl,(δl (by repeat (first|exact BKo.out|apply δo|apply δp|apply δn)) 3).trans rfl,(δl (by repeat (first|exact BKo.out|apply δo|apply δp|apply δn)) 4).trans rfl,(δl (by repeat (first|exact BKo.out|apply δo|apply δp|apply δn)) 5).trans rfl⟩)
    (first
     | (go_at_call 84;refine (impl_move.calls k o_1 ((⟨#[111,114,100,101,114,115]⟩:ByteArray)) name o_2 _ (HT0.out.below (by repeat (first|exact HBr.out|apply δk|apply δj|apply δi)))).mono ?_;rintro e w9 ⟨g_m,lb_m,rfl,hch,hb⟩;have m_:=ζa (blk_below (by repeat (first|exact BKo.out|apply δo|apply δp|apply δn)) hb);clear BKo;have BKo:=m_;clear m_;(try (have m_:=ζa (CH_m.out.below (δr (by repeat (first|exact Below.refl _ _|apply δk|apply δj|apply δi)) hb));clear CH_m;have CH_m:=m_;clear m_));(try (have m_:=ζa (CH_p.out.below (δr (by repeat (first|exact Below.refl _ _|apply δk|apply δj|apply δi)) hb));clear CH_p;have CH_p:=m_;clear m_));have m_:=ζa (δr (by repeat (first|exact HBr.out|apply δk|apply δj|apply δi)) hb);clear HBr;have HBr:=m_;clear m_;have CH_m:=ζa hch;have eg_m : ∀ args w,(callFunc g_m args).run Tryz.prog w = .ok (.enter g_m args) w:=hch.enters;clear hch hb)
     | (go_at_call 110;refine (impl_putOrder.calls k o_0 o_1 o_2 o_3 o_4 o_5 _ (HT0.out.below (by repeat (first|exact HBr.out|apply δk|apply δj|apply δi)))).mono ?_;rintro e w10 ⟨g_p,lb_p,rfl,hch,hb⟩;have m_:=ζa (blk_below (by repeat (first|exact BKo.out|apply δo|apply δp|apply δn)) hb);clear BKo;have BKo:=m_;clear m_;(try (have m_:=ζa (CH_m.out.below (δr (by repeat (first|exact Below.refl _ _|apply δk|apply δj|apply δi)) hb));clear CH_m;have CH_m:=m_;clear m_));(try (have m_:=ζa (CH_p.out.below (δr (by repeat (first|exact Below.refl _ _|apply δk|apply δj|apply δi)) hb));clear CH_p;have CH_p:=m_;clear m_));have m_:=ζa (δr (by repeat (first|exact HBr.out|apply δk|apply δj|apply δi)) hb);clear HBr;have HBr:=m_;clear m_;have CH_p:=ζa hch;have eg_p : ∀ args w,(callFunc g_p args).run Tryz.prog w = .ok (.enter g_p args) w:=hch.enters;clear hch hb)
     | (go_at_call 109;refine (impl_all.calls k A_list c_list list _ _ [(g_m,lb_m),(g_p,lb_p)] [(impl_move.F k o_1 (⟨#[111,114,100,101,114,115]⟩:ByteArray) name o_2),(impl_putOrder.F k o_0 o_1 o_2 o_3 o_4 o_5)] o1 c1 _ (by repeat (first|exact Kd.C_below HR0_list.out HBr.out|apply Kd.C_alloc|apply Kd.C_drew|apply Kd.C_drewN)) HC0_list.out (rowF _ (show 2≤1000 by decide) (heap_alloc_new _ _)) rfl (chg_cons (CH_m.out.below (by repeat (first|exact Below.refl _ _|apply δk|apply δj|apply δi))).chg (chg_cons (CH_p.out.below (by repeat (first|exact Below.refl _ _|apply δk|apply δj|apply δi))).chg chg_nil)) H8.out).mono ?_;rintro e w8 ⟨v8,rfl,ho,hb⟩;have ho':=Kd.R_lower ho (Below.size (show Below w.heap.size w _ from by repeat (first|exact HBr.out|apply δk|apply δj|apply δi)));obtain ⟨adr8,cap8,rfl,hl8,hq8⟩:=Kd.R_reads ho';have HC8:=ζa hl8;have HRn8:=ζa hq8;have HOn8:=ζa ho';clear hl8 hq8 ho ho';have m_:=ζa (blk_below (by repeat (first|exact BKo.out|apply δo|apply δp|apply δn)) hb);clear BKo;have BKo:=m_;clear m_;(try (have m_:=ζa (CH_m.out.below (δr (by repeat (first|exact Below.refl _ _|apply δk|apply δj|apply δi)) hb));clear CH_m;have CH_m:=m_;clear m_));(try (have m_:=ζa (CH_p.out.below (δr (by repeat (first|exact Below.refl _ _|apply δk|apply δj|apply δi)) hb));clear CH_p;have CH_p:=m_;clear m_));have m_:=ζa (δr (by repeat (first|exact HBr.out|apply δk|apply δj|apply δi)) hb);clear HBr;have HBr:=m_;clear m_;clear hb))
   all_goals
    clear hzo_0 hfo_0 hzo_1 hfo_1 hzo_2 hfo_2 hzo_3 hfo_3 hzo_4 hfo_4 hzo_5 hfo_5
    have hzo_0:=(δl BKo.out 0).trans rfl
    have hfo_0:=δm BKo.out 0
    have hzo_1:=(δl BKo.out 1).trans rfl
    have hfo_1:=δm BKo.out 1
    have hzo_2:=(δl BKo.out 2).trans rfl
    have hfo_2:=δm BKo.out 2
    have hzo_3:=(δl BKo.out 3).trans rfl
    have hfo_3:=δm BKo.out 3
    have hzo_4:=(δl BKo.out 4).trans rfl
    have hfo_4:=δm BKo.out 4
    have hzo_5:=(δl BKo.out 5).trans rfl
    have hfo_5:=δm BKo.out 5
    have h:=HH.out
    clear HH
    simp only [Option.some.injEq,Prod.mk.injEq] at h
    obtain ⟨rfl,rfl⟩:=h
    go_wp2
    go_ret2
    exact ⟨_,rfl,(by repeat (first|exact HOn8.out|apply ζd|apply ζe|apply ζc)),(by repeat (first|exact HBr.out|apply δk|apply δj|apply δi))⟩
 | false =>
  rw [if_neg (by decide)] at h
  have HH:=ζa h
  clear h
  have h:=HH.out
  clear HH
  obtain ⟨o2,h11_,h⟩:=Option.bind_eq_some_iff.mp h
  have HH:=ζa h
  have H11:=ζa h11_
  clear h h11_
  go_wp2_with fail
  refine (slices_Clone_impl_Pair_impl_Pair.calls A_list c_list list o2 _ (by repeat (first|exact Kd.C_below HR0_list.out HB2.out|apply Kd.C_alloc|apply Kd.C_drew|apply Kd.C_drewN)) HC0_list.out H11.out).mono ?_
  rintro e w11 ⟨v11,rfl,ho,hb⟩
  have m_:=ζa (blk_below (by repeat (first|exact BKo.out|apply δo|apply δp|apply δn)) hb)
  clear BKo
  have BKo:=m_
  clear m_
  clear hzo_0 hfo_0 hzo_1 hfo_1 hzo_2 hfo_2 hzo_3 hfo_3 hzo_4 hfo_4 hzo_5 hfo_5
  have ho':=Kd.R_lower ho (Below.size (show Below w.heap.size w _ from by repeat (first|exact HB2.out|apply δk|apply δj|apply δi)))
  obtain ⟨adr11,cap11,rfl,hl11,hq11⟩:=Kd.R_reads ho'
  have HC11:=ζa hl11
  have HRn11:=ζa hq11
  have HOn11:=ζa ho'
  clear hl11 hq11 ho ho'
  have m_:=ζa (δr (by repeat (first|exact HB2.out|apply δk|apply δj|apply δi)) hb)
  clear hb
  have HB11:=m_
  clear m_
  have hzo_0:=(δl BKo.out 0).trans rfl
  have hfo_0:=δm BKo.out 0
  have hzo_1:=(δl BKo.out 1).trans rfl
  have hfo_1:=δm BKo.out 1
  have hzo_2:=(δl BKo.out 2).trans rfl
  have hfo_2:=δm BKo.out 2
  have hzo_3:=(δl BKo.out 3).trans rfl
  have hfo_3:=δm BKo.out 3
  have hzo_4:=(δl BKo.out 4).trans rfl
  have hfo_4:=δm BKo.out 4
  have hzo_5:=(δl BKo.out 5).trans rfl
  have hfo_5:=δm BKo.out 5
  have h:=HH.out
  clear HH
  simp only [Option.some.injEq,Prod.mk.injEq] at h
  obtain ⟨rfl,rfl⟩:=h
  go_wp2
  go_ret2
  exact ⟨_,rfl,(by repeat (first|exact HOn11.out|apply ζd|apply ζe|apply ζc)),(by repeat (first|exact HB11.out|apply δk|apply δj|apply δi))⟩


open Go.Proofs.YtabmfhnhmoiljaaGreatDoorW.PrintWords renaming gate_dst → δx, below_size → δs, below_alloc → δk, pw_below_drewN → δi, below_drew1 → δj, below_step → δr, gate_callee → δv

/-! ### impl_MakeOrder: function 30 -/
def impl_MakeOrder.f (k:Nat) (a0:ByteArray) (l1:List (S51)) (a2:ByteArray) (a3:ByteArray) (a4:Int) (a5:Int):Option ((List (S51)) × Int):=(impl_nameCode.f k a0 l1 (([a2,a3]:List ByteArray))).bind fun t649=>(if t649=0 then ((impl_makeOrder.f k a0 l1 a2 a3 a4 a5 a4 τ).bind fun bt650=>(some (bt650.1,bt650.2))) else (some (([]:List (S51)),t649)))
set_option maxHeartbeats 8000000 in
set_option maxRecDepth 100000 in
theorem impl_MakeOrder.calls (k:Nat) (a0:ByteArray) (A1:Option Addr) (c1:Nat) (l1:List (S51)) (a2:ByteArray) (a3:ByteArray) (a4:Int) (a5:Int) (r1:List (S51)) (r2:Int) (w:World) (hr1:Kd.C k51 w A1 l1.length l1) (hc1:l1.length≤c1) (hT0:TabsOK w) (h:impl_MakeOrder.f k a0 l1 a2 a3 a4 a5=some (r1,r2)) :
  Calls Tryz.prog 30 #[.string a0,.slice A1 l1.length c1,.string a2,.string a3,.int .i64 a4,.int .i64 a5] w fun e w' => ∃ v0_:Value,e = .returned (.tuple #[v0_,.int .i64 r2])∧Kd.R k51 51 w' w.heap.size (fun _=>True) v0_ r1∧Below w.heap.size w w':=by
 have HT0:=ζa hT0
 clear hT0
 have hu66:=Tryz.underlying66
 have HR1:=ζa hr1
 have HC1:=ζa hc1
 clear hr1 hc1
 have HB:=ζa (Below.refl w.heap.size w)
 have H:((impl_nameCode.f k a0 l1 (([a2,a3]:List ByteArray))).bind fun t649=>(if t649=0 then ((impl_makeOrder.f k a0 l1 a2 a3 a4 a5 a4 τ).bind fun bt650=>(some (bt650.1,bt650.2))) else (some (([]:List (S51)),t649))))=some (r1,r2):=h
 clear h
 obtain ⟨y646,hy646⟩ : ∃ y_:List ByteArray,y_=(([a2,a3]:List ByteArray)):=⟨_,rfl⟩
 replace H:((impl_nameCode.f k a0 l1 y646).bind fun t649=>(if t649=0 then ((impl_makeOrder.f k a0 l1 a2 a3 a4 a5 a4 τ).bind fun bt650=>(some (bt650.1,bt650.2))) else (some (([]:List (S51)),t649))))=some (r1,r2):=by first|(rw [hy646];with_reducible exact H)|(have H2_:=(Option.bind_some _ _).symm.trans H;rw [hy646];with_reducible exact H2_)|(have H2_:=(Option.bind_some _ _).symm.trans H;with_reducible exact H2_)|with_reducible exact H|(rw [hy646];exact H)|exact H
 have Ny646:=ζa hy646
 clear hy646
 replace H:=Option.bind_eq_some_iff.mp H
 obtain ⟨t649,A70,H⟩:=H
 replace H:(if t649=0 then ((impl_makeOrder.f k a0 l1 a2 a3 a4 a5 a4 τ).bind fun bt650=>(some (bt650.1,bt650.2))) else (some (([]:List (S51)),t649)))=some (r1,r2):=H
 have A7:=ζa A70
 clear A70
 by_cases c8:t649=0
 ·
  rw [if_pos c8] at H
  have c8b0:(t649 == 0)=τ:=beq_iff_eq.mpr c8
  have c8b1:(t649 != 0)=φ:=bne_eq_false_iff_eq.mpr c8
  clear c8
  replace H:=Option.bind_eq_some_iff.mp H
  obtain ⟨⟨t650,t653⟩,A90,H⟩:=H
  replace H:(some (t650,t653))=some (r1,r2):=H
  have A9:=ζa A90
  clear A90
  simp only [Option.some.injEq,Prod.mk.injEq] at H
  obtain ⟨rfl,rfl⟩:=H
  go_enter Tryz.func30,Tryz.ntmps30
  go_wp2_with (first|((with_reducible refine δx (N:=19) rfl ?_);refine Kd.R_lit Kd.string _ 9 ?hg (N:=19) ?hd (xs:=([a2,a3]:List ByteArray)) (inner:=[.string a2,.string a3]) (ok:=fun _=>True) (okp:=fun _=>True) ?hr ?hp (fun _ hk=>hk) trivial (Below.refl _ _) (Nat.le_refl _) (by simp) ?_;(case hd=>rfl);(case hg=>rfl);(case hr=>first|(go_simp;done)|(go_simp;rfl));(case hp=>exact (Reps.one (show Kd.M Kd.string _ _ _ a2 [.string a2] from rfl) (Reps.one (show Kd.M Kd.string _ _ _ a3 [.string a3] from rfl) (Reps.none _ _))));intro v647 w10 ho11 hb hg_ hnew_;clear hg_ hnew_;(first|rw [← Ny646.out] at ho11|(simp only [Int.reduceToNat] at ho11;rw [← Ny646.out] at ho11));have n0_:=ζa (Kd.R_lower ho11 (δs (by repeat (first|(with_reducible first|exact HB.out|apply δk|apply δi|apply δj)|exact HB.out))));have n1_:=ζa (δr (by repeat (first|(with_reducible first|exact HB.out|apply δk|apply δi|apply δj)|exact HB.out)) hb);clear HB;have HO648:=n0_;have HB:=n1_;clear n0_ n1_;clear hb ho11;obtain ⟨Ao12,co12,eo12⟩:=Kd.R_slice HO648.out;subst eo12)|((with_reducible refine δv (f:=45) rfl ?_);refine goesL_ (some 20) rfl rfl Tryz.func45 (by kernel_rfl) rfl #[.string a0,.slice A1 l1.length c1,.slice Ao12 y646.length co12] rfl (by (try simp only [δd,δe,δf]);first|done|rfl|(simp only [δg,δh];rfl)) ?_;(with_reducible refine (impl_nameCode.calls k a0 _ _ l1 _ _ y646 t649 _ ?side1 ?side2 ?side3 ?side4 A7.out).mono ?_);(case side1=>repeat (first|exact (Kd.C_below HR1.out HB.out)|(with_reducible refine Kd.C_alloc ?_ _)|(with_reducible refine Kd.C_drewN ?_ _)|(with_reducible refine Kd.C_drew ?_)));(case side2=>exact HC1.out);(case side3=>repeat (first|exact (ζg HO648.out).2.2|(with_reducible refine Kd.C_alloc ?_ _)|(with_reducible refine Kd.C_drewN ?_ _)|(with_reducible refine Kd.C_drew ?_)));(case side4=>exact (ζg HO648.out).2.1);rintro e w13 ⟨rfl,hb⟩;refine ⟨_,rfl,?_⟩;have n0_:=ζa (ζh (by (with_reducible repeat (first|apply ζd|apply ζc|apply ζe));exact HO648.out) hb);have n1_:=ζa (δr (by repeat (first|(with_reducible first|exact HB.out|apply δk|apply δi|apply δj)|exact HB.out)) hb);clear HO648;clear HB;have HO648:=n0_;have HB:=n1_;clear n0_ n1_;(try clear hb);(try clear hb2);(try clear hk);(try clear hi))|((with_reducible refine δv (f:=58) rfl ?_);refine goesL_ (some 32) rfl rfl Tryz.func58 (by kernel_rfl) rfl #[.string a0,.slice A1 l1.length c1,.agg #[.string a2,.string a3,.int .i64 a4,.int .i64 a5,.int .i64 a4,.bool τ]] rfl (by (try simp only [δd,δe,δf]);first|done|rfl|(simp only [δg,δh];rfl)) ?_;(with_reducible refine (impl_makeOrder.calls k a0 _ _ l1 a2 a3 a4 a5 a4 τ t650 t653 _ ?side1 ?side2 (HT0.out.below (by repeat (first|(with_reducible first|exact HB.out|apply δk|apply δi|apply δj)|exact HB.out))) A9.out).mono ?_);(case side1=>repeat (first|exact (Kd.C_below HR1.out HB.out)|(with_reducible refine Kd.C_alloc ?_ _)|(with_reducible refine Kd.C_drewN ?_ _)|(with_reducible refine Kd.C_drew ?_)));(case side2=>exact HC1.out);rintro e w14 ⟨v651,rfl,ho0,hb⟩;refine ⟨_,rfl,?_⟩;have n0_:=ζa (ζh (by (with_reducible repeat (first|apply ζd|apply ζc|apply ζe));exact HO648.out) hb);have n1_:=ζa (Kd.R_lower ho0 (δs (by repeat (first|(with_reducible first|exact HB.out|apply δk|apply δi|apply δj)|exact HB.out))));have n2_:=ζa (δr (by repeat (first|(with_reducible first|exact HB.out|apply δk|apply δi|apply δj)|exact HB.out)) hb);clear HO648;clear HB;have HO648:=n0_;have HO652:=n1_;have HB:=n2_;clear n0_ n1_ n2_;(try clear hb);(try clear hb2);(try clear hk);(try clear hi);(try clear ho0)))
  go_ret2
  exact ⟨_,by first|rfl|(simp [errW_none,errW_some] <;> rfl)|(simp [*,errW_none,errW_some] <;> rfl),by (with_reducible repeat (first|apply ζd|apply ζc|apply ζe));exact HO652.out,by repeat (first|(with_reducible first|exact HB.out|apply δk|apply δi|apply δj)|exact HB.out)⟩
 ·
  rw [if_neg c8] at H
  have c8b0:(t649 == 0)=φ:=beq_eq_false_iff_ne.mpr c8
  have c8b1:(t649 != 0)=τ:=bne_iff_ne.mpr c8
  simp only [Option.some.injEq,Prod.mk.injEq] at H
  obtain ⟨rfl,rfl⟩:=H
  go_enter Tryz.func30,Tryz.ntmps30
  go_wp2_with (first|((with_reducible refine δx (N:=19) rfl ?_);refine Kd.R_lit Kd.string _ 9 ?hg (N:=19) ?hd (xs:=([a2,a3]:List ByteArray)) (inner:=[.string a2,.string a3]) (ok:=fun _=>True) (okp:=fun _=>True) ?hr ?hp (fun _ hk=>hk) trivial (Below.refl _ _) (Nat.le_refl _) (by simp) ?_;(case hd=>rfl);(case hg=>rfl);(case hr=>first|(go_simp;done)|(go_simp;rfl));(case hp=>exact (Reps.one (show Kd.M Kd.string _ _ _ a2 [.string a2] from rfl) (Reps.one (show Kd.M Kd.string _ _ _ a3 [.string a3] from rfl) (Reps.none _ _))));intro v647 w15 ho16 hb hg_ hnew_;clear hg_ hnew_;(first|rw [← Ny646.out] at ho16|(simp only [Int.reduceToNat] at ho16;rw [← Ny646.out] at ho16));have n0_:=ζa (Kd.R_lower ho16 (δs (by repeat (first|(with_reducible first|exact HB.out|apply δk|apply δi|apply δj)|exact HB.out))));have n1_:=ζa (δr (by repeat (first|(with_reducible first|exact HB.out|apply δk|apply δi|apply δj)|exact HB.out)) hb);clear HB;have HO648:=n0_;have HB:=n1_;clear n0_ n1_;clear hb ho16;obtain ⟨Ao17,co17,eo17⟩:=Kd.R_slice HO648.out;subst eo17)|((with_reducible refine δv (f:=45) rfl ?_);refine goesL_ (some 20) rfl rfl Tryz.func45 (by kernel_rfl) rfl #[.string a0,.slice A1 l1.length c1,.slice Ao17 y646.length co17] rfl (by (try simp only [δd,δe,δf]);first|done|rfl|(simp only [δg,δh];rfl)) ?_;(with_reducible refine (impl_nameCode.calls k a0 _ _ l1 _ _ y646 t649 _ ?side1 ?side2 ?side3 ?side4 A7.out).mono ?_);(case side1=>repeat (first|exact (Kd.C_below HR1.out HB.out)|(with_reducible refine Kd.C_alloc ?_ _)|(with_reducible refine Kd.C_drewN ?_ _)|(with_reducible refine Kd.C_drew ?_)));(case side2=>exact HC1.out);(case side3=>repeat (first|exact (ζg HO648.out).2.2|(with_reducible refine Kd.C_alloc ?_ _)|(with_reducible refine Kd.C_drewN ?_ _)|(with_reducible refine Kd.C_drew ?_)));(case side4=>exact (ζg HO648.out).2.1);rintro e w18 ⟨rfl,hb⟩;refine ⟨_,rfl,?_⟩;have n0_:=ζa (ζh (by (with_reducible repeat (first|apply ζd|apply ζc|apply ζe));exact HO648.out) hb);have n1_:=ζa (δr (by repeat (first|(with_reducible first|exact HB.out|apply δk|apply δi|apply δj)|exact HB.out)) hb);clear HO648;clear HB;have HO648:=n0_;have HB:=n1_;clear n0_ n1_;(try clear hb);(try clear hb2);(try clear hk);(try clear hi)))
  go_ret2
  exact ⟨_,by first|rfl|(simp [errW_none,errW_some] <;> rfl)|(simp [*,errW_none,errW_some] <;> rfl),by first|exact Kd.R_nil _ _ _ _ _|exact Kd.N_nil _ _ _ _ _|exact Kd.V_nil _ _ _ _ _|exact Kd.Q_nil _ _ _ _ _|exact Kd.S_nil _ _ _ _ _,by repeat (first|(with_reducible first|exact HB.out|apply δk|apply δi|apply δj)|exact HB.out)⟩


open Go.Proofs.YtabmfhnhmoiljaaGreatDoorW.PrintWords renaming below_alloc → δk, pw_below_drewN → δi, below_drew1 → δj, gate_callee → δv, below_step → δr, below_size → δs
open List renaming map_toArray → δd, map_cons → δe, map_nil → δf, length_drop → δg, length_take → δh, setIfInBounds_toArray → δa, set_cons_zero → δb, set_cons_succ → δc
open Go.Proofs.YtabmfhnhmoiljaaGreatDoorW.PrintWords.Kd renaming R_reads' → ζg, R_alloc → ζd, R_drewN → ζc, R_drew → ζe, R_below → ζh

/-! ### laws_FnExactMakeOrder: function 8 -/
mutual
def laws_FnExactMakeOrder.j0:Nat→ByteArray→List (S49)→ByteArray→ByteArray→Int→Int→List (S51)→Int→List (S51)→List (S51)→Int→Bool→Option (Bool)
 | 0,_,_,_,_,_,_,_,_,_,_,_,_=>none
 | k+1,x0,x1,x2,x3,x4,x5,x14,x15,x16,x17,x18,x69=>if x69=τ then (some φ) else ((laws_toPairS.f k x1).bind fun t670=>((laws_eqPairS.f k x16 t670).bind fun t673=>(if t673=τ then ((laws_markPairS.f k x16 1).bind fun bt674=>(if bt674.1<0 then (laws_FnExactMakeOrder.j1 k x0 x1 x2 x3 x4 x5 x14 x15 x17 τ) else ((laws_eqPairS.f k x17 x14).bind fun t676=>(if t676=τ then (laws_FnExactMakeOrder.j1 k x0 x1 x2 x3 x4 x5 x14 x15 x17 (x18 != x15)) else (laws_FnExactMakeOrder.j1 k x0 x1 x2 x3 x4 x5 x14 x15 x17 τ))))) else (some φ))))
def laws_FnExactMakeOrder.j1:Nat→ByteArray→List (S49)→ByteArray→ByteArray→Int→Int→List (S51)→Int→List (S51)→Bool→Option (Bool)
 | 0,_,_,_,_,_,_,_,_,_,_=>none
 | k+1,x0,x1,x2,x3,x4,x5,x14,x15,x17,x90=>if x90=τ then (some φ) else ((laws_markPairS.f k x17 1).bind fun bt677=>((laws_heldPairS.f k bt677.2 1).bind fun t679=>(if t679<0 then (some φ) else (if t679=bt677.1 then ((laws_toPairS.f k x1).bind fun t680=>((impl_MakeOrder.f k x0 t680 x2 x3 x4 x5).bind fun bt683=>((laws_eqPairS.f k bt683.1 x14).bind fun t687=>(if t687=τ then (laws_FnExactMakeOrder.j2 k bt677.2 bt677.1 (bt683.2 != x15)) else (laws_FnExactMakeOrder.j2 k bt677.2 bt677.1 τ))))) else (some φ)))))
def laws_FnExactMakeOrder.j2:Nat→List (S51)→Int→Bool→Option (Bool)
 | 0,_,_,_=>none
 | k+1,x17,x20,x121=>if x121=τ then (some φ) else ((laws_heldPairS.f k x17 1).bind fun t688=>(if t688<0 then (some φ) else (if t688=x20 then (some τ) else (some φ))))
end
def laws_FnExactMakeOrder.f (k:Nat) (a0:ByteArray) (l1:List (S49)) (a2:ByteArray) (a3:ByteArray) (a4:Int) (a5:Int):Option (Bool):=if (a0.size:Int) > 1048576 then (some τ) else (if (a2.size:Int) > 1048576 then (some τ) else (if (a3.size:Int) > 1048576 then (some τ) else ((laws_szPairS.f k l1 1048576).bind fun t654=>(if t654<0 then (some τ) else ((laws_toPairS.f k l1).bind fun t655=>((spec_MakeOrder.f k a0 t655 a2 a3 a4 a5).bind fun bt658=>((laws_toPairS.f k l1).bind fun t662=>((impl_MakeOrder.f k a0 t662 a2 a3 a4 a5).bind fun bt665=>((laws_eqPairS.f k bt665.1 bt658.1).bind fun t669=>(if t669=τ then (laws_FnExactMakeOrder.j0 k a0 l1 a2 a3 a4 a5 bt658.1 bt658.2 t662 bt665.1 bt665.2 (bt665.2 != bt658.2)) else (laws_FnExactMakeOrder.j0 k a0 l1 a2 a3 a4 a5 bt658.1 bt658.2 t662 bt665.1 bt665.2 τ)))))))))))
set_option maxHeartbeats 8000000 in
set_option maxRecDepth 100000 in
theorem laws_FnExactMakeOrder.calls (k:Nat) (a0:ByteArray) (A1:Option Addr) (c1:Nat) (l1:List (S49)) (a2:ByteArray) (a3:ByteArray) (a4:Int) (a5:Int) (r:Bool) (w:World) (hr1:Kd.C k49 w A1 l1.length l1) (hc1:l1.length≤c1) (hT0:TabsOK w) (h:laws_FnExactMakeOrder.f k a0 l1 a2 a3 a4 a5=some r) :
  Calls Tryz.prog 8 #[.string a0,.slice A1 l1.length c1,.string a2,.string a3,.int .i64 a4,.int .i64 a5] w fun e w'=>e = .returned (.bool r)∧Below w.heap.size w w':=by
 have HT0:=ζa hT0
 clear hT0
 have HR1:=ζa hr1
 have HC1:=ζa hc1
 clear hr1 hc1
 have HB:=ζa (Below.refl w.heap.size w)
 have H:(if (a0.size:Int) > 1048576 then (some τ) else (if (a2.size:Int) > 1048576 then (some τ) else (if (a3.size:Int) > 1048576 then (some τ) else ((laws_szPairS.f k l1 1048576).bind fun t654=>(if t654<0 then (some τ) else ((laws_toPairS.f k l1).bind fun t655=>((spec_MakeOrder.f k a0 t655 a2 a3 a4 a5).bind fun bt658=>((laws_toPairS.f k l1).bind fun t662=>((impl_MakeOrder.f k a0 t662 a2 a3 a4 a5).bind fun bt665=>((laws_eqPairS.f k bt665.1 bt658.1).bind fun t669=>(if t669=τ then (laws_FnExactMakeOrder.j0 k a0 l1 a2 a3 a4 a5 bt658.1 bt658.2 t662 bt665.1 bt665.2 (bt665.2 != bt658.2)) else (laws_FnExactMakeOrder.j0 k a0 l1 a2 a3 a4 a5 bt658.1 bt658.2 t662 bt665.1 bt665.2 τ))))))))))))=some r:=h
 clear h
 by_cases c7:(a0.size:Int) > 1048576
 ·
  rw [if_pos c7] at H
  have c7b0:decide (1048576<(a0.size:Int))=τ:=decide_eq_true c7
  have c7b1:decide (1048576<a0.size)=τ:=decide_eq_true (by omega)
  clear c7
  obtain rfl:=Option.some.inj H
  go_enter Tryz.func8,Tryz.ntmps8
  go_wp2
  go_ret
  exact ⟨by first|rfl|(simp [errW_none,errW_some] <;> rfl)|(simp [*,errW_none,errW_some] <;> rfl),by repeat (first|(with_reducible first|exact HB.out|apply δk|apply δi|apply δj)|exact HB.out)⟩
 ·
  rw [if_neg c7] at H
  have c7b0:decide (1048576<(a0.size:Int))=φ:=decide_eq_false c7
  have c7b1:decide (1048576<a0.size)=φ:=decide_eq_false (by omega)
  clear c7
  by_cases c8:(a2.size:Int) > 1048576
  ·
   rw [if_pos c8] at H
   have c8b0:decide (1048576<(a2.size:Int))=τ:=decide_eq_true c8
   have c8b1:decide (1048576<a2.size)=τ:=decide_eq_true (by omega)
   clear c8
   obtain rfl:=Option.some.inj H
   go_enter Tryz.func8,Tryz.ntmps8
   go_wp2
   go_ret
   exact ⟨by first|rfl|(simp [errW_none,errW_some] <;> rfl)|(simp [*,errW_none,errW_some] <;> rfl),by repeat (first|(with_reducible first|exact HB.out|apply δk|apply δi|apply δj)|exact HB.out)⟩
  ·
   rw [if_neg c8] at H
   have c8b0:decide (1048576<(a2.size:Int))=φ:=decide_eq_false c8
   have c8b1:decide (1048576<a2.size)=φ:=decide_eq_false (by omega)
   clear c8
   by_cases c9:(a3.size:Int) > 1048576
   ·
    rw [if_pos c9] at H
    have c9b0:decide (1048576<(a3.size:Int))=τ:=decide_eq_true c9
    have c9b1:decide (1048576<a3.size)=τ:=decide_eq_true (by omega)
    clear c9
    obtain rfl:=Option.some.inj H
    go_enter Tryz.func8,Tryz.ntmps8
    go_wp2
    go_ret
    exact ⟨by first|rfl|(simp [errW_none,errW_some] <;> rfl)|(simp [*,errW_none,errW_some] <;> rfl),by repeat (first|(with_reducible first|exact HB.out|apply δk|apply δi|apply δj)|exact HB.out)⟩
   ·
    rw [if_neg c9] at H
    have c9b0:decide (1048576<(a3.size:Int))=φ:=decide_eq_false c9
    have c9b1:decide (1048576<a3.size)=φ:=decide_eq_false (by omega)
    clear c9
    replace H:=Option.bind_eq_some_iff.mp H
    obtain ⟨t654,A100,H⟩:=H
    replace H:(if t654<0 then (some τ) else ((laws_toPairS.f k l1).bind fun t655=>((spec_MakeOrder.f k a0 t655 a2 a3 a4 a5).bind fun bt658=>((laws_toPairS.f k l1).bind fun t662=>((impl_MakeOrder.f k a0 t662 a2 a3 a4 a5).bind fun bt665=>((laws_eqPairS.f k bt665.1 bt658.1).bind fun t669=>(if t669=τ then (laws_FnExactMakeOrder.j0 k a0 l1 a2 a3 a4 a5 bt658.1 bt658.2 t662 bt665.1 bt665.2 (bt665.2 != bt658.2)) else (laws_FnExactMakeOrder.j0 k a0 l1 a2 a3 a4 a5 bt658.1 bt658.2 t662 bt665.1 bt665.2 τ))))))))=some r:=H
    have A10:=ζa A100
    clear A100
    by_cases c11:t654<0
    ·
     rw [if_pos c11] at H
     have c11b0:decide (t654<0)=τ:=decide_eq_true c11
     clear c11
     obtain rfl:=Option.some.inj H
     go_enter Tryz.func8,Tryz.ntmps8
     go_wp2_with (first|((with_reducible refine δv (f:=14) rfl ?_);refine goesL_ (some 35) rfl rfl Tryz.func14 (by kernel_rfl) rfl #[.slice A1 l1.length c1,.int .i64 1048576] rfl (by (try simp only [δd,δe,δf]);first|done|rfl|(simp only [δg,δh];rfl)) ?_;(with_reducible refine (laws_szPairS.calls k _ _ l1 1048576 t654 _ ?side1 ?side2 A10.out).mono ?_);(case side1=>repeat (first|exact HR1.out|(with_reducible refine Kd.C_alloc ?_ _)|(with_reducible refine Kd.C_drewN ?_ _)|(with_reducible refine Kd.C_drew ?_)));(case side2=>exact HC1.out);rintro e w12 ⟨rfl,hb⟩;refine ⟨_,rfl,?_⟩;have n0_:=ζa (δr (by repeat (first|(with_reducible first|exact HB.out|apply δk|apply δi|apply δj)|exact HB.out)) hb);clear HB;have HB:=n0_;clear n0_;(try clear hb);(try clear hb2);(try clear hk);(try clear hi)))
     go_ret
     exact ⟨by first|rfl|(simp [errW_none,errW_some] <;> rfl)|(simp [*,errW_none,errW_some] <;> rfl),by repeat (first|(with_reducible first|exact HB.out|apply δk|apply δi|apply δj)|exact HB.out)⟩
    ·
     rw [if_neg c11] at H
     have c11b0:decide (t654<0)=φ:=decide_eq_false c11
     clear c11
     replace H:=Option.bind_eq_some_iff.mp H
     obtain ⟨t655,A130,H⟩:=H
     replace H:((spec_MakeOrder.f k a0 t655 a2 a3 a4 a5).bind fun bt658=>((laws_toPairS.f k l1).bind fun t662=>((impl_MakeOrder.f k a0 t662 a2 a3 a4 a5).bind fun bt665=>((laws_eqPairS.f k bt665.1 bt658.1).bind fun t669=>(if t669=τ then (laws_FnExactMakeOrder.j0 k a0 l1 a2 a3 a4 a5 bt658.1 bt658.2 t662 bt665.1 bt665.2 (bt665.2 != bt658.2)) else (laws_FnExactMakeOrder.j0 k a0 l1 a2 a3 a4 a5 bt658.1 bt658.2 t662 bt665.1 bt665.2 τ))))))=some r:=H
     have A13:=ζa A130
     clear A130
     replace H:=Option.bind_eq_some_iff.mp H
     obtain ⟨⟨t658,t659⟩,A140,H⟩:=H
     replace H:((laws_toPairS.f k l1).bind fun t662=>((impl_MakeOrder.f k a0 t662 a2 a3 a4 a5).bind fun bt665=>((laws_eqPairS.f k bt665.1 t658).bind fun t669=>(if t669=τ then (laws_FnExactMakeOrder.j0 k a0 l1 a2 a3 a4 a5 t658 t659 t662 bt665.1 bt665.2 (bt665.2 != t659)) else (laws_FnExactMakeOrder.j0 k a0 l1 a2 a3 a4 a5 t658 t659 t662 bt665.1 bt665.2 τ)))))=some r:=H
     have A14:=ζa A140
     clear A140
     replace H:=Option.bind_eq_some_iff.mp H
     obtain ⟨t662,A150,H⟩:=H
     replace H:((impl_MakeOrder.f k a0 t662 a2 a3 a4 a5).bind fun bt665=>((laws_eqPairS.f k bt665.1 t658).bind fun t669=>(if t669=τ then (laws_FnExactMakeOrder.j0 k a0 l1 a2 a3 a4 a5 t658 t659 t662 bt665.1 bt665.2 (bt665.2 != t659)) else (laws_FnExactMakeOrder.j0 k a0 l1 a2 a3 a4 a5 t658 t659 t662 bt665.1 bt665.2 τ))))=some r:=H
     have A15:=ζa A150
     clear A150
     replace H:=Option.bind_eq_some_iff.mp H
     obtain ⟨⟨t665,t666⟩,A160,H⟩:=H
     replace H:((laws_eqPairS.f k t665 t658).bind fun t669=>(if t669=τ then (laws_FnExactMakeOrder.j0 k a0 l1 a2 a3 a4 a5 t658 t659 t662 t665 t666 (t666 != t659)) else (laws_FnExactMakeOrder.j0 k a0 l1 a2 a3 a4 a5 t658 t659 t662 t665 t666 τ)))=some r:=H
     have A16:=ζa A160
     clear A160
     have HC17:=ζa H
     clear H
     go_enter Tryz.func8,Tryz.ntmps8
     go_upto_region 14 with (first|((with_reducible refine δv (f:=14) rfl ?_);refine goesL_ (some 35) rfl rfl Tryz.func14 (by kernel_rfl) rfl #[.slice A1 l1.length c1,.int .i64 1048576] rfl (by (try simp only [δd,δe,δf]);first|done|rfl|(simp only [δg,δh];rfl)) ?_;(with_reducible refine (laws_szPairS.calls k _ _ l1 1048576 t654 _ ?side1 ?side2 A10.out).mono ?_);(case side1=>repeat (first|exact HR1.out|(with_reducible refine Kd.C_alloc ?_ _)|(with_reducible refine Kd.C_drewN ?_ _)|(with_reducible refine Kd.C_drew ?_)));(case side2=>exact HC1.out);rintro e w18 ⟨rfl,hb⟩;refine ⟨_,rfl,?_⟩;have n0_:=ζa (δr (by repeat (first|(with_reducible first|exact HB.out|apply δk|apply δi|apply δj)|exact HB.out)) hb);clear HB;have HB:=n0_;clear n0_;(try clear hb);(try clear hb2);(try clear hk);(try clear hi))|((with_reducible refine δv (f:=16) rfl ?_);refine goesL_ (some 41) rfl rfl Tryz.func16 (by kernel_rfl) rfl #[.slice A1 l1.length c1] rfl (by (try simp only [δd,δe,δf]);first|done|rfl|(simp only [δg,δh];rfl)) ?_;(with_reducible refine (laws_toPairS.calls k _ _ l1 t655 _ ?side1 ?side2 A13.out).mono ?_);(case side1=>repeat (first|exact (Kd.C_below HR1.out HB.out)|(with_reducible refine Kd.C_alloc ?_ _)|(with_reducible refine Kd.C_drewN ?_ _)|(with_reducible refine Kd.C_drew ?_)));(case side2=>exact HC1.out);rintro e w19 ⟨v656,rfl,ho0,hb⟩;refine ⟨_,rfl,?_⟩;have n0_:=ζa (Kd.R_lower ho0 (δs (by repeat (first|(with_reducible first|exact HB.out|apply δk|apply δi|apply δj)|exact HB.out))));have n1_:=ζa (δr (by repeat (first|(with_reducible first|exact HB.out|apply δk|apply δi|apply δj)|exact HB.out)) hb);clear HB;have HO657:=n0_;have HB:=n1_;clear n0_ n1_;(try clear hb);(try clear hb2);(try clear hk);(try clear hi);(try clear ho0);obtain ⟨Ao20,co20,eo20⟩:=Kd.R_slice HO657.out;subst eo20)|((with_reducible refine δv (f:=29) rfl ?_);refine goesL_ (some 46) rfl rfl Tryz.func29 (by kernel_rfl) rfl #[.string a0,.slice Ao20 t655.length co20,.string a2,.string a3,.int .i64 a4,.int .i64 a5] rfl (by (try simp only [δd,δe,δf]);first|done|rfl|(simp only [δg,δh];rfl)) ?_;(with_reducible refine (spec_MakeOrder.calls k a0 _ _ t655 a2 a3 a4 a5 t658 t659 _ ?side1 ?side2 A14.out).mono ?_);(case side1=>repeat (first|exact (ζg HO657.out).2.2|(with_reducible refine Kd.C_alloc ?_ _)|(with_reducible refine Kd.C_drewN ?_ _)|(with_reducible refine Kd.C_drew ?_)));(case side2=>exact (ζg HO657.out).2.1);rintro e w21 ⟨v660,rfl,ho0,hb⟩;refine ⟨_,rfl,?_⟩;have n0_:=ζa (Kd.R_elder' (by (with_reducible repeat (first|apply ζd|apply ζc|apply ζe));exact HO657.out) (Kd.R_base ho0) hb);have n1_:=ζa (Kd.R_lower (Kd.R_new' ho0 (Kd.R_lt (by (with_reducible repeat (first|apply ζd|apply ζc|apply ζe));exact HO657.out))) (δs (by repeat (first|(with_reducible first|exact HB.out|apply δk|apply δi|apply δj)|exact HB.out))));have n2_:=ζa (δr (by repeat (first|(with_reducible first|exact HB.out|apply δk|apply δi|apply δj)|exact HB.out)) hb);clear HO657;clear HB;have HO657:=n0_;have HO661:=n1_;have HB:=n2_;clear n0_ n1_ n2_;(try clear hb);(try clear hb2);(try clear hk);(try clear hi);(try clear ho0))|((with_reducible refine δv (f:=16) rfl ?_);refine goesL_ (some 50) rfl rfl Tryz.func16 (by kernel_rfl) rfl #[.slice A1 l1.length c1] rfl (by (try simp only [δd,δe,δf]);first|done|rfl|(simp only [δg,δh];rfl)) ?_;(with_reducible refine (laws_toPairS.calls k _ _ l1 t662 _ ?side1 ?side2 A15.out).mono ?_);(case side1=>repeat (first|exact (Kd.C_below HR1.out HB.out)|(with_reducible refine Kd.C_alloc ?_ _)|(with_reducible refine Kd.C_drewN ?_ _)|(with_reducible refine Kd.C_drew ?_)));(case side2=>exact HC1.out);rintro e w22 ⟨v663,rfl,ho0,hb⟩;refine ⟨_,rfl,?_⟩;have n0_:=ζa (Kd.R_elder' (by (with_reducible repeat (first|apply ζd|apply ζc|apply ζe));exact HO657.out) (Kd.R_base ho0) hb);have n1_:=ζa (Kd.R_elder' (by (with_reducible repeat (first|apply ζd|apply ζc|apply ζe));exact HO661.out) (Kd.R_base ho0) hb);have n2_:=ζa (Kd.R_lower (Kd.R_new' (Kd.R_new' ho0 (Kd.R_lt (by (with_reducible repeat (first|apply ζd|apply ζc|apply ζe));exact HO657.out))) (Kd.R_lt (by (with_reducible repeat (first|apply ζd|apply ζc|apply ζe));exact HO661.out))) (δs (by repeat (first|(with_reducible first|exact HB.out|apply δk|apply δi|apply δj)|exact HB.out))));have n3_:=ζa (δr (by repeat (first|(with_reducible first|exact HB.out|apply δk|apply δi|apply δj)|exact HB.out)) hb);clear HO657;clear HO661;clear HB;have HO657:=n0_;have HO661:=n1_;have HO664:=n2_;have HB:=n3_;clear n0_ n1_ n2_ n3_;(try clear hb);(try clear hb2);(try clear hk);(try clear hi);(try clear ho0);obtain ⟨Ao23,co23,eo23⟩:=Kd.R_slice HO664.out;subst eo23)|((with_reducible refine δv (f:=30) rfl ?_);refine goesL_ (some 58) rfl rfl Tryz.func30 (by kernel_rfl) rfl #[.string a0,.slice Ao23 t662.length co23,.string a2,.string a3,.int .i64 a4,.int .i64 a5] rfl (by (try simp only [δd,δe,δf]);first|done|rfl|(simp only [δg,δh];rfl)) ?_;(with_reducible refine (impl_MakeOrder.calls k a0 _ _ t662 a2 a3 a4 a5 t665 t666 _ ?side1 ?side2 (HT0.out.below (by repeat (first|(with_reducible first|exact HB.out|apply δk|apply δi|apply δj)|exact HB.out))) A16.out).mono ?_);(case side1=>repeat (first|exact (ζg HO664.out).2.2|(with_reducible refine Kd.C_alloc ?_ _)|(with_reducible refine Kd.C_drewN ?_ _)|(with_reducible refine Kd.C_drew ?_)));(case side2=>exact (ζg HO664.out).2.1);rintro e w24 ⟨v667,rfl,ho0,hb⟩;refine ⟨_,rfl,?_⟩;have n0_:=ζa (Kd.R_elder' (by (with_reducible repeat (first|apply ζd|apply ζc|apply ζe));exact HO657.out) (Kd.R_base ho0) hb);have n1_:=ζa (Kd.R_elder' (by (with_reducible repeat (first|apply ζd|apply ζc|apply ζe));exact HO661.out) (Kd.R_base ho0) hb);have n2_:=ζa (Kd.R_elder' (by (with_reducible repeat (first|apply ζd|apply ζc|apply ζe));exact HO664.out) (Kd.R_base ho0) hb);have n3_:=ζa (Kd.R_lower (Kd.R_new' (Kd.R_new' (Kd.R_new' ho0 (Kd.R_lt (by (with_reducible repeat (first|apply ζd|apply ζc|apply ζe));exact HO657.out))) (Kd.R_lt (by (with_reducible repeat (first|apply ζd|apply ζc|apply ζe));exact HO661.out))) (Kd.R_lt (by (with_reducible repeat (first|apply ζd|apply ζc|apply ζe));exact HO664.out))) (δs (by repeat (first|(with_reducible first|exact HB.out|apply δk|apply δi|apply δj)|exact HB.out))));have n4_:=ζa (δr (by repeat (first|(with_reducible first|exact HB.out|apply δk|apply δi|apply δj)|exact HB.out)) hb);clear HO657;clear HO661;clear HO664;clear HB;have HO657:=n0_;have HO661:=n1_;have HO664:=n2_;have HO668:=n3_;have HB:=n4_;clear n0_ n1_ n2_ n3_ n4_;(try clear hb);(try clear hb2);(try clear hk);(try clear hi);(try clear ho0)))
     (try simp only [ζl,δa,δb,δc])
     go_cut [69] (fun v69 wc => ∃ (kq:Nat) (x69_16:Bool),v69 = .bool x69_16∧Aside0 (laws_FnExactMakeOrder.j0 kq a0 l1 a2 a3 a4 a5 t658 t659 t662 t665 t666 x69_16=some r)∧Aside0 (kq≤k)∧Aside0 (Kd.R k51 51 wc w.heap.size (fun k_=>some k_≠((.slice Ao23 t662.length co23):Value).ownBlock∧some k_≠(v667:Value).ownBlock) v660 t658)∧Aside0 (Kd.R k51 51 wc w.heap.size (fun k_=>some k_≠(v660:Value).ownBlock∧some k_≠(v667:Value).ownBlock) (.slice Ao23 t662.length co23) t662)∧Aside0 (Kd.R k51 51 wc w.heap.size (fun k_=>some k_≠(v660:Value).ownBlock∧some k_≠((.slice Ao23 t662.length co23):Value).ownBlock) v667 t665)∧Aside0 (Below w.heap.size w wc))
     case first =>
      have H:=HC17.out
      clear HC17
      replace H:=Option.bind_eq_some_iff.mp H
      obtain ⟨t669,A250,H⟩:=H
      replace H:(if t669=τ then (laws_FnExactMakeOrder.j0 k a0 l1 a2 a3 a4 a5 t658 t659 t662 t665 t666 (t666 != t659)) else (laws_FnExactMakeOrder.j0 k a0 l1 a2 a3 a4 a5 t658 t659 t662 t665 t666 τ))=some r:=H
      have A25:=ζa A250
      clear A250
      by_cases c26:t669=τ
      ·
       subst c26
       have H1:(laws_FnExactMakeOrder.j0 k a0 l1 a2 a3 a4 a5 t658 t659 t662 t665 t666 (t666 != t659))=some r:=by rw [if_pos rfl] at H;exact H
       clear H
       have H:=H1
       clear H1
       have H':=ζa H
       clear H
       obtain ⟨Ao27,co27,eo27⟩:=Kd.R_slice HO668.out
       subst eo27
       obtain ⟨Ao28,co28,eo28⟩:=Kd.R_slice HO661.out
       subst eo28
       go_wp2_with (first|((with_reducible refine δv (f:=18) rfl ?_);refine goesL_ (some 63) rfl rfl Tryz.func18 (by kernel_rfl) rfl #[.slice Ao27 t665.length co27,.slice Ao28 t658.length co28] rfl (by (try simp only [δd,δe,δf]);first|done|rfl|(simp only [δg,δh];rfl)) ?_;(with_reducible refine (laws_eqPairS.calls k _ _ t665 _ _ t658 τ _ ?side1 ?side2 ?side3 ?side4 A25.out).mono ?_);(case side1=>repeat (first|exact (ζg HO668.out).2.2|(with_reducible refine Kd.C_alloc ?_ _)|(with_reducible refine Kd.C_drewN ?_ _)|(with_reducible refine Kd.C_drew ?_)));(case side2=>exact (ζg HO668.out).2.1);(case side3=>repeat (first|exact (ζg HO661.out).2.2|(with_reducible refine Kd.C_alloc ?_ _)|(with_reducible refine Kd.C_drewN ?_ _)|(with_reducible refine Kd.C_drew ?_)));(case side4=>exact (ζg HO661.out).2.1);rintro e w29 ⟨rfl,hb⟩;refine ⟨_,rfl,?_⟩;have n0_:=ζa (ζh (by (with_reducible repeat (first|apply ζd|apply ζc|apply ζe));exact HO657.out) hb);have n1_:=ζa (ζh (by (with_reducible repeat (first|apply ζd|apply ζc|apply ζe));exact HO661.out) hb);have n2_:=ζa (ζh (by (with_reducible repeat (first|apply ζd|apply ζc|apply ζe));exact HO664.out) hb);have n3_:=ζa (ζh (by (with_reducible repeat (first|apply ζd|apply ζc|apply ζe));exact HO668.out) hb);have n4_:=ζa (δr (by repeat (first|(with_reducible first|exact HB.out|apply δk|apply δi|apply δj)|exact HB.out)) hb);clear HO657;clear HO661;clear HO664;clear HO668;clear HB;have HO657:=n0_;have HO661:=n1_;have HO664:=n2_;have HO668:=n3_;have HB:=n4_;clear n0_ n1_ n2_ n3_ n4_;(try clear hb);(try clear hb2);(try clear hk);(try clear hi)))
       go_meet
       case rel=>exact ⟨_,((t666 != t659)),(by first|rfl|(simp;done)|(simp [*];done)),H',⟨by first|omega|exact Nat.le_refl _⟩,⟨by (with_reducible repeat (first|apply ζd|apply ζc|apply ζe));exact Kd.R_mono HO661.out (fun _ hk=>⟨hk.1.2,hk.2⟩)⟩,⟨by (with_reducible repeat (first|apply ζd|apply ζc|apply ζe));exact Kd.R_mono HO664.out (fun _ hk=>⟨hk.1.2,hk.2⟩)⟩,⟨by (with_reducible repeat (first|apply ζd|apply ζc|apply ζe));exact Kd.R_mono HO668.out (fun _ hk=>⟨hk.1.2,hk.2⟩)⟩,⟨by repeat (first|(with_reducible first|exact HB.out|apply δk|apply δi|apply δj)|exact HB.out)⟩⟩
      ·
       replace c26:=Bool.eq_false_iff.mpr c26
       subst c26
       have H1:(laws_FnExactMakeOrder.j0 k a0 l1 a2 a3 a4 a5 t658 t659 t662 t665 t666 τ)=some r:=by rw [if_neg (show ¬ (φ=τ) by decide)] at H;exact H
       clear H
       have H:=H1
       clear H1
       have H':=ζa H
       clear H
       obtain ⟨Ao30,co30,eo30⟩:=Kd.R_slice HO668.out
       subst eo30
       obtain ⟨Ao31,co31,eo31⟩:=Kd.R_slice HO661.out
       subst eo31
       go_wp2_with (first|((with_reducible refine δv (f:=18) rfl ?_);refine goesL_ (some 63) rfl rfl Tryz.func18 (by kernel_rfl) rfl #[.slice Ao30 t665.length co30,.slice Ao31 t658.length co31] rfl (by (try simp only [δd,δe,δf]);first|done|rfl|(simp only [δg,δh];rfl)) ?_;(with_reducible refine (laws_eqPairS.calls k _ _ t665 _ _ t658 φ _ ?side1 ?side2 ?side3 ?side4 A25.out).mono ?_);(case side1=>repeat (first|exact (ζg HO668.out).2.2|(with_reducible refine Kd.C_alloc ?_ _)|(with_reducible refine Kd.C_drewN ?_ _)|(with_reducible refine Kd.C_drew ?_)));(case side2=>exact (ζg HO668.out).2.1);(case side3=>repeat (first|exact (ζg HO661.out).2.2|(with_reducible refine Kd.C_alloc ?_ _)|(with_reducible refine Kd.C_drewN ?_ _)|(with_reducible refine Kd.C_drew ?_)));(case side4=>exact (ζg HO661.out).2.1);rintro e w32 ⟨rfl,hb⟩;refine ⟨_,rfl,?_⟩;have n0_:=ζa (ζh (by (with_reducible repeat (first|apply ζd|apply ζc|apply ζe));exact HO657.out) hb);have n1_:=ζa (ζh (by (with_reducible repeat (first|apply ζd|apply ζc|apply ζe));exact HO661.out) hb);have n2_:=ζa (ζh (by (with_reducible repeat (first|apply ζd|apply ζc|apply ζe));exact HO664.out) hb);have n3_:=ζa (ζh (by (with_reducible repeat (first|apply ζd|apply ζc|apply ζe));exact HO668.out) hb);have n4_:=ζa (δr (by repeat (first|(with_reducible first|exact HB.out|apply δk|apply δi|apply δj)|exact HB.out)) hb);clear HO657;clear HO661;clear HO664;clear HO668;clear HB;have HO657:=n0_;have HO661:=n1_;have HO664:=n2_;have HO668:=n3_;have HB:=n4_;clear n0_ n1_ n2_ n3_ n4_;(try clear hb);(try clear hb2);(try clear hk);(try clear hi)))
       go_meet
       case rel=>exact ⟨_,(τ),(by first|rfl|(simp;done)|(simp [*];done)),H',⟨by first|omega|exact Nat.le_refl _⟩,⟨by (with_reducible repeat (first|apply ζd|apply ζc|apply ζe));exact Kd.R_mono HO661.out (fun _ hk=>⟨hk.1.2,hk.2⟩)⟩,⟨by (with_reducible repeat (first|apply ζd|apply ζc|apply ζe));exact Kd.R_mono HO664.out (fun _ hk=>⟨hk.1.2,hk.2⟩)⟩,⟨by (with_reducible repeat (first|apply ζd|apply ζc|apply ζe));exact Kd.R_mono HO668.out (fun _ hk=>⟨hk.1.2,hk.2⟩)⟩,⟨by repeat (first|(with_reducible first|exact HB.out|apply δk|apply δi|apply δj)|exact HB.out)⟩⟩
     case rest =>
      clear HC17
      try clear c1
      try clear c2
      try clear p2
      try clear c3
      try clear c7
      try clear c7b0
      try clear c7b1
      try clear c8
      try clear c8b0
      try clear c8b1
      try clear c9
      try clear c9b0
      try clear c9b1
      try clear c11
      try clear c11b0
      try clear c14
      try clear c16
      try clear c18
      try clear c26
      try clear c29
      try clear c30
      obtain ⟨kq,x69_16,rfl,HA,HJ16,HO_14,HO_16,HO_17,HB⟩:=hcut
      cases kq with
      | zero=>exact absurd HA.out (by simp [laws_FnExactMakeOrder.j0])
      | succ kj16 =>
       have H:=HA.out
       clear HA
       simp only [laws_FnExactMakeOrder.j0] at H
       by_cases c33:x69_16=τ
       ·
        subst c33
        have H1:(some φ)=some r:=by rw [if_pos rfl] at H;exact H
        clear H
        have H:=H1
        clear H1
        obtain rfl:=Option.some.inj H
        go_wp2
        go_ret
        exact ⟨by first|rfl|(simp [errW_none,errW_some] <;> rfl)|(simp [*,errW_none,errW_some] <;> rfl),by repeat (first|(with_reducible first|exact HB.out|apply δk|apply δi|apply δj)|exact HB.out)⟩
       ·
        replace c33:=Bool.eq_false_iff.mpr c33
        subst c33
        have H1:((laws_toPairS.f kj16 l1).bind fun t670=>((laws_eqPairS.f kj16 t662 t670).bind fun t673=>(if t673=τ then ((laws_markPairS.f kj16 t662 1).bind fun bt674=>(if bt674.1<0 then (laws_FnExactMakeOrder.j1 kj16 a0 l1 a2 a3 a4 a5 t658 t659 t665 τ) else ((laws_eqPairS.f kj16 t665 t658).bind fun t676=>(if t676=τ then (laws_FnExactMakeOrder.j1 kj16 a0 l1 a2 a3 a4 a5 t658 t659 t665 (t666 != t659)) else (laws_FnExactMakeOrder.j1 kj16 a0 l1 a2 a3 a4 a5 t658 t659 t665 τ))))) else (some φ))))=some r:=by rw [if_neg (show ¬ (φ=τ) by decide)] at H;exact H
        clear H
        have H:=H1
        clear H1
        replace H:=Option.bind_eq_some_iff.mp H
        obtain ⟨t670,A340,H⟩:=H
        replace H:((laws_eqPairS.f kj16 t662 t670).bind fun t673=>(if t673=τ then ((laws_markPairS.f kj16 t662 1).bind fun bt674=>(if bt674.1<0 then (laws_FnExactMakeOrder.j1 kj16 a0 l1 a2 a3 a4 a5 t658 t659 t665 τ) else ((laws_eqPairS.f kj16 t665 t658).bind fun t676=>(if t676=τ then (laws_FnExactMakeOrder.j1 kj16 a0 l1 a2 a3 a4 a5 t658 t659 t665 (t666 != t659)) else (laws_FnExactMakeOrder.j1 kj16 a0 l1 a2 a3 a4 a5 t658 t659 t665 τ))))) else (some φ)))=some r:=H
        have A34:=ζa A340
        clear A340
        replace H:=Option.bind_eq_some_iff.mp H
        obtain ⟨t673,A350,H⟩:=H
        replace H:(if t673=τ then ((laws_markPairS.f kj16 t662 1).bind fun bt674=>(if bt674.1<0 then (laws_FnExactMakeOrder.j1 kj16 a0 l1 a2 a3 a4 a5 t658 t659 t665 τ) else ((laws_eqPairS.f kj16 t665 t658).bind fun t676=>(if t676=τ then (laws_FnExactMakeOrder.j1 kj16 a0 l1 a2 a3 a4 a5 t658 t659 t665 (t666 != t659)) else (laws_FnExactMakeOrder.j1 kj16 a0 l1 a2 a3 a4 a5 t658 t659 t665 τ))))) else (some φ))=some r:=H
        have A35:=ζa A350
        clear A350
        by_cases c36:t673=τ
        ·
         subst c36
         have H1:((laws_markPairS.f kj16 t662 1).bind fun bt674=>(if bt674.1<0 then (laws_FnExactMakeOrder.j1 kj16 a0 l1 a2 a3 a4 a5 t658 t659 t665 τ) else ((laws_eqPairS.f kj16 t665 t658).bind fun t676=>(if t676=τ then (laws_FnExactMakeOrder.j1 kj16 a0 l1 a2 a3 a4 a5 t658 t659 t665 (t666 != t659)) else (laws_FnExactMakeOrder.j1 kj16 a0 l1 a2 a3 a4 a5 t658 t659 t665 τ)))))=some r:=by rw [if_pos rfl] at H;exact H
         clear H
         have H:=H1
         clear H1
         replace H:=Option.bind_eq_some_iff.mp H
         obtain ⟨⟨t674,t675⟩,A370,H⟩:=H
         replace H:(if t674<0 then (laws_FnExactMakeOrder.j1 kj16 a0 l1 a2 a3 a4 a5 t658 t659 t665 τ) else ((laws_eqPairS.f kj16 t665 t658).bind fun t676=>(if t676=τ then (laws_FnExactMakeOrder.j1 kj16 a0 l1 a2 a3 a4 a5 t658 t659 t665 (t666 != t659)) else (laws_FnExactMakeOrder.j1 kj16 a0 l1 a2 a3 a4 a5 t658 t659 t665 τ))))=some r:=H
         have A37:=ζa A370
         clear A370
         have HC38:=ζa H
         clear H
         go_upto_region 20 with (first|((with_reducible refine δv (f:=16) rfl ?_);refine goesL_ (some 72) rfl rfl Tryz.func16 (by kernel_rfl) rfl #[.slice A1 l1.length c1] rfl (by (try simp only [δd,δe,δf]);first|done|rfl|(simp only [δg,δh];rfl)) ?_;(with_reducible refine (laws_toPairS.calls kj16 _ _ l1 t670 _ ?side1 ?side2 A34.out).mono ?_);(case side1=>repeat (first|exact (Kd.C_below HR1.out HB.out)|(with_reducible refine Kd.C_alloc ?_ _)|(with_reducible refine Kd.C_drewN ?_ _)|(with_reducible refine Kd.C_drew ?_)));(case side2=>exact HC1.out);rintro e w39 ⟨v671,rfl,ho0,hb⟩;refine ⟨_,rfl,?_⟩;have n0_:=ζa (Kd.R_elder' (by (with_reducible repeat (first|apply ζd|apply ζc|apply ζe));exact HO_14.out) (Kd.R_base ho0) hb);have n1_:=ζa (Kd.R_elder' (by (with_reducible repeat (first|apply ζd|apply ζc|apply ζe));exact HO_16.out) (Kd.R_base ho0) hb);have n2_:=ζa (Kd.R_elder' (by (with_reducible repeat (first|apply ζd|apply ζc|apply ζe));exact HO_17.out) (Kd.R_base ho0) hb);have n3_:=ζa (Kd.R_lower (Kd.R_new' (Kd.R_new' (Kd.R_new' ho0 (Kd.R_lt (by (with_reducible repeat (first|apply ζd|apply ζc|apply ζe));exact HO_14.out))) (Kd.R_lt (by (with_reducible repeat (first|apply ζd|apply ζc|apply ζe));exact HO_16.out))) (Kd.R_lt (by (with_reducible repeat (first|apply ζd|apply ζc|apply ζe));exact HO_17.out))) (δs (by repeat (first|(with_reducible first|exact HB.out|apply δk|apply δi|apply δj)|exact HB.out))));have n4_:=ζa (δr (by repeat (first|(with_reducible first|exact HB.out|apply δk|apply δi|apply δj)|exact HB.out)) hb);clear HO_14;clear HO_16;clear HO_17;clear HB;have HO_14:=n0_;have HO_16:=n1_;have HO_17:=n2_;have HO672:=n3_;have HB:=n4_;clear n0_ n1_ n2_ n3_ n4_;(try clear hb);(try clear hb2);(try clear hk);(try clear hi);(try clear ho0);obtain ⟨Ao40,co40,eo40⟩:=Kd.R_slice HO672.out;subst eo40)|((with_reducible refine δv (f:=18) rfl ?_);refine goesL_ (some 73) rfl rfl Tryz.func18 (by kernel_rfl) rfl #[.slice Ao23 t662.length co23,.slice Ao40 t670.length co40] rfl (by (try simp only [δd,δe,δf]);first|done|rfl|(simp only [δg,δh];rfl)) ?_;(with_reducible refine (laws_eqPairS.calls kj16 _ _ t662 _ _ t670 τ _ ?side1 ?side2 ?side3 ?side4 A35.out).mono ?_);(case side1=>repeat (first|exact (ζg HO_16.out).2.2|(with_reducible refine Kd.C_alloc ?_ _)|(with_reducible refine Kd.C_drewN ?_ _)|(with_reducible refine Kd.C_drew ?_)));(case side2=>exact (ζg HO_16.out).2.1);(case side3=>repeat (first|exact (ζg HO672.out).2.2|(with_reducible refine Kd.C_alloc ?_ _)|(with_reducible refine Kd.C_drewN ?_ _)|(with_reducible refine Kd.C_drew ?_)));(case side4=>exact (ζg HO672.out).2.1);rintro e w41 ⟨rfl,hb⟩;refine ⟨_,rfl,?_⟩;have n0_:=ζa (ζh (by (with_reducible repeat (first|apply ζd|apply ζc|apply ζe));exact HO_14.out) hb);have n1_:=ζa (ζh (by (with_reducible repeat (first|apply ζd|apply ζc|apply ζe));exact HO_16.out) hb);have n2_:=ζa (ζh (by (with_reducible repeat (first|apply ζd|apply ζc|apply ζe));exact HO_17.out) hb);have n3_:=ζa (ζh (by (with_reducible repeat (first|apply ζd|apply ζc|apply ζe));exact HO672.out) hb);have n4_:=ζa (δr (by repeat (first|(with_reducible first|exact HB.out|apply δk|apply δi|apply δj)|exact HB.out)) hb);clear HO_14;clear HO_16;clear HO_17;clear HO672;clear HB;have HO_14:=n0_;have HO_16:=n1_;have HO_17:=n2_;have HO672:=n3_;have HB:=n4_;clear n0_ n1_ n2_ n3_ n4_;(try clear hb);(try clear hb2);(try clear hk);(try clear hi))|((with_reducible refine δv (f:=19) rfl ?_);refine goesL_ (some 77) rfl rfl Tryz.func19 (by kernel_rfl) rfl #[.slice Ao23 t662.length co23,.int .i64 1] rfl (by (try simp only [δd,δe,δf]);first|done|rfl|(simp only [δg,δh];rfl)) ?_;(with_reducible refine (laws_markPairS.calls kj16 (fun k_=>some k_=(.slice Ao23 t662.length co23:Value).ownBlock) (.slice Ao23 t662.length co23) t662 1 t674 t675 w _ ?side1 ?side2 A37.out).mono ?_);(case side1=>repeat (first|(with_reducible first|exact HB.out|apply δk|apply δi|apply δj)|exact HB.out));(case side2=>exact Kd.R_tight rfl HO_16.out);rintro e w42 ⟨rfl,hy0,hb,hkp⟩;refine ⟨_,rfl,?_⟩;have n0_:=ζa (Kd.R_mono (ok':=fun k_=>some k_≠(.slice Ao23 t662.length co23:Value).ownBlock∧some k_≠(v667:Value).ownBlock∧some k_≠(.slice Ao40 t670.length co40:Value).ownBlock) (Kd.R_keptB (HO_14.out) hkp (fun k_ hk_ hs_=>(hk_.1.1) hs_)) (fun k_ hk_=>⟨hk_.1.1.1,hk_.1.1.2,hk_.1.2⟩));have n1_:=ζa (Kd.R_reok rfl hy0 (fun k_ e_=>HO_16.out.1 k_ e_));have n2_:=ζa (Kd.R_mono (ok':=fun k_=>some k_≠(v660:Value).ownBlock∧some k_≠(.slice Ao23 t662.length co23:Value).ownBlock∧some k_≠(.slice Ao40 t670.length co40:Value).ownBlock) (Kd.R_keptB (HO_17.out) hkp (fun k_ hk_ hs_=>(hk_.1.2) hs_)) (fun k_ hk_=>⟨hk_.1.1.1,hk_.1.1.2,hk_.1.2⟩));have n3_:=ζa (Kd.R_mono (ok':=fun k_=>some k_≠(v660:Value).ownBlock∧some k_≠(.slice Ao23 t662.length co23:Value).ownBlock∧some k_≠(v667:Value).ownBlock) (Kd.R_keptB (HO672.out) hkp (fun k_ hk_ hs_=>(hk_.1.2) hs_)) (fun k_ hk_=>⟨hk_.1.1.1.2,hk_.1.1.2,hk_.1.2⟩));have n4_:=ζa (hb);clear HO_14;clear HO_16;clear HO_17;clear HO672;clear HB;have HO_14:=n0_;have HO_16:=n1_;have HO_17:=n2_;have HO672:=n3_;have HB:=n4_;clear n0_ n1_ n2_ n3_ n4_;(try clear hb);(try clear hkp);(try clear hy0)))
         (try simp only [ζl,δa,δb,δc])
         go_cut [90] (fun v90 wc => ∃ (kq:Nat) (x90_37:Bool),v90 = .bool x90_37∧Aside0 (laws_FnExactMakeOrder.j1 kq a0 l1 a2 a3 a4 a5 t658 t659 t665 x90_37=some r)∧Aside0 (kq≤kj16)∧Aside0 (Kd.R k51 51 wc w.heap.size (fun k_=>some k_≠(v667:Value).ownBlock) v660 t658)∧Aside0 (Kd.R k51 51 wc w.heap.size (fun k_=>some k_≠(v660:Value).ownBlock) v667 t665)∧Aside0 (Below w.heap.size w wc))
         case first =>
          have H:=HC38.out
          clear HC38
          by_cases c43:t674<0
          ·
           rw [if_pos c43] at H
           have c43b0:decide (t674<0)=τ:=decide_eq_true c43
           clear c43
           (first|rw [c43b0]|(simp only [i64_w,i32_w];rw [c43b0])|skip)
           have H':=ζa H
           clear H
           go_wp2
           go_meet
           case rel=>exact ⟨_,(τ),(by first|rfl|(simp;done)|(simp [*];done)),H',⟨by have:=HJ16.out;first|omega|exact Nat.le_refl _⟩,⟨by (with_reducible repeat (first|apply ζd|apply ζc|apply ζe));exact Kd.R_mono HO_14.out (fun _ hk=>hk.2.1)⟩,⟨by (with_reducible repeat (first|apply ζd|apply ζc|apply ζe));exact Kd.R_mono HO_17.out (fun _ hk=>hk.1)⟩,⟨by repeat (first|(with_reducible first|exact HB.out|apply δk|apply δi|apply δj)|exact HB.out)⟩⟩
          ·
           rw [if_neg c43] at H
           have c43b0:decide (t674<0)=φ:=decide_eq_false c43
           clear c43
           (first|rw [c43b0]|(simp only [i64_w,i32_w];rw [c43b0])|skip)
           replace H:=Option.bind_eq_some_iff.mp H
           obtain ⟨t676,A440,H⟩:=H
           replace H:(if t676=τ then (laws_FnExactMakeOrder.j1 kj16 a0 l1 a2 a3 a4 a5 t658 t659 t665 (t666 != t659)) else (laws_FnExactMakeOrder.j1 kj16 a0 l1 a2 a3 a4 a5 t658 t659 t665 τ))=some r:=H
           have A44:=ζa A440
           clear A440
           by_cases c45:t676=τ
           ·
            subst c45
            have H1:(laws_FnExactMakeOrder.j1 kj16 a0 l1 a2 a3 a4 a5 t658 t659 t665 (t666 != t659))=some r:=by rw [if_pos rfl] at H;exact H
            clear H
            have H:=H1
            clear H1
            have H':=ζa H
            clear H
            obtain ⟨Ao46,co46,eo46⟩:=Kd.R_slice HO_17.out
            subst eo46
            obtain ⟨Ao47,co47,eo47⟩:=Kd.R_slice HO_14.out
            subst eo47
            go_wp2_with (first|(go_at_call 18;(with_reducible refine (laws_eqPairS.calls kj16 _ _ t665 _ _ t658 τ _ ?side1 ?side2 ?side3 ?side4 A44.out).mono ?_);(case side1=>repeat (first|exact (ζg HO_17.out).2.2|(with_reducible refine Kd.C_alloc ?_ _)|(with_reducible refine Kd.C_drewN ?_ _)|(with_reducible refine Kd.C_drew ?_)));(case side2=>exact (ζg HO_17.out).2.1);(case side3=>repeat (first|exact (ζg HO_14.out).2.2|(with_reducible refine Kd.C_alloc ?_ _)|(with_reducible refine Kd.C_drewN ?_ _)|(with_reducible refine Kd.C_drew ?_)));(case side4=>exact (ζg HO_14.out).2.1);rintro e w48 ⟨rfl,hb⟩;have n0_:=ζa (ζh (by (with_reducible repeat (first|apply ζd|apply ζc|apply ζe));exact HO_14.out) hb);have n1_:=ζa (ζh (by (with_reducible repeat (first|apply ζd|apply ζc|apply ζe));exact HO_16.out) hb);have n2_:=ζa (ζh (by (with_reducible repeat (first|apply ζd|apply ζc|apply ζe));exact HO_17.out) hb);have n3_:=ζa (ζh (by (with_reducible repeat (first|apply ζd|apply ζc|apply ζe));exact HO672.out) hb);have n4_:=ζa (δr (by repeat (first|(with_reducible first|exact HB.out|apply δk|apply δi|apply δj)|exact HB.out)) hb);clear HO_14;clear HO_16;clear HO_17;clear HO672;clear HB;have HO_14:=n0_;have HO_16:=n1_;have HO_17:=n2_;have HO672:=n3_;have HB:=n4_;clear n0_ n1_ n2_ n3_ n4_;(try clear hb);(try clear hb2);(try clear hk);(try clear hi)))
            go_meet
            case rel=>exact ⟨_,((t666 != t659)),(by first|rfl|(simp;done)|(simp [*];done)),H',⟨by have:=HJ16.out;first|omega|exact Nat.le_refl _⟩,⟨by (with_reducible repeat (first|apply ζd|apply ζc|apply ζe));exact Kd.R_mono HO_14.out (fun _ hk=>hk.2.1)⟩,⟨by (with_reducible repeat (first|apply ζd|apply ζc|apply ζe));exact Kd.R_mono HO_17.out (fun _ hk=>hk.1)⟩,⟨by repeat (first|(with_reducible first|exact HB.out|apply δk|apply δi|apply δj)|exact HB.out)⟩⟩
           ·
            replace c45:=Bool.eq_false_iff.mpr c45
            subst c45
            have H1:(laws_FnExactMakeOrder.j1 kj16 a0 l1 a2 a3 a4 a5 t658 t659 t665 τ)=some r:=by rw [if_neg (show ¬ (φ=τ) by decide)] at H;exact H
            clear H
            have H:=H1
            clear H1
            have H':=ζa H
            clear H
            obtain ⟨Ao49,co49,eo49⟩:=Kd.R_slice HO_17.out
            subst eo49
            obtain ⟨Ao50,co50,eo50⟩:=Kd.R_slice HO_14.out
            subst eo50
            go_wp2_with (first|(go_at_call 18;(with_reducible refine (laws_eqPairS.calls kj16 _ _ t665 _ _ t658 φ _ ?side1 ?side2 ?side3 ?side4 A44.out).mono ?_);(case side1=>repeat (first|exact (ζg HO_17.out).2.2|(with_reducible refine Kd.C_alloc ?_ _)|(with_reducible refine Kd.C_drewN ?_ _)|(with_reducible refine Kd.C_drew ?_)));(case side2=>exact (ζg HO_17.out).2.1);(case side3=>repeat (first|exact (ζg HO_14.out).2.2|(with_reducible refine Kd.C_alloc ?_ _)|(with_reducible refine Kd.C_drewN ?_ _)|(with_reducible refine Kd.C_drew ?_)));(case side4=>exact (ζg HO_14.out).2.1);rintro e w51 ⟨rfl,hb⟩;have n0_:=ζa (ζh (by (with_reducible repeat (first|apply ζd|apply ζc|apply ζe));exact HO_14.out) hb);have n1_:=ζa (ζh (by (with_reducible repeat (first|apply ζd|apply ζc|apply ζe));exact HO_16.out) hb);have n2_:=ζa (ζh (by (with_reducible repeat (first|apply ζd|apply ζc|apply ζe));exact HO_17.out) hb);have n3_:=ζa (ζh (by (with_reducible repeat (first|apply ζd|apply ζc|apply ζe));exact HO672.out) hb);have n4_:=ζa (δr (by repeat (first|(with_reducible first|exact HB.out|apply δk|apply δi|apply δj)|exact HB.out)) hb);clear HO_14;clear HO_16;clear HO_17;clear HO672;clear HB;have HO_14:=n0_;have HO_16:=n1_;have HO_17:=n2_;have HO672:=n3_;have HB:=n4_;clear n0_ n1_ n2_ n3_ n4_;(try clear hb);(try clear hb2);(try clear hk);(try clear hi)))
            go_meet
            case rel=>exact ⟨_,(τ),(by first|rfl|(simp;done)|(simp [*];done)),H',⟨by have:=HJ16.out;first|omega|exact Nat.le_refl _⟩,⟨by (with_reducible repeat (first|apply ζd|apply ζc|apply ζe));exact Kd.R_mono HO_14.out (fun _ hk=>hk.2.1)⟩,⟨by (with_reducible repeat (first|apply ζd|apply ζc|apply ζe));exact Kd.R_mono HO_17.out (fun _ hk=>hk.1)⟩,⟨by repeat (first|(with_reducible first|exact HB.out|apply δk|apply δi|apply δj)|exact HB.out)⟩⟩
         case rest =>
          clear HC38
          try clear c1
          try clear c2
          try clear p2
          try clear c3
          try clear c4
          try clear c7
          try clear c7b0
          try clear c7b1
          try clear c8
          try clear c8b0
          try clear c8b1
          try clear c9
          try clear c9b0
          try clear c9b1
          try clear c11
          try clear c11b0
          try clear c14
          try clear c16
          try clear c18
          try clear c19
          try clear c26
          try clear c29
          try clear c30
          try clear c33
          try clear c36
          try clear c43
          try clear c43b0
          try clear c45
          try clear p2
          obtain ⟨kq,x90_37,rfl,HA,HJ37,HO_14,HO_17,HB⟩:=hcut
          cases kq with
          | zero=>exact absurd HA.out (by simp [laws_FnExactMakeOrder.j1])
          | succ kj37 =>
           have H:=HA.out
           clear HA
           simp only [laws_FnExactMakeOrder.j1] at H
           by_cases c52:x90_37=τ
           ·
            subst c52
            have H1:(some φ)=some r:=by rw [if_pos rfl] at H;exact H
            clear H
            have H:=H1
            clear H1
            obtain rfl:=Option.some.inj H
            go_wp2
            go_ret
            exact ⟨by first|rfl|(simp [errW_none,errW_some] <;> rfl)|(simp [*,errW_none,errW_some] <;> rfl),by repeat (first|(with_reducible first|exact HB.out|apply δk|apply δi|apply δj)|exact HB.out)⟩
           ·
            replace c52:=Bool.eq_false_iff.mpr c52
            subst c52
            have H1:((laws_markPairS.f kj37 t665 1).bind fun bt677=>((laws_heldPairS.f kj37 bt677.2 1).bind fun t679=>(if t679<0 then (some φ) else (if t679=bt677.1 then ((laws_toPairS.f kj37 l1).bind fun t680=>((impl_MakeOrder.f kj37 a0 t680 a2 a3 a4 a5).bind fun bt683=>((laws_eqPairS.f kj37 bt683.1 t658).bind fun t687=>(if t687=τ then (laws_FnExactMakeOrder.j2 kj37 bt677.2 bt677.1 (bt683.2 != t659)) else (laws_FnExactMakeOrder.j2 kj37 bt677.2 bt677.1 τ))))) else (some φ)))))=some r:=by rw [if_neg (show ¬ (φ=τ) by decide)] at H;exact H
            clear H
            have H:=H1
            clear H1
            replace H:=Option.bind_eq_some_iff.mp H
            obtain ⟨⟨t677,t678⟩,A530,H⟩:=H
            replace H:((laws_heldPairS.f kj37 t678 1).bind fun t679=>(if t679<0 then (some φ) else (if t679=t677 then ((laws_toPairS.f kj37 l1).bind fun t680=>((impl_MakeOrder.f kj37 a0 t680 a2 a3 a4 a5).bind fun bt683=>((laws_eqPairS.f kj37 bt683.1 t658).bind fun t687=>(if t687=τ then (laws_FnExactMakeOrder.j2 kj37 t678 t677 (bt683.2 != t659)) else (laws_FnExactMakeOrder.j2 kj37 t678 t677 τ))))) else (some φ))))=some r:=H
            have A53:=ζa A530
            clear A530
            replace H:=Option.bind_eq_some_iff.mp H
            obtain ⟨t679,A540,H⟩:=H
            replace H:(if t679<0 then (some φ) else (if t679=t677 then ((laws_toPairS.f kj37 l1).bind fun t680=>((impl_MakeOrder.f kj37 a0 t680 a2 a3 a4 a5).bind fun bt683=>((laws_eqPairS.f kj37 bt683.1 t658).bind fun t687=>(if t687=τ then (laws_FnExactMakeOrder.j2 kj37 t678 t677 (bt683.2 != t659)) else (laws_FnExactMakeOrder.j2 kj37 t678 t677 τ))))) else (some φ)))=some r:=H
            have A54:=ζa A540
            clear A540
            by_cases c55:t679<0
            ·
             rw [if_pos c55] at H
             have c55b0:decide (t679<0)=τ:=decide_eq_true c55
             clear c55
             obtain rfl:=Option.some.inj H
             obtain ⟨Ao56,co56,eo56⟩:=Kd.R_slice HO_17.out
             subst eo56
             go_wp2_with (first|((with_reducible refine δv (f:=19) rfl ?_);refine goesL_ (some 93) rfl rfl Tryz.func19 (by kernel_rfl) rfl #[.slice Ao56 t665.length co56,.int .i64 1] rfl (by (try simp only [δd,δe,δf]);first|done|rfl|(simp only [δg,δh];rfl)) ?_;(with_reducible refine (laws_markPairS.calls kj37 (fun k_=>some k_=(.slice Ao56 t665.length co56:Value).ownBlock) (.slice Ao56 t665.length co56) t665 1 t677 t678 w _ ?side1 ?side2 A53.out).mono ?_);(case side1=>repeat (first|(with_reducible first|exact HB.out|apply δk|apply δi|apply δj)|exact HB.out));(case side2=>exact Kd.R_tight rfl HO_17.out);rintro e w57 ⟨rfl,hy0,hb,hkp⟩;refine ⟨_,rfl,?_⟩;have n0_:=ζa (Kd.R_mono (ok':=fun k_=>some k_≠(.slice Ao56 t665.length co56:Value).ownBlock) (Kd.R_keptB (HO_14.out) hkp (fun k_ hk_ hs_=>(hk_) hs_)) (fun k_ hk_=>hk_.1));have n1_:=ζa (Kd.R_reok rfl hy0 (fun k_ e_=>HO_17.out.1 k_ e_));have n2_:=ζa (hb);clear HO_14;clear HO_17;clear HB;have HO_14:=n0_;have HO_17:=n1_;have HB:=n2_;clear n0_ n1_ n2_;(try clear hb);(try clear hkp);(try clear hy0))|((with_reducible refine δv (f:=20) rfl ?_);refine goesL_ (some 96) rfl rfl Tryz.func20 (by kernel_rfl) rfl #[.slice Ao56 t678.length co56,.int .i64 1] rfl (by (try simp only [δd,δe,δf]);first|done|(rw [show t678.length=t665.length from (ζg HO_17.out).1.symm] <;> rfl)|rfl|(simp only [δg,δh];rfl)) ?_;(with_reducible refine (laws_heldPairS.calls kj37 _ _ t678 1 t679 _ ?side1 ?side2 A54.out).mono ?_);(case side1=>repeat (first|exact (ζg HO_17.out).2.2|(with_reducible refine Kd.C_alloc ?_ _)|(with_reducible refine Kd.C_drewN ?_ _)|(with_reducible refine Kd.C_drew ?_)));(case side2=>rw [show t678.length=t665.length from (ζg HO_17.out).1.symm];exact (ζg HO_17.out).2.1);rintro e w58 ⟨rfl,hb⟩;refine ⟨_,rfl,?_⟩;have n0_:=ζa (ζh (by (with_reducible repeat (first|apply ζd|apply ζc|apply ζe));exact HO_14.out) hb);have n1_:=ζa (ζh (by (with_reducible repeat (first|apply ζd|apply ζc|apply ζe));exact HO_17.out) hb);have n2_:=ζa (δr (by repeat (first|(with_reducible first|exact HB.out|apply δk|apply δi|apply δj)|exact HB.out)) hb);clear HO_14;clear HO_17;clear HB;have HO_14:=n0_;have HO_17:=n1_;have HB:=n2_;clear n0_ n1_ n2_;(try clear hb);(try clear hb2);(try clear hk);(try clear hi)))
             go_ret
             exact ⟨by first|rfl|(simp [errW_none,errW_some] <;> rfl)|(simp [*,errW_none,errW_some] <;> rfl),by repeat (first|(with_reducible first|exact HB.out|apply δk|apply δi|apply δj)|exact HB.out)⟩
            ·
             rw [if_neg c55] at H
             have c55b0:decide (t679<0)=φ:=decide_eq_false c55
             clear c55
             by_cases c59:t679=t677
             ·
              rw [if_pos c59] at H
              have c59b0:(t679 == t677)=τ:=beq_iff_eq.mpr c59
              have c59b1:(t679 != t677)=φ:=bne_eq_false_iff_eq.mpr c59
              clear c59
              replace H:=Option.bind_eq_some_iff.mp H
              obtain ⟨t680,A600,H⟩:=H
              replace H:((impl_MakeOrder.f kj37 a0 t680 a2 a3 a4 a5).bind fun bt683=>((laws_eqPairS.f kj37 bt683.1 t658).bind fun t687=>(if t687=τ then (laws_FnExactMakeOrder.j2 kj37 t678 t677 (bt683.2 != t659)) else (laws_FnExactMakeOrder.j2 kj37 t678 t677 τ))))=some r:=H
              have A60:=ζa A600
              clear A600
              replace H:=Option.bind_eq_some_iff.mp H
              obtain ⟨⟨t683,t684⟩,A610,H⟩:=H
              replace H:((laws_eqPairS.f kj37 t683 t658).bind fun t687=>(if t687=τ then (laws_FnExactMakeOrder.j2 kj37 t678 t677 (t684 != t659)) else (laws_FnExactMakeOrder.j2 kj37 t678 t677 τ)))=some r:=H
              have A61:=ζa A610
              clear A610
              have HC62:=ζa H
              clear H
              obtain ⟨Ao63,co63,eo63⟩:=Kd.R_slice HO_17.out
              subst eo63
              go_upto_region 31 with (first|((with_reducible refine δv (f:=19) rfl ?_);refine goesL_ (some 93) rfl rfl Tryz.func19 (by kernel_rfl) rfl #[.slice Ao63 t665.length co63,.int .i64 1] rfl (by (try simp only [δd,δe,δf]);first|done|rfl|(simp only [δg,δh];rfl)) ?_;(with_reducible refine (laws_markPairS.calls kj37 (fun k_=>some k_=(.slice Ao63 t665.length co63:Value).ownBlock) (.slice Ao63 t665.length co63) t665 1 t677 t678 w _ ?side1 ?side2 A53.out).mono ?_);(case side1=>repeat (first|(with_reducible first|exact HB.out|apply δk|apply δi|apply δj)|exact HB.out));(case side2=>exact Kd.R_tight rfl HO_17.out);rintro e w64 ⟨rfl,hy0,hb,hkp⟩;refine ⟨_,rfl,?_⟩;have n0_:=ζa (Kd.R_mono (ok':=fun k_=>some k_≠(.slice Ao63 t665.length co63:Value).ownBlock) (Kd.R_keptB (HO_14.out) hkp (fun k_ hk_ hs_=>(hk_) hs_)) (fun k_ hk_=>hk_.1));have n1_:=ζa (Kd.R_reok rfl hy0 (fun k_ e_=>HO_17.out.1 k_ e_));have n2_:=ζa (hb);clear HO_14;clear HO_17;clear HB;have HO_14:=n0_;have HO_17:=n1_;have HB:=n2_;clear n0_ n1_ n2_;(try clear hb);(try clear hkp);(try clear hy0))|((with_reducible refine δv (f:=20) rfl ?_);refine goesL_ (some 96) rfl rfl Tryz.func20 (by kernel_rfl) rfl #[.slice Ao63 t678.length co63,.int .i64 1] rfl (by (try simp only [δd,δe,δf]);first|done|(rw [show t678.length=t665.length from (ζg HO_17.out).1.symm] <;> rfl)|rfl|(simp only [δg,δh];rfl)) ?_;(with_reducible refine (laws_heldPairS.calls kj37 _ _ t678 1 t679 _ ?side1 ?side2 A54.out).mono ?_);(case side1=>repeat (first|exact (ζg HO_17.out).2.2|(with_reducible refine Kd.C_alloc ?_ _)|(with_reducible refine Kd.C_drewN ?_ _)|(with_reducible refine Kd.C_drew ?_)));(case side2=>rw [show t678.length=t665.length from (ζg HO_17.out).1.symm];exact (ζg HO_17.out).2.1);rintro e w65 ⟨rfl,hb⟩;refine ⟨_,rfl,?_⟩;have n0_:=ζa (ζh (by (with_reducible repeat (first|apply ζd|apply ζc|apply ζe));exact HO_14.out) hb);have n1_:=ζa (ζh (by (with_reducible repeat (first|apply ζd|apply ζc|apply ζe));exact HO_17.out) hb);have n2_:=ζa (δr (by repeat (first|(with_reducible first|exact HB.out|apply δk|apply δi|apply δj)|exact HB.out)) hb);clear HO_14;clear HO_17;clear HB;have HO_14:=n0_;have HO_17:=n1_;have HB:=n2_;clear n0_ n1_ n2_;(try clear hb);(try clear hb2);(try clear hk);(try clear hi))|((with_reducible refine δv (f:=16) rfl ?_);refine goesL_ (some 105) rfl rfl Tryz.func16 (by kernel_rfl) rfl #[.slice A1 l1.length c1] rfl (by (try simp only [δd,δe,δf]);first|done|rfl|(simp only [δg,δh];rfl)) ?_;(with_reducible refine (laws_toPairS.calls kj37 _ _ l1 t680 _ ?side1 ?side2 A60.out).mono ?_);(case side1=>repeat (first|exact (Kd.C_below HR1.out HB.out)|(with_reducible refine Kd.C_alloc ?_ _)|(with_reducible refine Kd.C_drewN ?_ _)|(with_reducible refine Kd.C_drew ?_)));(case side2=>exact HC1.out);rintro e w66 ⟨v681,rfl,ho0,hb⟩;refine ⟨_,rfl,?_⟩;have n0_:=ζa (Kd.R_elder' (by (with_reducible repeat (first|apply ζd|apply ζc|apply ζe));exact HO_14.out) (Kd.R_base ho0) hb);have n1_:=ζa (Kd.R_elder' (by (with_reducible repeat (first|apply ζd|apply ζc|apply ζe));exact HO_17.out) (Kd.R_base ho0) hb);have n2_:=ζa (Kd.R_lower (Kd.R_new' (Kd.R_new' ho0 (Kd.R_lt (by (with_reducible repeat (first|apply ζd|apply ζc|apply ζe));exact HO_14.out))) (Kd.R_lt (by (with_reducible repeat (first|apply ζd|apply ζc|apply ζe));exact HO_17.out))) (δs (by repeat (first|(with_reducible first|exact HB.out|apply δk|apply δi|apply δj)|exact HB.out))));have n3_:=ζa (δr (by repeat (first|(with_reducible first|exact HB.out|apply δk|apply δi|apply δj)|exact HB.out)) hb);clear HO_14;clear HO_17;clear HB;have HO_14:=n0_;have HO_17:=n1_;have HO682:=n2_;have HB:=n3_;clear n0_ n1_ n2_ n3_;(try clear hb);(try clear hb2);(try clear hk);(try clear hi);(try clear ho0);obtain ⟨Ao67,co67,eo67⟩:=Kd.R_slice HO682.out;subst eo67)|((with_reducible refine δv (f:=30) rfl ?_);refine goesL_ (some 110) rfl rfl Tryz.func30 (by kernel_rfl) rfl #[.string a0,.slice Ao67 t680.length co67,.string a2,.string a3,.int .i64 a4,.int .i64 a5] rfl (by (try simp only [δd,δe,δf]);first|done|rfl|(simp only [δg,δh];rfl)) ?_;(with_reducible refine (impl_MakeOrder.calls kj37 a0 _ _ t680 a2 a3 a4 a5 t683 t684 _ ?side1 ?side2 (HT0.out.below (by repeat (first|(with_reducible first|exact HB.out|apply δk|apply δi|apply δj)|exact HB.out))) A61.out).mono ?_);(case side1=>repeat (first|exact (ζg HO682.out).2.2|(with_reducible refine Kd.C_alloc ?_ _)|(with_reducible refine Kd.C_drewN ?_ _)|(with_reducible refine Kd.C_drew ?_)));(case side2=>exact (ζg HO682.out).2.1);rintro e w68 ⟨v685,rfl,ho0,hb⟩;refine ⟨_,rfl,?_⟩;have n0_:=ζa (Kd.R_elder' (by (with_reducible repeat (first|apply ζd|apply ζc|apply ζe));exact HO_14.out) (Kd.R_base ho0) hb);have n1_:=ζa (Kd.R_elder' (by (with_reducible repeat (first|apply ζd|apply ζc|apply ζe));exact HO_17.out) (Kd.R_base ho0) hb);have n2_:=ζa (Kd.R_elder' (by (with_reducible repeat (first|apply ζd|apply ζc|apply ζe));exact HO682.out) (Kd.R_base ho0) hb);have n3_:=ζa (Kd.R_lower (Kd.R_new' (Kd.R_new' (Kd.R_new' ho0 (Kd.R_lt (by (with_reducible repeat (first|apply ζd|apply ζc|apply ζe));exact HO_14.out))) (Kd.R_lt (by (with_reducible repeat (first|apply ζd|apply ζc|apply ζe));exact HO_17.out))) (Kd.R_lt (by (with_reducible repeat (first|apply ζd|apply ζc|apply ζe));exact HO682.out))) (δs (by repeat (first|(with_reducible first|exact HB.out|apply δk|apply δi|apply δj)|exact HB.out))));have n4_:=ζa (δr (by repeat (first|(with_reducible first|exact HB.out|apply δk|apply δi|apply δj)|exact HB.out)) hb);clear HO_14;clear HO_17;clear HO682;clear HB;have HO_14:=n0_;have HO_17:=n1_;have HO682:=n2_;have HO686:=n3_;have HB:=n4_;clear n0_ n1_ n2_ n3_ n4_;(try clear hb);(try clear hb2);(try clear hk);(try clear hi);(try clear ho0)))
              (try simp only [ζl,δa,δb,δc])
              go_cut [121] (fun v121 wc => ∃ (kq:Nat) (x121_61:Bool),v121 = .bool x121_61∧Aside0 (laws_FnExactMakeOrder.j2 kq t678 t677 x121_61=some r)∧Aside0 (kq≤kj37)∧Aside0 (Kd.R k51 51 wc w.heap.size (fun _=>True) (.slice Ao63 t665.length co63) t678)∧Aside0 (Below w.heap.size w wc))
              case first =>
               have H:=HC62.out
               clear HC62
               replace H:=Option.bind_eq_some_iff.mp H
               obtain ⟨t687,A690,H⟩:=H
               replace H:(if t687=τ then (laws_FnExactMakeOrder.j2 kj37 t678 t677 (t684 != t659)) else (laws_FnExactMakeOrder.j2 kj37 t678 t677 τ))=some r:=H
               have A69:=ζa A690
               clear A690
               by_cases c70:t687=τ
               ·
                subst c70
                have H1:(laws_FnExactMakeOrder.j2 kj37 t678 t677 (t684 != t659))=some r:=by rw [if_pos rfl] at H;exact H
                clear H
                have H:=H1
                clear H1
                have H':=ζa H
                clear H
                obtain ⟨Ao71,co71,eo71⟩:=Kd.R_slice HO686.out
                subst eo71
                obtain ⟨Ao72,co72,eo72⟩:=Kd.R_slice HO_14.out
                subst eo72
                go_wp2_with (first|((with_reducible refine δv (f:=18) rfl ?_);refine goesL_ (some 115) rfl rfl Tryz.func18 (by kernel_rfl) rfl #[.slice Ao71 t683.length co71,.slice Ao72 t658.length co72] rfl (by (try simp only [δd,δe,δf]);first|done|rfl|(simp only [δg,δh];rfl)) ?_;(with_reducible refine (laws_eqPairS.calls kj37 _ _ t683 _ _ t658 τ _ ?side1 ?side2 ?side3 ?side4 A69.out).mono ?_);(case side1=>repeat (first|exact (ζg HO686.out).2.2|(with_reducible refine Kd.C_alloc ?_ _)|(with_reducible refine Kd.C_drewN ?_ _)|(with_reducible refine Kd.C_drew ?_)));(case side2=>exact (ζg HO686.out).2.1);(case side3=>repeat (first|exact (ζg HO_14.out).2.2|(with_reducible refine Kd.C_alloc ?_ _)|(with_reducible refine Kd.C_drewN ?_ _)|(with_reducible refine Kd.C_drew ?_)));(case side4=>exact (ζg HO_14.out).2.1);rintro e w73 ⟨rfl,hb⟩;refine ⟨_,rfl,?_⟩;have n0_:=ζa (ζh (by (with_reducible repeat (first|apply ζd|apply ζc|apply ζe));exact HO_14.out) hb);have n1_:=ζa (ζh (by (with_reducible repeat (first|apply ζd|apply ζc|apply ζe));exact HO_17.out) hb);have n2_:=ζa (ζh (by (with_reducible repeat (first|apply ζd|apply ζc|apply ζe));exact HO682.out) hb);have n3_:=ζa (ζh (by (with_reducible repeat (first|apply ζd|apply ζc|apply ζe));exact HO686.out) hb);have n4_:=ζa (δr (by repeat (first|(with_reducible first|exact HB.out|apply δk|apply δi|apply δj)|exact HB.out)) hb);clear HO_14;clear HO_17;clear HO682;clear HO686;clear HB;have HO_14:=n0_;have HO_17:=n1_;have HO682:=n2_;have HO686:=n3_;have HB:=n4_;clear n0_ n1_ n2_ n3_ n4_;(try clear hb);(try clear hb2);(try clear hk);(try clear hi)))
                go_meet
                case rel=>exact ⟨_,((t684 != t659)),(by first|rfl|(simp;done)|(simp [*];done)),H',⟨by have:=HJ16.out;have:=HJ37.out;first|omega|exact Nat.le_refl _⟩,⟨by (with_reducible repeat (first|apply ζd|apply ζc|apply ζe));exact Kd.R_mono HO_17.out (fun _ hk=>trivial)⟩,⟨by repeat (first|(with_reducible first|exact HB.out|apply δk|apply δi|apply δj)|exact HB.out)⟩⟩
               ·
                replace c70:=Bool.eq_false_iff.mpr c70
                subst c70
                have H1:(laws_FnExactMakeOrder.j2 kj37 t678 t677 τ)=some r:=by rw [if_neg (show ¬ (φ=τ) by decide)] at H;exact H
                clear H
                have H:=H1
                clear H1
                have H':=ζa H
                clear H
                obtain ⟨Ao74,co74,eo74⟩:=Kd.R_slice HO686.out
                subst eo74
                obtain ⟨Ao75,co75,eo75⟩:=Kd.R_slice HO_14.out
                subst eo75
                go_wp2_with (first|((with_reducible refine δv (f:=18) rfl ?_);refine goesL_ (some 115) rfl rfl Tryz.func18 (by kernel_rfl) rfl #[.slice Ao74 t683.length co74,.slice Ao75 t658.length co75] rfl (by (try simp only [δd,δe,δf]);first|done|rfl|(simp only [δg,δh];rfl)) ?_;(with_reducible refine (laws_eqPairS.calls kj37 _ _ t683 _ _ t658 φ _ ?side1 ?side2 ?side3 ?side4 A69.out).mono ?_);(case side1=>repeat (first|exact (ζg HO686.out).2.2|(with_reducible refine Kd.C_alloc ?_ _)|(with_reducible refine Kd.C_drewN ?_ _)|(with_reducible refine Kd.C_drew ?_)));(case side2=>exact (ζg HO686.out).2.1);(case side3=>repeat (first|exact (ζg HO_14.out).2.2|(with_reducible refine Kd.C_alloc ?_ _)|(with_reducible refine Kd.C_drewN ?_ _)|(with_reducible refine Kd.C_drew ?_)));(case side4=>exact (ζg HO_14.out).2.1);rintro e w76 ⟨rfl,hb⟩;refine ⟨_,rfl,?_⟩;have n0_:=ζa (ζh (by (with_reducible repeat (first|apply ζd|apply ζc|apply ζe));exact HO_14.out) hb);have n1_:=ζa (ζh (by (with_reducible repeat (first|apply ζd|apply ζc|apply ζe));exact HO_17.out) hb);have n2_:=ζa (ζh (by (with_reducible repeat (first|apply ζd|apply ζc|apply ζe));exact HO682.out) hb);have n3_:=ζa (ζh (by (with_reducible repeat (first|apply ζd|apply ζc|apply ζe));exact HO686.out) hb);have n4_:=ζa (δr (by repeat (first|(with_reducible first|exact HB.out|apply δk|apply δi|apply δj)|exact HB.out)) hb);clear HO_14;clear HO_17;clear HO682;clear HO686;clear HB;have HO_14:=n0_;have HO_17:=n1_;have HO682:=n2_;have HO686:=n3_;have HB:=n4_;clear n0_ n1_ n2_ n3_ n4_;(try clear hb);(try clear hb2);(try clear hk);(try clear hi)))
                go_meet
                case rel=>exact ⟨_,(τ),(by first|rfl|(simp;done)|(simp [*];done)),H',⟨by have:=HJ16.out;have:=HJ37.out;first|omega|exact Nat.le_refl _⟩,⟨by (with_reducible repeat (first|apply ζd|apply ζc|apply ζe));exact Kd.R_mono HO_17.out (fun _ hk=>trivial)⟩,⟨by repeat (first|(with_reducible first|exact HB.out|apply δk|apply δi|apply δj)|exact HB.out)⟩⟩
              case rest =>
               clear HC62
               try clear c1
               try clear c2
               try clear p2
               try clear c3
               try clear c4
               try clear c5
               try clear c7
               try clear c7b0
               try clear c7b1
               try clear c8
               try clear c8b0
               try clear c8b1
               try clear c9
               try clear c9b0
               try clear c9b1
               try clear c11
               try clear c11b0
               try clear c14
               try clear c16
               try clear c18
               try clear c19
               try clear c20
               try clear c26
               try clear c29
               try clear c30
               try clear c33
               try clear c36
               try clear c43
               try clear c43b0
               try clear c45
               try clear c52
               try clear c55
               try clear c55b0
               try clear c59
               try clear c59b0
               try clear c59b1
               try clear c70
               try clear p2
               obtain ⟨kq,x121_61,rfl,HA,HJ61,HO_17,HB⟩:=hcut
               have hl17_61:=(ζg HO_17.out).1
               rw [hl17_61] at HO_17
               (try simp only [hl17_61])
               cases kq with
               | zero=>exact absurd HA.out (by simp [laws_FnExactMakeOrder.j2])
               | succ kj61 =>
                have H:=HA.out
                clear HA
                simp only [laws_FnExactMakeOrder.j2] at H
                by_cases c77:x121_61=τ
                ·
                 subst c77
                 have H1:(some φ)=some r:=by rw [if_pos rfl] at H;exact H
                 clear H
                 have H:=H1
                 clear H1
                 obtain rfl:=Option.some.inj H
                 go_wp2
                 go_ret
                 exact ⟨by first|rfl|(simp [errW_none,errW_some] <;> rfl)|(simp [*,errW_none,errW_some] <;> rfl),by repeat (first|(with_reducible first|exact HB.out|apply δk|apply δi|apply δj)|exact HB.out)⟩
                ·
                 replace c77:=Bool.eq_false_iff.mpr c77
                 subst c77
                 have H1:((laws_heldPairS.f kj61 t678 1).bind fun t688=>(if t688<0 then (some φ) else (if t688=t677 then (some τ) else (some φ))))=some r:=by rw [if_neg (show ¬ (φ=τ) by decide)] at H;exact H
                 clear H
                 have H:=H1
                 clear H1
                 replace H:=Option.bind_eq_some_iff.mp H
                 obtain ⟨t688,A780,H⟩:=H
                 replace H:(if t688<0 then (some φ) else (if t688=t677 then (some τ) else (some φ)))=some r:=H
                 have A78:=ζa A780
                 clear A780
                 by_cases c79:t688<0
                 ·
                  rw [if_pos c79] at H
                  have c79b0:decide (t688<0)=τ:=decide_eq_true c79
                  clear c79
                  obtain rfl:=Option.some.inj H
                  go_wp2_with (first|((with_reducible refine δv (f:=20) rfl ?_);refine goesL_ (some 124) rfl rfl Tryz.func20 (by kernel_rfl) rfl #[.slice Ao63 t678.length co63,.int .i64 1] rfl (by (try simp only [δd,δe,δf]);first|done|rfl|(simp only [δg,δh];rfl)) ?_;(with_reducible refine (laws_heldPairS.calls kj61 _ _ t678 1 t688 _ ?side1 ?side2 A78.out).mono ?_);(case side1=>repeat (first|exact (ζg HO_17.out).2.2|(with_reducible refine Kd.C_alloc ?_ _)|(with_reducible refine Kd.C_drewN ?_ _)|(with_reducible refine Kd.C_drew ?_)));(case side2=>exact (ζg HO_17.out).2.1);rintro e w80 ⟨rfl,hb⟩;refine ⟨_,rfl,?_⟩;have n0_:=ζa (ζh (by (with_reducible repeat (first|apply ζd|apply ζc|apply ζe));exact HO_17.out) hb);have n1_:=ζa (δr (by repeat (first|(with_reducible first|exact HB.out|apply δk|apply δi|apply δj)|exact HB.out)) hb);clear HO_17;clear HB;have HO_17:=n0_;have HB:=n1_;clear n0_ n1_;(try clear hb);(try clear hb2);(try clear hk);(try clear hi)))
                  go_ret
                  exact ⟨by first|rfl|(simp [errW_none,errW_some] <;> rfl)|(simp [*,errW_none,errW_some] <;> rfl),by repeat (first|(with_reducible first|exact HB.out|apply δk|apply δi|apply δj)|exact HB.out)⟩
                 ·
                  rw [if_neg c79] at H
                  have c79b0:decide (t688<0)=φ:=decide_eq_false c79
                  clear c79
                  by_cases c81:t688=t677
                  ·
                   rw [if_pos c81] at H
                   have c81b0:(t688 == t677)=τ:=beq_iff_eq.mpr c81
                   have c81b1:(t688 != t677)=φ:=bne_eq_false_iff_eq.mpr c81
                   clear c81
                   obtain rfl:=Option.some.inj H
                   go_wp2_with (first|((with_reducible refine δv (f:=20) rfl ?_);refine goesL_ (some 124) rfl rfl Tryz.func20 (by kernel_rfl) rfl #[.slice Ao63 t678.length co63,.int .i64 1] rfl (by (try simp only [δd,δe,δf]);first|done|rfl|(simp only [δg,δh];rfl)) ?_;(with_reducible refine (laws_heldPairS.calls kj61 _ _ t678 1 t688 _ ?side1 ?side2 A78.out).mono ?_);(case side1=>repeat (first|exact (ζg HO_17.out).2.2|(with_reducible refine Kd.C_alloc ?_ _)|(with_reducible refine Kd.C_drewN ?_ _)|(with_reducible refine Kd.C_drew ?_)));(case side2=>exact (ζg HO_17.out).2.1);rintro e w82 ⟨rfl,hb⟩;refine ⟨_,rfl,?_⟩;have n0_:=ζa (ζh (by (with_reducible repeat (first|apply ζd|apply ζc|apply ζe));exact HO_17.out) hb);have n1_:=ζa (δr (by repeat (first|(with_reducible first|exact HB.out|apply δk|apply δi|apply δj)|exact HB.out)) hb);clear HO_17;clear HB;have HO_17:=n0_;have HB:=n1_;clear n0_ n1_;(try clear hb);(try clear hb2);(try clear hk);(try clear hi)))
                   go_ret
                   exact ⟨by first|rfl|(simp [errW_none,errW_some] <;> rfl)|(simp [*,errW_none,errW_some] <;> rfl),by repeat (first|(with_reducible first|exact HB.out|apply δk|apply δi|apply δj)|exact HB.out)⟩
                  ·
                   rw [if_neg c81] at H
                   have c81b0:(t688 == t677)=φ:=beq_eq_false_iff_ne.mpr c81
                   have c81b1:(t688 != t677)=τ:=bne_iff_ne.mpr c81
                   obtain rfl:=Option.some.inj H
                   go_wp2_with (first|((with_reducible refine δv (f:=20) rfl ?_);refine goesL_ (some 124) rfl rfl Tryz.func20 (by kernel_rfl) rfl #[.slice Ao63 t678.length co63,.int .i64 1] rfl (by (try simp only [δd,δe,δf]);first|done|rfl|(simp only [δg,δh];rfl)) ?_;(with_reducible refine (laws_heldPairS.calls kj61 _ _ t678 1 t688 _ ?side1 ?side2 A78.out).mono ?_);(case side1=>repeat (first|exact (ζg HO_17.out).2.2|(with_reducible refine Kd.C_alloc ?_ _)|(with_reducible refine Kd.C_drewN ?_ _)|(with_reducible refine Kd.C_drew ?_)));(case side2=>exact (ζg HO_17.out).2.1);rintro e w83 ⟨rfl,hb⟩;refine ⟨_,rfl,?_⟩;have n0_:=ζa (ζh (by (with_reducible repeat (first|apply ζd|apply ζc|apply ζe));exact HO_17.out) hb);have n1_:=ζa (δr (by repeat (first|(with_reducible first|exact HB.out|apply δk|apply δi|apply δj)|exact HB.out)) hb);clear HO_17;clear HB;have HO_17:=n0_;have HB:=n1_;clear n0_ n1_;(try clear hb);(try clear hb2);(try clear hk);(try clear hi)))
                   go_ret
                   exact ⟨by first|rfl|(simp [errW_none,errW_some] <;> rfl)|(simp [*,errW_none,errW_some] <;> rfl),by repeat (first|(with_reducible first|exact HB.out|apply δk|apply δi|apply δj)|exact HB.out)⟩
             ·
              rw [if_neg c59] at H
              have c59b0:(t679 == t677)=φ:=beq_eq_false_iff_ne.mpr c59
              have c59b1:(t679 != t677)=τ:=bne_iff_ne.mpr c59
              obtain rfl:=Option.some.inj H
              obtain ⟨Ao84,co84,eo84⟩:=Kd.R_slice HO_17.out
              subst eo84
              go_wp2_with (first|((with_reducible refine δv (f:=19) rfl ?_);refine goesL_ (some 93) rfl rfl Tryz.func19 (by kernel_rfl) rfl #[.slice Ao84 t665.length co84,.int .i64 1] rfl (by (try simp only [δd,δe,δf]);first|done|rfl|(simp only [δg,δh];rfl)) ?_;(with_reducible refine (laws_markPairS.calls kj37 (fun k_=>some k_=(.slice Ao84 t665.length co84:Value).ownBlock) (.slice Ao84 t665.length co84) t665 1 t677 t678 w _ ?side1 ?side2 A53.out).mono ?_);(case side1=>repeat (first|(with_reducible first|exact HB.out|apply δk|apply δi|apply δj)|exact HB.out));(case side2=>exact Kd.R_tight rfl HO_17.out);rintro e w85 ⟨rfl,hy0,hb,hkp⟩;refine ⟨_,rfl,?_⟩;have n0_:=ζa (Kd.R_mono (ok':=fun k_=>some k_≠(.slice Ao84 t665.length co84:Value).ownBlock) (Kd.R_keptB (HO_14.out) hkp (fun k_ hk_ hs_=>(hk_) hs_)) (fun k_ hk_=>hk_.1));have n1_:=ζa (Kd.R_reok rfl hy0 (fun k_ e_=>HO_17.out.1 k_ e_));have n2_:=ζa (hb);clear HO_14;clear HO_17;clear HB;have HO_14:=n0_;have HO_17:=n1_;have HB:=n2_;clear n0_ n1_ n2_;(try clear hb);(try clear hkp);(try clear hy0))|((with_reducible refine δv (f:=20) rfl ?_);refine goesL_ (some 96) rfl rfl Tryz.func20 (by kernel_rfl) rfl #[.slice Ao84 t678.length co84,.int .i64 1] rfl (by (try simp only [δd,δe,δf]);first|done|(rw [show t678.length=t665.length from (ζg HO_17.out).1.symm] <;> rfl)|rfl|(simp only [δg,δh];rfl)) ?_;(with_reducible refine (laws_heldPairS.calls kj37 _ _ t678 1 t679 _ ?side1 ?side2 A54.out).mono ?_);(case side1=>repeat (first|exact (ζg HO_17.out).2.2|(with_reducible refine Kd.C_alloc ?_ _)|(with_reducible refine Kd.C_drewN ?_ _)|(with_reducible refine Kd.C_drew ?_)));(case side2=>rw [show t678.length=t665.length from (ζg HO_17.out).1.symm];exact (ζg HO_17.out).2.1);rintro e w86 ⟨rfl,hb⟩;refine ⟨_,rfl,?_⟩;have n0_:=ζa (ζh (by (with_reducible repeat (first|apply ζd|apply ζc|apply ζe));exact HO_14.out) hb);have n1_:=ζa (ζh (by (with_reducible repeat (first|apply ζd|apply ζc|apply ζe));exact HO_17.out) hb);have n2_:=ζa (δr (by repeat (first|(with_reducible first|exact HB.out|apply δk|apply δi|apply δj)|exact HB.out)) hb);clear HO_14;clear HO_17;clear HB;have HO_14:=n0_;have HO_17:=n1_;have HB:=n2_;clear n0_ n1_ n2_;(try clear hb);(try clear hb2);(try clear hk);(try clear hi)))
              go_ret
              exact ⟨by first|rfl|(simp [errW_none,errW_some] <;> rfl)|(simp [*,errW_none,errW_some] <;> rfl),by repeat (first|(with_reducible first|exact HB.out|apply δk|apply δi|apply δj)|exact HB.out)⟩
        ·
         replace c36:=Bool.eq_false_iff.mpr c36
         subst c36
         have H1:(some φ)=some r:=by rw [if_neg (show ¬ (φ=τ) by decide)] at H;exact H
         clear H
         have H:=H1
         clear H1
         obtain rfl:=Option.some.inj H
         go_wp2_with (first|((with_reducible refine δv (f:=16) rfl ?_);refine goesL_ (some 72) rfl rfl Tryz.func16 (by kernel_rfl) rfl #[.slice A1 l1.length c1] rfl (by (try simp only [δd,δe,δf]);first|done|rfl|(simp only [δg,δh];rfl)) ?_;(with_reducible refine (laws_toPairS.calls kj16 _ _ l1 t670 _ ?side1 ?side2 A34.out).mono ?_);(case side1=>repeat (first|exact (Kd.C_below HR1.out HB.out)|(with_reducible refine Kd.C_alloc ?_ _)|(with_reducible refine Kd.C_drewN ?_ _)|(with_reducible refine Kd.C_drew ?_)));(case side2=>exact HC1.out);rintro e w87 ⟨v671,rfl,ho0,hb⟩;refine ⟨_,rfl,?_⟩;have n0_:=ζa (Kd.R_elder' (by (with_reducible repeat (first|apply ζd|apply ζc|apply ζe));exact HO_14.out) (Kd.R_base ho0) hb);have n1_:=ζa (Kd.R_elder' (by (with_reducible repeat (first|apply ζd|apply ζc|apply ζe));exact HO_16.out) (Kd.R_base ho0) hb);have n2_:=ζa (Kd.R_elder' (by (with_reducible repeat (first|apply ζd|apply ζc|apply ζe));exact HO_17.out) (Kd.R_base ho0) hb);have n3_:=ζa (Kd.R_lower (Kd.R_new' (Kd.R_new' (Kd.R_new' ho0 (Kd.R_lt (by (with_reducible repeat (first|apply ζd|apply ζc|apply ζe));exact HO_14.out))) (Kd.R_lt (by (with_reducible repeat (first|apply ζd|apply ζc|apply ζe));exact HO_16.out))) (Kd.R_lt (by (with_reducible repeat (first|apply ζd|apply ζc|apply ζe));exact HO_17.out))) (δs (by repeat (first|(with_reducible first|exact HB.out|apply δk|apply δi|apply δj)|exact HB.out))));have n4_:=ζa (δr (by repeat (first|(with_reducible first|exact HB.out|apply δk|apply δi|apply δj)|exact HB.out)) hb);clear HO_14;clear HO_16;clear HO_17;clear HB;have HO_14:=n0_;have HO_16:=n1_;have HO_17:=n2_;have HO672:=n3_;have HB:=n4_;clear n0_ n1_ n2_ n3_ n4_;(try clear hb);(try clear hb2);(try clear hk);(try clear hi);(try clear ho0);obtain ⟨Ao88,co88,eo88⟩:=Kd.R_slice HO672.out;subst eo88)|((with_reducible refine δv (f:=18) rfl ?_);refine goesL_ (some 73) rfl rfl Tryz.func18 (by kernel_rfl) rfl #[.slice Ao23 t662.length co23,.slice Ao88 t670.length co88] rfl (by (try simp only [δd,δe,δf]);first|done|rfl|(simp only [δg,δh];rfl)) ?_;(with_reducible refine (laws_eqPairS.calls kj16 _ _ t662 _ _ t670 φ _ ?side1 ?side2 ?side3 ?side4 A35.out).mono ?_);(case side1=>repeat (first|exact (ζg HO_16.out).2.2|(with_reducible refine Kd.C_alloc ?_ _)|(with_reducible refine Kd.C_drewN ?_ _)|(with_reducible refine Kd.C_drew ?_)));(case side2=>exact (ζg HO_16.out).2.1);(case side3=>repeat (first|exact (ζg HO672.out).2.2|(with_reducible refine Kd.C_alloc ?_ _)|(with_reducible refine Kd.C_drewN ?_ _)|(with_reducible refine Kd.C_drew ?_)));(case side4=>exact (ζg HO672.out).2.1);rintro e w89 ⟨rfl,hb⟩;refine ⟨_,rfl,?_⟩;have n0_:=ζa (ζh (by (with_reducible repeat (first|apply ζd|apply ζc|apply ζe));exact HO_14.out) hb);have n1_:=ζa (ζh (by (with_reducible repeat (first|apply ζd|apply ζc|apply ζe));exact HO_16.out) hb);have n2_:=ζa (ζh (by (with_reducible repeat (first|apply ζd|apply ζc|apply ζe));exact HO_17.out) hb);have n3_:=ζa (ζh (by (with_reducible repeat (first|apply ζd|apply ζc|apply ζe));exact HO672.out) hb);have n4_:=ζa (δr (by repeat (first|(with_reducible first|exact HB.out|apply δk|apply δi|apply δj)|exact HB.out)) hb);clear HO_14;clear HO_16;clear HO_17;clear HO672;clear HB;have HO_14:=n0_;have HO_16:=n1_;have HO_17:=n2_;have HO672:=n3_;have HB:=n4_;clear n0_ n1_ n2_ n3_ n4_;(try clear hb);(try clear hb2);(try clear hk);(try clear hi)))
         go_ret
         exact ⟨by first|rfl|(simp [errW_none,errW_some] <;> rfl)|(simp [*,errW_none,errW_some] <;> rfl),by repeat (first|(with_reducible first|exact HB.out|apply δk|apply δi|apply δj)|exact HB.out)⟩

end Go.Proofs.YtabmfhnhmoiljaaGreatDoor.Q

/- Plain arithmetic: products of two amounts in halves of nine digits; long division digit by digit. No program. -/
namespace Go.Proofs.YtabmfhnhmoiljaaGreatDoor.U
open Go Go.RowKit
set_option linter.unusedVariables false
set_option linter.unusedSimpArgs false

theorem wid {n : Int} (h0 : -9223372036854775808 ≤ n) (h1 : n ≤ 9223372036854775807) : wrap64 n = n := IntWalk.wrap64_in n ⟨h0, h1⟩
theorem tdiv_nn {a b : Int} (h : 0 ≤ a) : Int.tdiv a b = a / b := Int.tdiv_eq_ediv_of_nonneg h
theorem tmod_nn {a b : Int} (h : 0 ≤ a) : Int.tmod a b = a % b := Int.tmod_eq_emod_of_nonneg h
theorem u64w (n : Int) : IntKind.u64.wrap n = n % 18446744073709551616 := by simp [IntKind.wrap, IntKind.bits, IntKind.signed]
theorem u64id {n : Int} (h0 : 0 ≤ n) (h1 : n < 18446744073709551616) : IntKind.u64.wrap n = n := by rw [u64w]; exact Int.emod_eq_of_lt h0 h1

theorem mul_bd {x y X Y : Int} (hx : 0 ≤ x) (hx' : x ≤ X) (hy : 0 ≤ y) (hy' : y ≤ Y) : 0 ≤ x * y ∧ x * y ≤ X * Y :=
  ⟨Int.mul_nonneg hx hy, Int.mul_le_mul hx' hy' hy (Int.le_trans hx hx')⟩

theorem wide_eq (a b : Int) (ha : 0 ≤ a) (ha' : a ≤ 1000000000000000000) (hb : 0 ≤ b) (hb' : b ≤ 1000000000000000000) :
    a * b = (a / 1000000000) * (b / 1000000000) * 1000000000000000000 + ((a / 1000000000) * (b % 1000000000) + (a % 1000000000) * (b / 1000000000)) * 1000000000 + (a % 1000000000) * (b % 1000000000) := by
  have e1 : a = (a / 1000000000) * 1000000000 + a % 1000000000 := by omega
  have e2 : b = (b / 1000000000) * 1000000000 + b % 1000000000 := by omega
  generalize a / 1000000000 = x at *
  generalize a % 1000000000 = y at *
  generalize b / 1000000000 = z at *
  generalize b % 1000000000 = u at *
  subst e1 e2
  grind

/-- One digit more of a long division. -/
theorem digit_step (c T out rest low : Int) (hc : 1 ≤ c) (hT : 1 ≤ T) (hr : 0 ≤ rest) (hl : 0 ≤ low) :
    (out * 10 + (10 * rest + low / T % 10) / c) * T + ((10 * rest + low / T % 10) % c * T + low % T) / c = out * (10 * T) + (rest * (10 * T) + low % (10 * T)) / c := by
  have e1 : low % (10 * T) = low / T % 10 * T + low % T := by
    have h1 : low / (10 * T) = low / T / 10 := by rw [Int.mul_comm, Int.ediv_ediv_of_nonneg (by omega)]
    have h2 := Int.mul_ediv_add_emod low (10 * T)
    have h3 := Int.mul_ediv_add_emod low T
    have h4 := Int.mul_ediv_add_emod (low / T) 10
    rw [h1] at h2
    generalize low / T / 10 = p at *
    generalize low / T % 10 = d at *
    generalize low / T = m at *
    subst h4
    generalize low % T = e at *
    generalize low % (10 * T) = f at *
    grind
  have h5 := Int.mul_ediv_add_emod (10 * rest + low / T % 10) c
  generalize low / T % 10 = d at *
  generalize (10 * rest + d) / c = q at *
  generalize (10 * rest + d) % c = s at *
  have e2 : rest * (10 * T) + low % (10 * T) = c * (q * T) + (s * T + low % T) := by
    rw [e1]
    generalize low % T = e at *
    grind
  rw [e2, Int.mul_add_ediv_left _ _ (by omega)]
  grind

/-- Knuth's step: a digit that is guessed too great is told by the lower half. -/
theorem knuth_lower (Y yn1 yn0 u v q : Int) (hY : Y = yn1 * 4294967296 + yn0) (h0 : 0 ≤ yn0) (hv : 0 ≤ v) (hv' : v < 4294967296) (hq : 0 ≤ q) (h : q * Y ≤ u * 4294967296 + v) : q * yn1 ≤ u := by
  have h1 : q * Y = q * yn1 * 4294967296 + q * yn0 := by subst hY; grind
  have h2 : 0 ≤ q * yn0 := Int.mul_nonneg hq h0
  omega

end Go.Proofs.YtabmfhnhmoiljaaGreatDoor.U

/- A number's digits: the reference's are the library's. -/
namespace Go.Proofs.YtabmfhnhmoiljaaGreatDoor.U
open Go Go.RowKit Go.Proofs.YtabmfhnhmoiljaaGreatDoor.Q Go.Proofs.YtabmfhnhmoiljaaGreatDoorW.PrintWords Go.Proofs.YtabmfhnhmoiljaaGreatDoorW.PrintLast Go.Proofs.YtabmfhnhmoiljaaGreatDoorW.PrintMore
set_option linter.unusedVariables false
set_option linter.unusedSimpArgs false

def digV (u : Nat) : ByteArray := ⟨(Lib.decDigits u).toArray⟩
theorem one_digit (u : Nat) (h : u < 10) : strOfNums [(wrap64 (48 + (u : Int))) % 256] = ⟨#[UInt8.ofNat (48 + u)]⟩ := by
  rw [wid (by omega) (by omega)]
  have : ((48 + (u : Int)) % 256) = ((48 + u : Nat) : Int) := by omega
  rw [this]
  rfl
theorem digits_ev (u : Nat) (hu : u ≤ 1000000000000000000) : Ev (fun k => spec_l00Digits.f k (u : Int)) (digV u) := by
  induction u using Nat.strongRecOn with
  | _ u ih =>
    by_cases h : u < 10
    · refine Ev.step (fun k => ?_) (Ev.now _)
      rw [spec_l00Digits.f, if_neg (by omega), if_neg (by omega), if_pos (by omega), one_digit u h, digV, Lib.decDigits_one h]
    · have e1 : wrap64 (Int.tdiv (u : Int) 10) = ((u / 10 : Nat) : Int) := by rw [tdiv_nn (by omega), wid (by omega) (by omega)]; omega
      have e2 : Int.tmod (u : Int) 10 = ((u % 10 : Nat) : Int) := by rw [tmod_nn (by omega)]; omega
      have hs : (digV (u / 10)).size ≤ u := by
        show (Lib.decDigits (u / 10)).toArray.size ≤ u
        rw [List.size_toArray, Lib.decDigits_length]
        have hn : ∀ v : Nat, 1 ≤ v → Lib.nDigits v ≤ v := by
          intro v
          induction v using Nat.strongRecOn with
          | _ v ihv =>
            intro h1
            rw [Lib.nDigits]
            split
            · exact h1
            · have := ihv (v / 10) (by omega) (by omega); omega
        have := hn (u / 10) (by omega)
        omega
      refine Ev.step (f := fun k => (spec_l00Digits.f k ((u / 10 : Nat) : Int)).bind fun t => if t.size + 1 ≤ 9223372036854775807 then some (t ++ (⟨#[UInt8.ofNat (48 + u % 10)]⟩ : ByteArray)) else none) (fun k => ?_) ?_
      · rw [spec_l00Digits.f, if_neg (by omega), if_neg (by omega), if_neg (by omega), e1, e2]
        simp only [Option.bind_some, one_digit (u % 10) (by omega)]
        rfl
      · refine Ev.bind (ih (u / 10) (by omega) (by omega)) ?_
        simp only [if_pos (show (digV (u / 10)).size + 1 ≤ 9223372036854775807 by omega)]
        have : digV (u / 10) ++ (⟨#[UInt8.ofNat (48 + u % 10)]⟩ : ByteArray) = digV u := by
          unfold digV
          conv => rhs; rw [Lib.decDigits, dif_neg h]
          apply ByteArray.ext
          simp
        rw [this]
        exact Ev.now _
theorem itoa_eq (n : Int) (h : 0 ≤ n) : (⟨(Lib.itoa n).toArray⟩ : ByteArray) = digV n.toNat := by
  unfold Lib.itoa digV
  rw [if_neg (by omega)]
end Go.Proofs.YtabmfhnhmoiljaaGreatDoor.U

/- Amounts: the number that a text tells, as the program and as the reference read it. -/
namespace Go.Proofs.YtabmfhnhmoiljaaGreatDoor.U
open Go Go.RowKit Go.Proofs.YtabmfhnhmoiljaaGreatDoor.Q Go.Proofs.YtabmfhnhmoiljaaGreatDoorW.PrintWords Go.Proofs.YtabmfhnhmoiljaaGreatDoorW.PrintLast Go.Proofs.YtabmfhnhmoiljaaGreatDoorW.PrintMore
set_option linter.unusedVariables false
set_option linter.unusedSimpArgs false

theorem nd_small (j v : Nat) (h : v < 10 ^ (j + 1)) : Lib.nDigits v ≤ j + 1 := by
  induction j generalizing v with
  | zero => rw [Lib.nDigits, dif_pos (by simpa using h)]; omega
  | succ j ih =>
    rw [Lib.nDigits]
    split
    · omega
    · have := ih (v / 10) (by rw [Nat.pow_succ] at h; omega); omega
theorem digV_size (v : Nat) (h : v ≤ 1000000000000000000) : (digV v).size ≤ 19 := by
  show (Lib.decDigits v).toArray.size ≤ 19
  rw [List.size_toArray, Lib.decDigits_length]
  exact nd_small 18 v (by omega)
theorem dec_big {v : Nat} (h : ¬ v < 10) : Lib.decDigits v = Lib.decDigits (v / 10) ++ [UInt8.ofNat (48 + v % 10)] := by
  conv => lhs; rw [Lib.decDigits, dif_neg h]
theorem chr_nat (d : Nat) (h : d < 10) : (UInt8.ofNat (48 + d)).toNat = 48 + d := by
  rw [UInt8.toNat_ofNat']; omega

/-- Digits, one behind the other, onto what those ahead tell. -/
def telD (x : Nat) : List UInt8 → Option Nat
  | [] => some x
  | c :: r => if c.toNat < 48 ∨ 57 < c.toNat then none else if (1000000000000000000 - (c.toNat - 48)) / 10 < x then none else telD (x * 10 + (c.toNat - 48)) r
theorem telD_append (l r : List UInt8) : ∀ x, telD x (l ++ r) = (telD x l).bind fun y => telD y r := by
  induction l with
  | nil => intro x; rfl
  | cons c l ih =>
    intro x
    simp only [List.cons_append, telD]
    split
    · rfl
    · split
      · rfl
      · exact ih _
theorem telD_one (x d : Nat) (hd : d < 10) (h : x * 10 + d ≤ 1000000000000000000) : telD x [UInt8.ofNat (48 + d)] = some (x * 10 + d) := by
  simp only [telD, chr_nat d hd]
  rw [if_neg (by omega), if_neg (by omega)]
  congr 1; omega
theorem telD_dec (v : Nat) (h : v ≤ 1000000000000000000) : telD 0 (Lib.decDigits v) = some v := by
  induction v using Nat.strongRecOn with
  | _ v ih =>
    by_cases hv : v < 10
    · rw [Lib.decDigits_one hv, telD_one 0 v hv (by omega)]; congr 1; omega
    · rw [dec_big hv, telD_append, ih (v / 10) (by omega) (by omega)]
      show telD (v / 10) _ = _
      rw [telD_one _ _ (by omega) (by omega)]; congr 1; omega
/-- No needless naught ahead. -/
def plainB (l : List UInt8) : Bool := decide (l ≠ []) && (decide (l.length = 1) || decide (l.head? ≠ some 48))
theorem snoc_cases {α : Type} (l : List α) : l = [] ∨ ∃ (i : List α) (c : α), l = i ++ [c] := by
  rcases List.eq_nil_or_concat l with h | ⟨i, c, h⟩
  · exact .inl h
  · exact .inr ⟨i, c, by rw [h, List.concat_eq_append]⟩
theorem telD_snoc {l : List UInt8} {c : UInt8} {n : Nat} (h : telD 0 (l ++ [c]) = some n) :
    ∃ m, telD 0 l = some m ∧ 48 ≤ c.toNat ∧ c.toNat ≤ 57 ∧ n = m * 10 + (c.toNat - 48) ∧ n ≤ 1000000000000000000 := by
  rw [telD_append] at h
  obtain ⟨m, h1, h2⟩ := Option.bind_eq_some_iff.mp h
  refine ⟨m, h1, ?_⟩
  simp only [telD] at h2
  split at h2
  · cases h2
  · split at h2
    · cases h2
    · injection h2 with h2
      omega
theorem dec_of_telD (k : Nat) : ∀ (l : List UInt8) (n : Nat), l.length = k → plainB l = true → telD 0 l = some n → l = Lib.decDigits n ∧ n ≤ 1000000000000000000 := by
  induction k with
  | zero =>
    intro l n hl hp h
    have : l = [] := List.length_eq_zero_iff.1 hl
    subst this
    simp [plainB] at hp
  | succ k ih =>
    intro l n hl hp h
    rcases snoc_cases l with rfl | ⟨i, c, rfl⟩
    · simp at hl
    obtain ⟨m, h1, h2, h3, h4, h5⟩ := telD_snoc h
    refine ⟨?_, h5⟩
    by_cases hi : i = []
    · subst hi
      simp only [telD, Option.some.injEq] at h1
      subst h1
      rw [Lib.decDigits_one (by omega), h4]
      simp only [List.nil_append, List.cons.injEq, and_true]
      apply UInt8.toNat_inj.1
      rw [chr_nat _ (by omega)]; omega
    · have hne : i.head? ≠ some 48 := by
        simp only [plainB, Bool.and_eq_true, Bool.or_eq_true, decide_eq_true_iff] at hp
        rcases hp.2 with hp | hp
        · rw [List.length_append, List.length_singleton] at hp
          exact absurd (List.length_eq_zero_iff.1 (by omega)) hi
        · cases i with
          | nil => exact absurd rfl hi
          | cons a i => simpa using hp
      obtain ⟨e, _⟩ := ih i m (by rw [List.length_append, List.length_singleton] at hl; omega) (by simp only [plainB, Bool.and_eq_true, Bool.or_eq_true, decide_eq_true_iff]; exact ⟨hi, .inr hne⟩) h1
      have hm : m ≠ 0 := by
        rintro rfl
        rw [e, Lib.decDigits_one (by omega)] at hne
        exact hne rfl
      rw [dec_big (v := n) (by omega)]
      have e1 : n / 10 = m := by omega
      have e2 : n % 10 = c.toNat - 48 := by omega
      rw [e1, e2, ← e]
      congr 2
      apply UInt8.toNat_inj.1
      rw [chr_nat _ (by omega)]; omega
theorem dec_head (v : Nat) : ∃ d r, d < 10 ∧ Lib.decDigits v = UInt8.ofNat (48 + d) :: r := by
  induction v using Nat.strongRecOn with
  | _ v ih =>
    by_cases hv : v < 10
    · exact ⟨v, [], hv, Lib.decDigits_one hv⟩
    · obtain ⟨d, r, hd, e⟩ := ih (v / 10) (by omega)
      exact ⟨d, r ++ [UInt8.ofNat (48 + v % 10)], hd, by rw [dec_big hv, e]; rfl⟩
theorem dec_plain (v : Nat) : plainB (Lib.decDigits v) = true := by
  have hne : Lib.decDigits v ≠ [] := fun e => by
    have h := Lib.decDigits_length v
    rw [e] at h
    have := Lib.nDigits_pos v
    simp at h; omega
  have hd : Lib.nDigits v = 1 ∨ (Lib.decDigits v).head? ≠ some 48 := by
    induction v using Nat.strongRecOn with
    | _ v ih =>
      by_cases hv : v < 10
      · exact .inl (Lib.nDigits_small hv)
      · right
        obtain ⟨d, r, hd, e⟩ := dec_head (v / 10)
        by_cases hv2 : v / 10 < 10
        · rw [dec_big hv, Lib.decDigits_one hv2]
          simp only [List.cons_append, List.head?_cons, ne_eq, Option.some.injEq]
          intro e
          have := congrArg UInt8.toNat e
          rw [chr_nat _ hv2] at this
          have e48 : (48 : UInt8).toNat = 48 := rfl
          omega
        · rcases ih (v / 10) (by omega) (by rw [e]; simp) with h | h
          · rw [Lib.nDigits_big hv2] at h
            have := Lib.nDigits_pos (v / 10 / 10)
            omega
          · rw [e] at h
            rw [dec_big hv, e]
            exact h
  simp only [plainB, Bool.and_eq_true, Bool.or_eq_true, decide_eq_true_iff]
  refine ⟨hne, ?_⟩
  rcases hd with h | h
  · left; rw [Lib.decDigits_length, h]
  · exact .inr h
/-- The amount of a text, where it tells one. -/
def amtO (a : ByteArray) : Option Nat := if plainB a.data.toList = true then telD 0 a.data.toList else none
theorem amtO_iff (a : ByteArray) (n : Nat) : amtO a = some n ↔ a = digV n ∧ n ≤ 1000000000000000000 := by
  unfold amtO
  constructor
  · intro h
    split at h
    · rename_i hp
      obtain ⟨e, hn⟩ := dec_of_telD _ _ n rfl hp h
      refine ⟨?_, hn⟩
      apply ByteArray.ext
      apply Array.toList_inj.mp
      rw [e]
      rfl
    · cases h
  · rintro ⟨rfl, hn⟩
    have e : (digV n).data.toList = Lib.decDigits n := rfl
    rw [e, if_pos (dec_plain n)]
    exact telD_dec n hn
def amtV (a : ByteArray) : Int := match amtO a with | some n => (n : Int) | none => -1
theorem amtV_digV (n : Nat) (h : n ≤ 1000000000000000000) : amtV (digV n) = n := by
  unfold amtV
  rw [(amtO_iff _ n).2 ⟨rfl, h⟩]
theorem amtV_eq {a : ByteArray} (h : 0 ≤ amtV a) : a = digV (amtV a).toNat ∧ amtV a ≤ 1000000000000000000 := by
  unfold amtV at *
  cases e : amtO a with
  | none => rw [e] at h; simp at h
  | some n =>
    obtain ⟨h1, h2⟩ := (amtO_iff a n).1 e
    exact ⟨by simpa using h1, by simp only; omega⟩
theorem amtV_low (a : ByteArray) : -1 ≤ amtV a := by
  unfold amtV
  split <;> omega

/-! ### the program's -/
theorem parse_append (l r : List UInt8) : ∀ x, Lib.parseUint10 x (l ++ r) = match Lib.parseUint10 x l with | .ok u => Lib.parseUint10 u r | .syntax => .syntax | .range => .range := by
  induction l with
  | nil => intro x; rfl
  | cons c l ih =>
    intro x
    simp only [List.cons_append, Lib.parseUint10]
    split
    · split
      · rfl
      · split
        · rfl
        · exact ih _
    · rfl
theorem parse_one (x d : Nat) (hd : d < 10) (h : x * 10 + d < 9223372036854775808) : Lib.parseUint10 x [UInt8.ofNat (48 + d)] = .ok (x * 10 + d) := by
  simp only [Lib.parseUint10, chr_nat d hd]
  rw [if_pos (by omega), if_neg (by omega), if_neg (by omega)]
  congr 1; omega
theorem parse_dec (v : Nat) (h : v < 9223372036854775808) : Lib.parseUint10 0 (Lib.decDigits v) = .ok v := by
  induction v using Nat.strongRecOn with
  | _ v ih =>
    by_cases hv : v < 10
    · rw [Lib.decDigits_one hv, parse_one 0 v hv (by omega)]; congr 1; omega
    · rw [dec_big hv, parse_append, ih (v / 10) (by omega) (by omega)]
      show Lib.parseUint10 (v / 10) _ = _
      rw [parse_one _ _ (by omega) (by omega)]; congr 1; omega
theorem atoi_dec (v : Nat) (h : v < 9223372036854775808) : Lib.atoiAll (Lib.decDigits v) = .ok (v : Int) := by
  obtain ⟨d, r, hd, e⟩ := dec_head v
  have h1 := parse_dec v h
  rw [e] at h1 ⊢
  rw [Lib.atoiAll_plain _ _ (by rw [chr_nat d hd]; omega) (by rw [chr_nat d hd]; omega)]
  unfold Lib.parseMag
  rw [if_neg (by simp), h1]
  simp only [Lib.signless]
  rw [if_neg (by omega)]
theorem toList_eq_iff (a b : ByteArray) : a.toList = b.toList ↔ a = b := by
  constructor
  · intro h
    rw [ByteArray.toList_eq, ByteArray.toList_eq] at h
    exact ByteArray.ext (Array.toList_inj.mp h)
  · rintro rfl; rfl
theorem readAmount_eq (a : ByteArray) (hs : a.size ≤ 281474976710656) : impl_readAmount.f a = some (if 0 ≤ amtV a then (amtV a, true) else (0, false)) := by
  unfold impl_readAmount.f
  rw [if_pos hs]
  by_cases h : 0 ≤ amtV a
  · obtain ⟨e, hn⟩ := amtV_eq h
    rw [if_pos h]
    generalize amtV a = n at *
    have e1 : Lib.atoiAll a.data.toList = .ok n := by
      have := atoi_dec n.toNat (by omega)
      rw [e]
      rw [show ((n.toNat : Nat) : Int) = n by omega] at this
      exact this
    rw [e1]
    simp only [if_pos h, if_pos hn]
    rw [itoa_eq n h, ← e, if_pos rfl]
  · rw [if_neg h]
    cases hh : Lib.atoiAll a.data.toList with
    | «syntax» => rfl
    | range => rfl
    | ok v =>
      simp only
      by_cases h0 : 0 ≤ v
      · rw [if_pos h0]
        by_cases h1 : v ≤ 1000000000000000000
        · rw [if_pos h1, itoa_eq v h0]
          by_cases h2 : (digV v.toNat).toList = a.toList
          · exfalso
            have e := (toList_eq_iff _ _).1 h2
            apply h
            rw [← e, amtV_digV _ (by omega)]
            omega
          · rw [if_neg h2]
        · rw [if_neg h1]
      · rw [if_neg h0]

/-! ### the reference's -/
theorem bt_get (a : ByteArray) (i : Nat) (h : i < a.size) : bt a (i : Int) = ((a.data.toList[i]'(by rw [Array.length_toList]; exact h)).toNat : Int) := by
  unfold bt
  rw [dif_pos (by simpa using h)]
  simp
  rfl
def telI (x : Nat) (l : List UInt8) : Int := match telD x l with | some n => (n : Int) | none => -1
theorem l02Of_go (a : ByteArray) (hs : a.size ≤ 19) : ∀ (d i x : Nat), i + d = a.size → x ≤ 1000000000000000000 → Ev (fun k => spec_l02Of.l0 k a (x : Int) (i : Int)) (telI x (a.data.toList.drop i)) := by
  intro d
  induction d with
  | zero =>
    intro i x hi hx
    refine Ev.step (fun k => ?_) (Ev.now _)
    rw [spec_l02Of.l0, if_neg (by omega), List.drop_of_length_le (by rw [Array.length_toList]; show a.size ≤ i; omega)]
    rfl
  | succ d ih =>
    intro i x hi hx
    have hlt : i < a.size := by omega
    have hb := bt_get a i hlt
    have hl : i < a.data.toList.length := by rw [Array.length_toList]; exact hlt
    rw [List.drop_eq_getElem_cons hl]
    generalize a.data.toList[i] = c at *
    have hc := UInt8.toNat_lt c
    unfold telI
    simp only [telD]
    by_cases h1 : c.toNat < 48 ∨ 57 < c.toNat
    · rw [if_pos h1]
      refine Ev.step (f := fun k => spec_l02Of.j2 k a (x : Int) (i : Int) true) (fun k => ?_) (Ev.step (fun k => by rw [spec_l02Of.j2, if_pos rfl]) (Ev.now _))
      rw [spec_l02Of.l0, if_pos (by omega), if_pos (by omega), hb]
      by_cases h2 : c.toNat < 48
      · rw [if_pos (by omega)]
      · rw [if_neg (by omega), decide_eq_true (by omega)]
    · rw [if_neg h1]
      refine Ev.step (f := fun k => spec_l02Of.j2 k a (x : Int) (i : Int) false) (fun k => ?_) ?_
      · rw [spec_l02Of.l0, if_pos (by omega), if_pos (by omega), hb, if_neg (by omega), decide_eq_false (by omega)]
      · have e1 : ((c.toNat : Int) - 48) % 256 = ((c.toNat - 48 : Nat) : Int) := by omega
        by_cases h3 : (1000000000000000000 - (c.toNat - 48)) / 10 < x
        · rw [if_pos h3]
          refine Ev.step (fun k => ?_) (Ev.now _)
          rw [spec_l02Of.j2, if_neg (by decide), if_pos (by omega), if_pos (by omega), hb, e1, if_pos (by omega)]
        · rw [if_neg h3]
          have := ih (i + 1) (x * 10 + (c.toNat - 48)) (by omega) (by omega)
          refine Ev.step (fun k => ?_) this
          rw [spec_l02Of.j2, if_neg (by decide), if_pos (by omega), if_pos (by omega), hb, e1, if_neg (by omega), wid (n := (x : Int) * 10) (by omega) (by omega), wid (n := (x : Int) * 10 + _) (by omega) (by omega), wid (n := (i : Int) + 1) (by omega) (by omega)]
          rfl
theorem l02Of_ev (a : ByteArray) (hs : a.size ≤ 9223372036854775807) : Ev (fun k => spec_l02Of.f k a) (amtV a) := by
  have hbad : amtV a = -1 → Ev (fun k => spec_l02Of.j0 k a true) (amtV a) := fun e => by
    rw [e]; exact Ev.step (fun k => by rw [spec_l02Of.j0, if_pos rfl]) (Ev.now _)
  have hln : a.data.toList.length = a.size := by rw [Array.length_toList]; rfl
  have hbig : 19 < a.size → amtV a = -1 := fun h => by
    by_cases h0 : 0 ≤ amtV a
    · obtain ⟨e, hn⟩ := amtV_eq h0
      have := digV_size (amtV a).toNat (by omega)
      rw [← e] at this
      omega
    · have := amtV_low a; omega
  have hgo : Ev (fun k => spec_l02Of.l0 k a 0 0) (telI 0 a.data.toList) ∨ 19 < a.size := by
    by_cases h : 19 < a.size
    · exact .inr h
    · exact .inl (by have := l02Of_go a (by omega) a.size 0 0 (by omega) (by omega); simpa using this)
  unfold spec_l02Of.f spec_l01In.f
  by_cases h1 : (a.size : Int) ≥ 1
  · simp only [if_pos h1, Option.bind_some]
    by_cases h2 : (a.size : Int) ≤ 19
    · simp only [decide_eq_true h2, if_true]
      have hg : Ev (fun k => spec_l02Of.l0 k a 0 0) (telI 0 a.data.toList) := by
        rcases hgo with h | h
        · exact h
        · omega
      by_cases h3 : (a.size : Int) > 1
      · simp only [if_pos h3, if_pos (show (0 : Int) < (a.size : Int) by omega)]
        have hb := bt_get a 0 (by omega)
        have hh : a.data.toList.head? = some (a.data.toList[0]'(by omega)) := by rw [List.head?_eq_getElem?, List.getElem?_eq_getElem]
        by_cases h4 : a.data.toList[0]'(by omega) = 48
        · have e : (bt a 0 == 48) = true := by rw [beq_iff_eq]; have := hb; rw [h4] at this; exact this
          simp only [e]
          refine hbad ?_
          unfold amtV amtO
          rw [if_neg]
          simp only [plainB, Bool.and_eq_true, Bool.or_eq_true, decide_eq_true_iff, hh, h4]
          rintro ⟨_, h | h⟩
          · omega
          · exact h rfl
        · have e : (bt a 0 == 48) = false := by
            rw [beq_eq_false_iff_ne]
            intro h5
            apply h4
            apply UInt8.toNat_inj.1
            have e48 : (48 : UInt8).toNat = 48 := rfl
            have := hb.symm.trans h5
            omega
          simp only [e]
          refine Ev.step (fun k => by rw [spec_l02Of.j0, if_neg (by decide)]) ?_
          have e2 : amtV a = telI 0 a.data.toList := by
            unfold amtV amtO telI
            rw [if_pos]
            simp only [plainB, Bool.and_eq_true, Bool.or_eq_true, decide_eq_true_iff, hh]
            refine ⟨fun e0 => ?_, .inr (fun e0 => h4 (Option.some.inj e0))⟩
            rw [e0] at hln; simp at hln; omega
          rw [e2]
          exact hg
      · simp only [if_neg h3]
        refine Ev.step (fun k => by rw [spec_l02Of.j0, if_neg (by decide)]) ?_
        have e2 : amtV a = telI 0 a.data.toList := by
          unfold amtV amtO telI
          rw [if_pos]
          simp only [plainB, Bool.and_eq_true, Bool.or_eq_true, decide_eq_true_iff]
          refine ⟨fun e0 => ?_, .inl (by omega)⟩
          rw [e0] at hln; simp at hln; omega
        rw [e2]
        exact hg
    · simp only [decide_eq_false h2, Bool.false_eq_true, if_false]
      exact hbad (hbig (by omega))
  · simp only [if_neg h1, Option.bind_some, Bool.false_eq_true, if_false]
    refine hbad ?_
    unfold amtV amtO
    have : a.data.toList = [] := List.length_eq_zero_iff.1 (by omega)
    rw [this]
    rfl
end Go.Proofs.YtabmfhnhmoiljaaGreatDoor.U
