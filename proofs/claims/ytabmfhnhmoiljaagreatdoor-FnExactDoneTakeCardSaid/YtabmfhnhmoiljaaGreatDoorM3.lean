/- Parts of the proof: what single Go functions compute, each with its walk, and plain laws over these. -/
import Derived.Test.YtabmfhnhmoiljaaGreatDoorM0
import Derived.Test.YtabmfhnhmoiljaaGreatDoorM2
import Derived.Test.YtabmfhnhmoiljaaGreatDoorM1
namespace Go.Proofs.YtabmfhnhmoiljaaGreatDoor.Q
open Go.RowKit Go.Proofs.YtabmfhnhmoiljaaGreatDoorW.PrintWords Go.Proofs.YtabmfhnhmoiljaaGreatDoorW.PrintLast Go.Proofs.YtabmfhnhmoiljaaGreatDoorW.PrintMore
open Go.Proofs.YtabmfhnhmoiljaaGreatDoorW.PrintWords.Aside0 renaming mk → ζa
open Go.Proofs.YtabmfhnhmoiljaaGreatDoorW.PrintWords renaming gate_dst → δx, box_event → δz, below_step → δr, below_alloc → δk, pw_below_drewN → δi, below_drew1 → δj, below_size → δs, blk_cell → δl, blk_frozen → δm, below_set → δq, blk_drewN → δn, blk_drew → δp, blk_alloc → δo, gate_callee → δv
open List renaming map_toArray → δd, map_cons → δe, map_nil → δf, length_drop → δg, length_take → δh
open Go.Proofs.YtabmfhnhmoiljaaGreatDoorW.PrintWords.Kd renaming R_reads' → ζg, R_alloc → ζd, R_drewN → ζc, R_drew → ζe
open Bool renaming true → τ, false → φ
attribute [local go_sem] max2_int min2_int max_two min_two max_three min_three max_four min_four   -- for this text's walks alone
set_option linter.unusedVariables false
set_option linter.unusedSimpArgs false

/-! ### impl_take_isRight: function 82 -/
def impl_take_isRight.f (k:Nat) (a0_0:ByteArray) (a0_1:ByteArray) (a0_2:ByteArray) (a0_3:Int):Option (Bool):=(impl_areNames.f k (([a0_0]:List ByteArray))).bind fun t170=>(if t170=τ then ((impl_isPeople.f k (([a0_1,a0_2]:List ByteArray))).bind fun t174=>(if t174=τ then ((impl_isSome.f a0_3).bind fun t175=>(some t175)) else (some φ))) else (some φ))
set_option maxHeartbeats 8000000 in
set_option maxRecDepth 100000 in
theorem impl_take_isRight.calls (k:Nat) (a0_0:ByteArray) (a0_1:ByteArray) (a0_2:ByteArray) (a0_3:Int) (r:Bool) (w:World) (h:impl_take_isRight.f k a0_0 a0_1 a0_2 a0_3=some r) :
  Calls Tryz.prog 82 #[.agg #[.string a0_0,.string a0_1,.string a0_2,.int .i64 a0_3]] w fun e w'=>e = .returned (.bool r)∧Below w.heap.size w w':=by
 have hu56:=Tryz.underlying56
 have HB:=ζa (Below.refl w.heap.size w)
 have H:((impl_areNames.f k (([a0_0]:List ByteArray))).bind fun t170=>(if t170=τ then ((impl_isPeople.f k (([a0_1,a0_2]:List ByteArray))).bind fun t174=>(if t174=τ then ((impl_isSome.f a0_3).bind fun t175=>(some t175)) else (some φ))) else (some φ)))=some r:=h
 clear h
 obtain ⟨y167,hy167⟩ : ∃ y_:List ByteArray,y_=(([a0_0]:List ByteArray)):=⟨_,rfl⟩
 replace H:((impl_areNames.f k y167).bind fun t170=>(if t170=τ then ((impl_isPeople.f k (([a0_1,a0_2]:List ByteArray))).bind fun t174=>(if t174=τ then ((impl_isSome.f a0_3).bind fun t175=>(some t175)) else (some φ))) else (some φ)))=some r:=by first|(rw [hy167];with_reducible exact H)|(have H2_:=(Option.bind_some _ _).symm.trans H;rw [hy167];with_reducible exact H2_)|(have H2_:=(Option.bind_some _ _).symm.trans H;with_reducible exact H2_)|with_reducible exact H|(rw [hy167];exact H)|exact H
 have Ny167:=ζa hy167
 clear hy167
 replace H:=Option.bind_eq_some_iff.mp H
 obtain ⟨t170,A20,H⟩:=H
 replace H:(if t170=τ then ((impl_isPeople.f k (([a0_1,a0_2]:List ByteArray))).bind fun t174=>(if t174=τ then ((impl_isSome.f a0_3).bind fun t175=>(some t175)) else (some φ))) else (some φ))=some r:=H
 have A2:=ζa A20
 clear A20
 by_cases c3:t170=τ
 ·
  subst c3
  have H1:((impl_isPeople.f k (([a0_1,a0_2]:List ByteArray))).bind fun t174=>(if t174=τ then ((impl_isSome.f a0_3).bind fun t175=>(some t175)) else (some φ)))=some r:=by rw [if_pos rfl] at H;exact H
  clear H
  have H:=H1
  clear H1
  obtain ⟨y171,hy171⟩ : ∃ y_:List ByteArray,y_=(([a0_1,a0_2]:List ByteArray)):=⟨_,rfl⟩
  replace H:((impl_isPeople.f k y171).bind fun t174=>(if t174=τ then ((impl_isSome.f a0_3).bind fun t175=>(some t175)) else (some φ)))=some r:=by first|(rw [hy171];with_reducible exact H)|(have H2_:=(Option.bind_some _ _).symm.trans H;rw [hy171];with_reducible exact H2_)|(have H2_:=(Option.bind_some _ _).symm.trans H;with_reducible exact H2_)|with_reducible exact H|(rw [hy171];exact H)|exact H
  have Ny171:=ζa hy171
  clear hy171
  replace H:=Option.bind_eq_some_iff.mp H
  obtain ⟨t174,A40,H⟩:=H
  replace H:(if t174=τ then ((impl_isSome.f a0_3).bind fun t175=>(some t175)) else (some φ))=some r:=H
  have A4:=ζa A40
  clear A40
  by_cases c5:t174=τ
  ·
   subst c5
   have H1:((impl_isSome.f a0_3).bind fun t175=>(some t175))=some r:=by rw [if_pos rfl] at H;exact H
   clear H
   have H:=H1
   clear H1
   replace H:=Option.bind_eq_some_iff.mp H
   obtain ⟨t175,A60,H⟩:=H
   replace H:(some t175)=some r:=H
   have A6:=ζa A60
   clear A60
   obtain rfl:=Option.some.inj H
   go_enter Tryz.func82,Tryz.ntmps82
   go_wp2_with (first|((with_reducible refine δx (N:=1) rfl ?_);(try (refine gate_guard (by rfl) ?_;dsimp only));refine δz ?hg (N:=1) ?hd (cs:=#[.string a0_0,.string a0_1,.string a0_2,.int .i64 a0_3]) (t:=56) ?hr ?_;(case hd=>rfl);(case hg=>rfl);(case hr=>first|(go_simp;done)|(go_simp;rfl));intro gb166 hg w7 hbox hb;have n0_:=ζa (δr (by repeat (first|(with_reducible first|exact HB.out|apply δk|apply δi|apply δj)|exact HB.out)) hb);have n1_:=ζa (hbox);have n2_:=ζa ((by rw [hg];exact (δs (by repeat (first|(with_reducible first|exact HB.out|apply δk|apply δi|apply δj)|exact HB.out))):w.heap.size≤gb166));have n3_:=ζa ((by rw [hg];exact (δs (by repeat (first|(with_reducible first|exact HB.out|apply δk|apply δi|apply δj)|exact HB.out))):w.heap.size≤gb166));clear HB;have HB:=n0_;have BK166:=n1_;have GW166:=n2_;have GE166:=n3_;clear n0_ n1_ n2_ n3_;clear hb hbox hg;have hcz8_0:w7.cell? ⟨gb166,0,none⟩=some (.string a0_0):=(δl BK166.out 0).trans rfl;have hcz8_1:w7.cell? ⟨gb166,1,none⟩=some (.string a0_1):=(δl BK166.out 1).trans rfl;have hcz8_2:w7.cell? ⟨gb166,2,none⟩=some (.string a0_2):=(δl BK166.out 2).trans rfl;have hcz8_3:w7.cell? ⟨gb166,3,none⟩=some (.int .i64 a0_3):=(δl BK166.out 3).trans rfl;have hfz8_0:=δm BK166.out 0;have hfz8_1:=δm BK166.out 1;have hfz8_2:=δm BK166.out 2;have hfz8_3:=δm BK166.out 3)|((with_reducible refine δx (N:=5) rfl ?_);(try (refine gate_guard (by rfl) ?_;dsimp only));refine Kd.R_lit Kd.string _ 9 ?hg (N:=5) ?hd (xs:=([a0_0]:List ByteArray)) (inner:=[.string a0_0]) (ok:=fun _=>True) (okp:=fun _=>True) ?hr ?hp (fun _ hk=>hk) trivial (Below.refl _ _) (Nat.le_refl _) (by simp) ?_;(case hd=>rfl);(case hg=>rfl);(case hr=>first|(go_simp;done)|(go_simp;rfl));(case hp=>exact (Reps.one (show Kd.M Kd.string _ _ _ a0_0 [.string a0_0] from rfl) (Reps.none _ _)));intro v168 w9 ho10 hb hg_ hnew_;clear hg_ hnew_;(first|rw [← Ny167.out] at ho10|(simp only [Int.reduceToNat] at ho10;rw [← Ny167.out] at ho10));have n0_:=ζa (Kd.R_lower ho10 (δs (by repeat (first|(with_reducible first|exact HB.out|apply δk|apply δi|apply δj|refine δq ?_ GE166.out)|exact HB.out))));have n1_:=ζa (blk_below (g:=gb166) (o:=.cells #[.string a0_0,.string a0_1,.string a0_2,.int .i64 a0_3] 56 (0,0)) (by (with_reducible repeat (first|refine δn ?_ _|refine δp ?_|refine δo ?_ _));exact BK166.out) hb);have n2_:=ζa (δr (by repeat (first|(with_reducible first|exact HB.out|apply δk|apply δi|apply δj|refine δq ?_ GE166.out)|exact HB.out)) hb);clear BK166;clear HB;have HO169:=n0_;have BK166:=n1_;have HB:=n2_;clear n0_ n1_ n2_;clear hb ho10;obtain ⟨Ao11,co11,eo11⟩:=Kd.R_slice HO169.out;subst eo11)|((with_reducible refine δv (f:=63) rfl ?_);refine goesL_ (some 6) rfl rfl Tryz.func63 (by kernel_rfl) rfl #[.slice Ao11 y167.length co11] rfl (by (try simp only [δd,δe,δf]);first|done|rfl|(simp only [δg,δh];rfl)) ?_;(with_reducible refine (impl_areNames.calls k _ _ y167 τ _ ?side1 ?side2 A2.out).mono ?_);(case side1=>repeat (first|exact (ζg HO169.out).2.2|(with_reducible refine Kd.C_alloc ?_ _)|(with_reducible refine Kd.C_drewN ?_ _)|(with_reducible refine Kd.C_drew ?_)));(case side2=>exact (ζg HO169.out).2.1);rintro e w' ⟨rfl,⟨nd,rfl⟩⟩;refine ⟨_,rfl,?_⟩;have hcz12_0:w9.cell? ⟨gb166,0,none⟩=some (.string a0_0):=(δl BK166.out 0).trans rfl;have hcz12_1:w9.cell? ⟨gb166,1,none⟩=some (.string a0_1):=(δl BK166.out 1).trans rfl;have hcz12_2:w9.cell? ⟨gb166,2,none⟩=some (.string a0_2):=(δl BK166.out 2).trans rfl;have hcz12_3:w9.cell? ⟨gb166,3,none⟩=some (.int .i64 a0_3):=(δl BK166.out 3).trans rfl;have hfz12_0:=δm BK166.out 0;have hfz12_1:=δm BK166.out 1;have hfz12_2:=δm BK166.out 2;have hfz12_3:=δm BK166.out 3)|((with_reducible refine δx (N:=12) rfl ?_);(try (refine gate_guard (by rfl) ?_;dsimp only));refine Kd.R_lit Kd.string _ 9 ?hg (N:=12) ?hd (xs:=([a0_1,a0_2]:List ByteArray)) (inner:=[.string a0_1,.string a0_2]) (ok:=fun _=>True) (okp:=fun _=>True) ?hr ?hp (fun _ hk=>hk) trivial (Below.refl _ _) (Nat.le_refl _) (by simp) ?_;(case hd=>rfl);(case hg=>rfl);(case hr=>first|(go_simp;done)|(go_simp;rfl));(case hp=>exact (Reps.one (show Kd.M Kd.string _ _ _ a0_1 [.string a0_1] from rfl) (Reps.one (show Kd.M Kd.string _ _ _ a0_2 [.string a0_2] from rfl) (Reps.none _ _))));intro v172 w13 ho14 hb hg_ hnew_;clear hg_ hnew_;(first|rw [← Ny171.out] at ho14|(simp only [Int.reduceToNat] at ho14;rw [← Ny171.out] at ho14));have n0_:=ζa (Kd.R_elder' (by (with_reducible repeat (first|apply ζd|apply ζc|apply ζe));exact HO169.out) (Kd.R_base ho14) hb);have n1_:=ζa (Kd.R_lower (Kd.R_new' ho14 (Kd.R_lt (by (with_reducible repeat (first|apply ζd|apply ζc|apply ζe));exact HO169.out))) (δs (by repeat (first|(with_reducible first|exact HB.out|apply δk|apply δi|apply δj|refine δq ?_ GE166.out)|exact HB.out))));have n2_:=ζa (blk_below (g:=gb166) (o:=.cells #[.string a0_0,.string a0_1,.string a0_2,.int .i64 a0_3] 56 (0,0)) (by (with_reducible repeat (first|refine δn ?_ _|refine δp ?_|refine δo ?_ _));exact BK166.out) hb);have n3_:=ζa (δr (by repeat (first|(with_reducible first|exact HB.out|apply δk|apply δi|apply δj|refine δq ?_ GE166.out)|exact HB.out)) hb);clear HO169;clear BK166;clear HB;have HO169:=n0_;have HO173:=n1_;have BK166:=n2_;have HB:=n3_;clear n0_ n1_ n2_ n3_;clear hb ho14;obtain ⟨Ao15,co15,eo15⟩:=Kd.R_slice HO173.out;subst eo15)|(go_at_call 121;(with_reducible refine (impl_isPeople.calls k _ _ y171 τ _ ?side1 ?side2 A4.out).mono ?_);(case side1=>repeat (first|exact (ζg HO173.out).2.2|(with_reducible refine Kd.C_alloc ?_ _)|(with_reducible refine Kd.C_drewN ?_ _)|(with_reducible refine Kd.C_drew ?_)));(case side2=>exact (ζg HO173.out).2.1);rintro e w' ⟨rfl,⟨nd,rfl⟩⟩;have hcz16_0:w13.cell? ⟨gb166,0,none⟩=some (.string a0_0):=(δl BK166.out 0).trans rfl;have hcz16_1:w13.cell? ⟨gb166,1,none⟩=some (.string a0_1):=(δl BK166.out 1).trans rfl;have hcz16_2:w13.cell? ⟨gb166,2,none⟩=some (.string a0_2):=(δl BK166.out 2).trans rfl;have hcz16_3:w13.cell? ⟨gb166,3,none⟩=some (.int .i64 a0_3):=(δl BK166.out 3).trans rfl;have hfz16_0:=δm BK166.out 0;have hfz16_1:=δm BK166.out 1;have hfz16_2:=δm BK166.out 2;have hfz16_3:=δm BK166.out 3)|(go_at_call 122;(with_reducible refine (impl_isSome.calls a0_3 t175 _ A6.out).mono ?_);rintro e w' ⟨rfl,⟨nd,rfl⟩⟩))
   go_ret
   exact ⟨by first|rfl|(simp [errW_none,errW_some] <;> rfl)|(simp [*,errW_none,errW_some] <;> rfl),by repeat (first|(with_reducible first|exact HB.out|apply δk|apply δi|apply δj|refine δq ?_ GE166.out)|exact HB.out)⟩
  ·
   replace c5:=Bool.eq_false_iff.mpr c5
   subst c5
   have H1:(some φ)=some r:=by rw [if_neg (show ¬ (φ=τ) by decide)] at H;exact H
   clear H
   have H:=H1
   clear H1
   obtain rfl:=Option.some.inj H
   go_enter Tryz.func82,Tryz.ntmps82
   go_wp2_with (first|((with_reducible refine δx (N:=1) rfl ?_);(try (refine gate_guard (by rfl) ?_;dsimp only));refine δz ?hg (N:=1) ?hd (cs:=#[.string a0_0,.string a0_1,.string a0_2,.int .i64 a0_3]) (t:=56) ?hr ?_;(case hd=>rfl);(case hg=>rfl);(case hr=>first|(go_simp;done)|(go_simp;rfl));intro gb166 hg w17 hbox hb;have n0_:=ζa (δr (by repeat (first|(with_reducible first|exact HB.out|apply δk|apply δi|apply δj)|exact HB.out)) hb);have n1_:=ζa (hbox);have n2_:=ζa ((by rw [hg];exact (δs (by repeat (first|(with_reducible first|exact HB.out|apply δk|apply δi|apply δj)|exact HB.out))):w.heap.size≤gb166));have n3_:=ζa ((by rw [hg];exact (δs (by repeat (first|(with_reducible first|exact HB.out|apply δk|apply δi|apply δj)|exact HB.out))):w.heap.size≤gb166));clear HB;have HB:=n0_;have BK166:=n1_;have GW166:=n2_;have GE166:=n3_;clear n0_ n1_ n2_ n3_;clear hb hbox hg;have hcz18_0:w17.cell? ⟨gb166,0,none⟩=some (.string a0_0):=(δl BK166.out 0).trans rfl;have hcz18_1:w17.cell? ⟨gb166,1,none⟩=some (.string a0_1):=(δl BK166.out 1).trans rfl;have hcz18_2:w17.cell? ⟨gb166,2,none⟩=some (.string a0_2):=(δl BK166.out 2).trans rfl;have hcz18_3:w17.cell? ⟨gb166,3,none⟩=some (.int .i64 a0_3):=(δl BK166.out 3).trans rfl;have hfz18_0:=δm BK166.out 0;have hfz18_1:=δm BK166.out 1;have hfz18_2:=δm BK166.out 2;have hfz18_3:=δm BK166.out 3)|((with_reducible refine δx (N:=5) rfl ?_);(try (refine gate_guard (by rfl) ?_;dsimp only));refine Kd.R_lit Kd.string _ 9 ?hg (N:=5) ?hd (xs:=([a0_0]:List ByteArray)) (inner:=[.string a0_0]) (ok:=fun _=>True) (okp:=fun _=>True) ?hr ?hp (fun _ hk=>hk) trivial (Below.refl _ _) (Nat.le_refl _) (by simp) ?_;(case hd=>rfl);(case hg=>rfl);(case hr=>first|(go_simp;done)|(go_simp;rfl));(case hp=>exact (Reps.one (show Kd.M Kd.string _ _ _ a0_0 [.string a0_0] from rfl) (Reps.none _ _)));intro v168 w19 ho20 hb hg_ hnew_;clear hg_ hnew_;(first|rw [← Ny167.out] at ho20|(simp only [Int.reduceToNat] at ho20;rw [← Ny167.out] at ho20));have n0_:=ζa (Kd.R_lower ho20 (δs (by repeat (first|(with_reducible first|exact HB.out|apply δk|apply δi|apply δj|refine δq ?_ GE166.out)|exact HB.out))));have n1_:=ζa (blk_below (g:=gb166) (o:=.cells #[.string a0_0,.string a0_1,.string a0_2,.int .i64 a0_3] 56 (0,0)) (by (with_reducible repeat (first|refine δn ?_ _|refine δp ?_|refine δo ?_ _));exact BK166.out) hb);have n2_:=ζa (δr (by repeat (first|(with_reducible first|exact HB.out|apply δk|apply δi|apply δj|refine δq ?_ GE166.out)|exact HB.out)) hb);clear BK166;clear HB;have HO169:=n0_;have BK166:=n1_;have HB:=n2_;clear n0_ n1_ n2_;clear hb ho20;obtain ⟨Ao21,co21,eo21⟩:=Kd.R_slice HO169.out;subst eo21)|((with_reducible refine δv (f:=63) rfl ?_);refine goesL_ (some 6) rfl rfl Tryz.func63 (by kernel_rfl) rfl #[.slice Ao21 y167.length co21] rfl (by (try simp only [δd,δe,δf]);first|done|rfl|(simp only [δg,δh];rfl)) ?_;(with_reducible refine (impl_areNames.calls k _ _ y167 τ _ ?side1 ?side2 A2.out).mono ?_);(case side1=>repeat (first|exact (ζg HO169.out).2.2|(with_reducible refine Kd.C_alloc ?_ _)|(with_reducible refine Kd.C_drewN ?_ _)|(with_reducible refine Kd.C_drew ?_)));(case side2=>exact (ζg HO169.out).2.1);rintro e w' ⟨rfl,⟨nd,rfl⟩⟩;refine ⟨_,rfl,?_⟩;have hcz22_0:w19.cell? ⟨gb166,0,none⟩=some (.string a0_0):=(δl BK166.out 0).trans rfl;have hcz22_1:w19.cell? ⟨gb166,1,none⟩=some (.string a0_1):=(δl BK166.out 1).trans rfl;have hcz22_2:w19.cell? ⟨gb166,2,none⟩=some (.string a0_2):=(δl BK166.out 2).trans rfl;have hcz22_3:w19.cell? ⟨gb166,3,none⟩=some (.int .i64 a0_3):=(δl BK166.out 3).trans rfl;have hfz22_0:=δm BK166.out 0;have hfz22_1:=δm BK166.out 1;have hfz22_2:=δm BK166.out 2;have hfz22_3:=δm BK166.out 3)|((with_reducible refine δx (N:=12) rfl ?_);(try (refine gate_guard (by rfl) ?_;dsimp only));refine Kd.R_lit Kd.string _ 9 ?hg (N:=12) ?hd (xs:=([a0_1,a0_2]:List ByteArray)) (inner:=[.string a0_1,.string a0_2]) (ok:=fun _=>True) (okp:=fun _=>True) ?hr ?hp (fun _ hk=>hk) trivial (Below.refl _ _) (Nat.le_refl _) (by simp) ?_;(case hd=>rfl);(case hg=>rfl);(case hr=>first|(go_simp;done)|(go_simp;rfl));(case hp=>exact (Reps.one (show Kd.M Kd.string _ _ _ a0_1 [.string a0_1] from rfl) (Reps.one (show Kd.M Kd.string _ _ _ a0_2 [.string a0_2] from rfl) (Reps.none _ _))));intro v172 w23 ho24 hb hg_ hnew_;clear hg_ hnew_;(first|rw [← Ny171.out] at ho24|(simp only [Int.reduceToNat] at ho24;rw [← Ny171.out] at ho24));have n0_:=ζa (Kd.R_elder' (by (with_reducible repeat (first|apply ζd|apply ζc|apply ζe));exact HO169.out) (Kd.R_base ho24) hb);have n1_:=ζa (Kd.R_lower (Kd.R_new' ho24 (Kd.R_lt (by (with_reducible repeat (first|apply ζd|apply ζc|apply ζe));exact HO169.out))) (δs (by repeat (first|(with_reducible first|exact HB.out|apply δk|apply δi|apply δj|refine δq ?_ GE166.out)|exact HB.out))));have n2_:=ζa (blk_below (g:=gb166) (o:=.cells #[.string a0_0,.string a0_1,.string a0_2,.int .i64 a0_3] 56 (0,0)) (by (with_reducible repeat (first|refine δn ?_ _|refine δp ?_|refine δo ?_ _));exact BK166.out) hb);have n3_:=ζa (δr (by repeat (first|(with_reducible first|exact HB.out|apply δk|apply δi|apply δj|refine δq ?_ GE166.out)|exact HB.out)) hb);clear HO169;clear BK166;clear HB;have HO169:=n0_;have HO173:=n1_;have BK166:=n2_;have HB:=n3_;clear n0_ n1_ n2_ n3_;clear hb ho24;obtain ⟨Ao25,co25,eo25⟩:=Kd.R_slice HO173.out;subst eo25)|(go_at_call 121;(with_reducible refine (impl_isPeople.calls k _ _ y171 φ _ ?side1 ?side2 A4.out).mono ?_);(case side1=>repeat (first|exact (ζg HO173.out).2.2|(with_reducible refine Kd.C_alloc ?_ _)|(with_reducible refine Kd.C_drewN ?_ _)|(with_reducible refine Kd.C_drew ?_)));(case side2=>exact (ζg HO173.out).2.1);rintro e w' ⟨rfl,⟨nd,rfl⟩⟩))
   go_ret
   exact ⟨by first|rfl|(simp [errW_none,errW_some] <;> rfl)|(simp [*,errW_none,errW_some] <;> rfl),by repeat (first|(with_reducible first|exact HB.out|apply δk|apply δi|apply δj|refine δq ?_ GE166.out)|exact HB.out)⟩
 ·
  replace c3:=Bool.eq_false_iff.mpr c3
  subst c3
  have H1:(some φ)=some r:=by rw [if_neg (show ¬ (φ=τ) by decide)] at H;exact H
  clear H
  have H:=H1
  clear H1
  obtain rfl:=Option.some.inj H
  go_enter Tryz.func82,Tryz.ntmps82
  go_wp2_with (first|((with_reducible refine δx (N:=1) rfl ?_);(try (refine gate_guard (by rfl) ?_;dsimp only));refine δz ?hg (N:=1) ?hd (cs:=#[.string a0_0,.string a0_1,.string a0_2,.int .i64 a0_3]) (t:=56) ?hr ?_;(case hd=>rfl);(case hg=>rfl);(case hr=>first|(go_simp;done)|(go_simp;rfl));intro gb166 hg w26 hbox hb;have n0_:=ζa (δr (by repeat (first|(with_reducible first|exact HB.out|apply δk|apply δi|apply δj)|exact HB.out)) hb);have n1_:=ζa (hbox);have n2_:=ζa ((by rw [hg];exact (δs (by repeat (first|(with_reducible first|exact HB.out|apply δk|apply δi|apply δj)|exact HB.out))):w.heap.size≤gb166));have n3_:=ζa ((by rw [hg];exact (δs (by repeat (first|(with_reducible first|exact HB.out|apply δk|apply δi|apply δj)|exact HB.out))):w.heap.size≤gb166));clear HB;have HB:=n0_;have BK166:=n1_;have GW166:=n2_;have GE166:=n3_;clear n0_ n1_ n2_ n3_;clear hb hbox hg;have hcz27_0:w26.cell? ⟨gb166,0,none⟩=some (.string a0_0):=(δl BK166.out 0).trans rfl;have hcz27_1:w26.cell? ⟨gb166,1,none⟩=some (.string a0_1):=(δl BK166.out 1).trans rfl;have hcz27_2:w26.cell? ⟨gb166,2,none⟩=some (.string a0_2):=(δl BK166.out 2).trans rfl;have hcz27_3:w26.cell? ⟨gb166,3,none⟩=some (.int .i64 a0_3):=(δl BK166.out 3).trans rfl;have hfz27_0:=δm BK166.out 0;have hfz27_1:=δm BK166.out 1;have hfz27_2:=δm BK166.out 2;have hfz27_3:=δm BK166.out 3)|((with_reducible refine δx (N:=5) rfl ?_);(try (refine gate_guard (by rfl) ?_;dsimp only));refine Kd.R_lit Kd.string _ 9 ?hg (N:=5) ?hd (xs:=([a0_0]:List ByteArray)) (inner:=[.string a0_0]) (ok:=fun _=>True) (okp:=fun _=>True) ?hr ?hp (fun _ hk=>hk) trivial (Below.refl _ _) (Nat.le_refl _) (by simp) ?_;(case hd=>rfl);(case hg=>rfl);(case hr=>first|(go_simp;done)|(go_simp;rfl));(case hp=>exact (Reps.one (show Kd.M Kd.string _ _ _ a0_0 [.string a0_0] from rfl) (Reps.none _ _)));intro v168 w28 ho29 hb hg_ hnew_;clear hg_ hnew_;(first|rw [← Ny167.out] at ho29|(simp only [Int.reduceToNat] at ho29;rw [← Ny167.out] at ho29));have n0_:=ζa (Kd.R_lower ho29 (δs (by repeat (first|(with_reducible first|exact HB.out|apply δk|apply δi|apply δj|refine δq ?_ GE166.out)|exact HB.out))));have n1_:=ζa (blk_below (g:=gb166) (o:=.cells #[.string a0_0,.string a0_1,.string a0_2,.int .i64 a0_3] 56 (0,0)) (by (with_reducible repeat (first|refine δn ?_ _|refine δp ?_|refine δo ?_ _));exact BK166.out) hb);have n2_:=ζa (δr (by repeat (first|(with_reducible first|exact HB.out|apply δk|apply δi|apply δj|refine δq ?_ GE166.out)|exact HB.out)) hb);clear BK166;clear HB;have HO169:=n0_;have BK166:=n1_;have HB:=n2_;clear n0_ n1_ n2_;clear hb ho29;obtain ⟨Ao30,co30,eo30⟩:=Kd.R_slice HO169.out;subst eo30)|((with_reducible refine δv (f:=63) rfl ?_);refine goesL_ (some 6) rfl rfl Tryz.func63 (by kernel_rfl) rfl #[.slice Ao30 y167.length co30] rfl (by (try simp only [δd,δe,δf]);first|done|rfl|(simp only [δg,δh];rfl)) ?_;(with_reducible refine (impl_areNames.calls k _ _ y167 φ _ ?side1 ?side2 A2.out).mono ?_);(case side1=>repeat (first|exact (ζg HO169.out).2.2|(with_reducible refine Kd.C_alloc ?_ _)|(with_reducible refine Kd.C_drewN ?_ _)|(with_reducible refine Kd.C_drew ?_)));(case side2=>exact (ζg HO169.out).2.1);rintro e w' ⟨rfl,⟨nd,rfl⟩⟩;refine ⟨_,rfl,?_⟩))
  go_ret
  exact ⟨by first|rfl|(simp [errW_none,errW_some] <;> rfl)|(simp [*,errW_none,errW_some] <;> rfl),by repeat (first|(with_reducible first|exact HB.out|apply δk|apply δi|apply δj|refine δq ?_ GE166.out)|exact HB.out)⟩


open Go.RowKit renaming wrap64 → ζm

/-! ### impl_numberOf: function 191 -/
def impl_numberOf.l0:Nat→ByteArray→Int→Int→Int→Option (Int)
 | 0,_,_,_,_=>none
 | k+1,x0,x3,x6,x7=>if x7<x6 then (if 0≤x7 then (if x7<(x0.size:Int) then (impl_numberOf.l0 k x0 (ζm ((ζm (x3 * 256))+(ζm (bt x0 x7)))) x6 (ζm (x7+1))) else (none)) else (none)) else (some x3)
def impl_numberOf.f (k:Nat) (a0:ByteArray):Option (Int):=impl_numberOf.l0 k a0 0 (a0.size:Int) 0
set_option maxHeartbeats 8000000 in
set_option maxRecDepth 100000 in
theorem impl_numberOf.calls (k:Nat) (a0:ByteArray) (r:Int) (w:World) (h:impl_numberOf.f k a0=some r) :
  Calls Tryz.prog 191 #[.string a0] w fun e w'=>e = .returned (.int .i64 r)∧Drawn0 w w':=by
 have H:(impl_numberOf.l0 k a0 0 (a0.size:Int) 0)=some r:=h
 clear h
 have H':=ζa H
 clear H
 go_enter Tryz.func191,Tryz.ntmps191
 go_wp2
 go_loopg [3,7] k (fun kq v3 v7 w' => ∃ (x3_1:Int) (x7_1:Int),v3 = .int .i64 x3_1∧v7 = .int .i64 x7_1∧Aside0 (impl_numberOf.l0 kq a0 x3_1 (a0.size:Int) x7_1=some r)∧Aside0 (kq≤k)∧Drawn0 w w')
 case atStart=>exact ⟨(0),(0),(by first|rfl|(simp;done)|(simp [*];done)),(by first|rfl|(simp;done)|(simp [*];done)),H',⟨Nat.le_refl _⟩,by repeat (first|exact Drawn0.refl _|apply Drawn0.step)⟩
 case round =>
  clear H'
  try clear c1
  obtain ⟨x3_1,x7_1,rfl,rfl,HA,HK1,⟨m1,rfl⟩⟩:=hrel
  cases gk with
  | zero=>exact absurd HA.out (by simp [impl_numberOf.l0])
  | succ k1 =>
   have H:=HA.out
   clear HA
   simp only [impl_numberOf.l0] at H
   by_cases c2:x7_1<(a0.size:Int)
   ·
    rw [if_pos c2] at H
    have c2b0:decide (x7_1<(a0.size:Int))=τ:=decide_eq_true c2
    clear c2
    by_cases c3:0≤x7_1
    ·
     rw [if_pos c3] at H
     have c3b0:decide (0≤x7_1)=τ:=decide_eq_true c3
     clear c3
     by_cases c4:x7_1<(a0.size:Int)
     ·
      rw [if_pos c4] at H
      have c4b0:decide (x7_1<(a0.size:Int))=τ:=decide_eq_true c4
      clear c4
      have H':=ζa H
      clear H
      have p5:0≤(x7_1:Int):=of_decide_eq_true (by first|(with_reducible assumption)|assumption)
      have q5:x7_1<(a0.size:Int):=of_decide_eq_true (by first|(with_reducible assumption)|assumption)
      have hx5:=bt_at a0 x7_1
      replace p5:=eq_true p5
      replace q5:=eq_true q5
      go_wp2
      go_roundg k1
      case measure=>have:=HK1.out;omega
      case rel=>exact ⟨(ζm ((ζm (x3_1 * 256))+(ζm (bt a0 x7_1)))),(ζm (x7_1+1)),(by first|rfl|(simp;done)|(simp [*];done)),(by first|rfl|(simp;done)|(simp [*];done)),H',⟨by have:=HK1.out;omega⟩,by repeat (first|exact Drawn0.refl _|apply Drawn0.step)⟩
     ·
      rw [if_neg c4] at H
      exact absurd H (by simp)
    ·
     rw [if_neg c3] at H
     exact absurd H (by simp)
   ·
    rw [if_neg c2] at H
    have c2b0:decide (x7_1<(a0.size:Int))=φ:=decide_eq_false c2
    clear c2
    obtain rfl:=Option.some.inj H
    go_wp2
    go_ret
    exact ⟨by first|rfl|(simp;done)|(simp [*];done),by repeat (first|exact Drawn0.refl _|apply Drawn0.step)⟩


open Go.Proofs.YtabmfhnhmoiljaaGreatDoorW.PrintWords renaming below_alloc → δk, pw_below_drewN → δi, below_drew1 → δj, below_size → δs, below_step → δr, gate_callee → δv
open Go.Proofs.YtabmfhnhmoiljaaGreatDoorW.PrintLast renaming pure_ → ζk, any_of → ζj
open Go.Act renaming put → ζl
open List renaming setIfInBounds_toArray → δa, set_cons_zero → δb, set_cons_succ → δc, map_toArray → δd, map_cons → δe, map_nil → δf, length_drop → δg, length_take → δh
open Go.Proofs.YtabmfhnhmoiljaaGreatDoorW.PrintWords.Kd renaming R_alloc → ζd, R_drewN → ζc, R_drew → ζe

/-! ### impl_readFields: function 150 -/
mutual
def impl_readFields.j0:Nat→ByteArray→Bool→Option (List ByteArray × Bool)
 | 0,_,_=>none
 | k+1,x0,x13=>if x13=τ then (some (([]:List ByteArray),φ)) else (if 1≤(x0.size:Int) then (if 0<(x0.size:Int) then (impl_readFields.l0 k (([]:List ByteArray)) (x0.extract 1 x0.size) (ζm (bt x0 0)) 0) else (none)) else (none))
def impl_readFields.l0:Nat→List ByteArray→ByteArray→Int→Int→Option (List ByteArray × Bool)
 | 0,_,_,_,_=>none
 | k+1,x4,x5,x19,x20=>if x20<x19 then (if (x5.size:Int)<2 then (some (([]:List ByteArray),φ)) else (if 0≤2 then (if 2≤(x5.size:Int) then ((impl_numberOf.f k (x5.extract 0 2)).bind fun t353=>(if t353 > 1000 then (some (([]:List ByteArray),φ)) else (if (x5.size:Int)<(ζm (2+t353)) then (some (([]:List ByteArray),φ)) else (if 2≤(ζm (2+t353)) then (if (ζm (2+t353))≤(x5.size:Int) then (if x4.length<8796093022208 then (if 0≤(ζm (2+t353)) then (impl_readFields.l0 k (x4 ++ [x5.extract 2 ((ζm (2+t353)):Int).toNat]) (x5.extract ((ζm (2+t353)):Int).toNat x5.size) x19 (ζm (x20+1))) else (none)) else (none)) else (none)) else (none))))) else (none)) else (none))) else (some (x4,(x5.toList == ([]:List UInt8))))
end
def impl_readFields.f (k:Nat) (a0:ByteArray):Option (List ByteArray × Bool):=if a0.toList=([]:List UInt8) then (impl_readFields.j0 k a0 τ) else (if 0<(a0.size:Int) then (impl_readFields.j0 k a0 (decide ((bt a0 0) > 40))) else (none))
def impl_readFields.T11:Bool × List (List Nat × List Nat):=(τ,[([],[]),([],[]),([],[]),([2],[2]),([1,3],[1,3]),([4],[4]),([0,5],[0,5]),([],[]),([],[]),([8],[8]),([7,9],[7,9]),([6,6,0,1,2,3,4,5,6],[0,6]),([10,11,0,1,2,3,4,5,6,7,8,9,10,11],[1,7,10])])
def impl_readFields.B11:List Nat:=[0,0,0,4,14,30,63,0,0,256,896,127,4095]
theorem impl_readFields.tab11:rtab .any (opsOf Tryz.f150 11)=impl_readFields.T11:=by kernel_rfl
theorem impl_readFields.bits11:waitsOk impl_readFields.T11.2 impl_readFields.B11=τ:=by kernel_rfl
set_option maxHeartbeats 8000000 in
set_option maxRecDepth 100000 in
theorem impl_readFields.calls (k:Nat) (a0:ByteArray) (r1:List ByteArray) (r2:Bool) (w:World) (h:impl_readFields.f k a0=some (r1,r2)) :
  Calls Tryz.prog 150 #[.string a0] w fun e w' => ∃ v0_:Value,e = .returned (.tuple #[v0_,.bool r2])∧Kd.R Kd.string 9 w' w.heap.size (fun _=>True) v0_ r1∧Below w.heap.size w w':=by
 have HB:=ζa (Below.refl w.heap.size w)
 have H:(if a0.toList=([]:List UInt8) then (impl_readFields.j0 k a0 τ) else (if 0<(a0.size:Int) then (impl_readFields.j0 k a0 (decide ((bt a0 0) > 40))) else (none)))=some (r1,r2):=h
 clear h
 have HC2:=ζa H
 clear H
 go_enter Tryz.func150,Tryz.ntmps150
 go_upto_region 1 with (fail)
 go_cut [13] (fun v13 wc => ∃ (kq:Nat) (x13_1:Bool),v13 = .bool x13_1∧Aside0 (impl_readFields.j0 kq a0 x13_1=some (r1,r2))∧Aside0 (kq≤k)∧Aside0 (Below w.heap.size w wc))
 case first =>
  have H:=HC2.out
  clear HC2
  by_cases c3:a0.toList=([]:List UInt8)
  ·
   rw [if_pos c3] at H
   have c3b0:(a0.toList == ([]:List UInt8))=τ:=beq_iff_eq.mpr c3
   have c3b1:(a0.toList != ([]:List UInt8))=φ:=bne_eq_false_iff_eq.mpr c3
   clear c3
   (first|rw [c3b0]|(simp only [i64_w,i32_w];rw [c3b0])|skip)
   have H':=ζa H
   clear H
   go_wp2
   go_meet
   case rel=>exact ⟨_,(τ),(by first|rfl|(simp;done)|(simp [*];done)),H',⟨by first|omega|exact Nat.le_refl _⟩,⟨by repeat (first|(with_reducible first|exact HB.out|apply δk|apply δi|apply δj)|exact HB.out)⟩⟩
  ·
   rw [if_neg c3] at H
   have c3b0:(a0.toList == ([]:List UInt8))=φ:=beq_eq_false_iff_ne.mpr c3
   have c3b1:(a0.toList != ([]:List UInt8))=τ:=bne_iff_ne.mpr c3
   (first|rw [c3b0]|(simp only [i64_w,i32_w];rw [c3b0])|skip)
   by_cases c4:0<(a0.size:Int)
   ·
    rw [if_pos c4] at H
    have c4b0:decide (0<(a0.size:Int))=τ:=decide_eq_true c4
    have c4b1:decide (0<a0.size)=τ:=decide_eq_true (by omega)
    clear c4
    have H':=ζa H
    clear H
    have p5:0≤(0:Int):=(by omega)
    have q5:0<a0.size:=(by have:(0:Int)<(a0.size:Int):=of_decide_eq_true (by first|(with_reducible assumption)|assumption);omega)
    have hx5 : ∀ h:0<a0.size,((a0[0]'h).toNat:Int)=bt a0 0:=bt_at a0 0
    clear p5
    have qi5:(0<(a0.size:Int))=True:=eq_true (of_decide_eq_true (by first|(with_reducible assumption)|assumption))
    replace q5:=eq_true q5
    go_wp2
    go_meet
    case rel=>exact ⟨_,(decide ((bt a0 0) > 40)),(by first|rfl|(simp;done)|(simp [*];done)),H',⟨by first|omega|exact Nat.le_refl _⟩,⟨by repeat (first|(with_reducible first|exact HB.out|apply δk|apply δi|apply δj)|exact HB.out)⟩⟩
   ·
    rw [if_neg c4] at H
    exact absurd H (by simp)
 case rest =>
  clear HC2
  try clear c1
  try clear p2
  try clear c3
  try clear c3b0
  try clear c3b1
  try clear c4
  try clear c4b0
  try clear c4b1
  try clear p5
  try clear q5
  try clear hx5
  try clear qi5
  try clear p5
  try clear q5
  obtain ⟨kq,x13_1,rfl,HA,HJ1,HB⟩:=hcut
  cases kq with
  | zero=>exact absurd HA.out (by simp [impl_readFields.j0])
  | succ kj1 =>
   have H:=HA.out
   clear HA
   simp only [impl_readFields.j0] at H
   by_cases c6:x13_1=τ
   ·
    subst c6
    have H1:(some (([]:List ByteArray),φ))=some (r1,r2):=by rw [if_pos rfl] at H;exact H
    clear H
    have H:=H1
    clear H1
    simp only [Option.some.injEq,Prod.mk.injEq] at H
    obtain ⟨rfl,rfl⟩:=H
    go_wp2
    go_ret2
    exact ⟨_,by first|rfl|(simp [errW_none,errW_some] <;> rfl)|(simp [*,errW_none,errW_some] <;> rfl),by first|exact Kd.R_nil _ _ _ _ _|exact Kd.N_nil _ _ _ _ _|exact Kd.V_nil _ _ _ _ _|exact Kd.Q_nil _ _ _ _ _|exact Kd.S_nil _ _ _ _ _,by repeat (first|(with_reducible first|exact HB.out|apply δk|apply δi|apply δj)|exact HB.out)⟩
   ·
    replace c6:=Bool.eq_false_iff.mpr c6
    subst c6
    have H1:(if 1≤(a0.size:Int) then (if 0<(a0.size:Int) then (impl_readFields.l0 kj1 (([]:List ByteArray)) (a0.extract 1 a0.size) (ζm (bt a0 0)) 0) else (none)) else (none))=some (r1,r2):=by rw [if_neg (show ¬ (φ=τ) by decide)] at H;exact H
    clear H
    have H:=H1
    clear H1
    obtain ⟨y350,hy350⟩ : ∃ y_:List ByteArray,y_=(([]:List ByteArray)):=⟨_,rfl⟩
    replace H:(if 1≤(a0.size:Int) then (if 0<(a0.size:Int) then (impl_readFields.l0 kj1 y350 (a0.extract 1 a0.size) (ζm (bt a0 0)) 0) else (none)) else (none))=some (r1,r2):=by first|(rw [hy350];with_reducible exact H)|(have H2_:=(Option.bind_some _ _).symm.trans H;rw [hy350];with_reducible exact H2_)|(have H2_:=(Option.bind_some _ _).symm.trans H;with_reducible exact H2_)|with_reducible exact H|(rw [hy350];exact H)|exact H
    have Ny350:=ζa hy350
    clear hy350
    by_cases c7:1≤(a0.size:Int)
    ·
     rw [if_pos c7] at H
     have c7b0:=eq_true c7
     have c7b1:decide (1≤(a0.size:Int))=τ:=decide_eq_true c7
     clear c7
     by_cases c8:0<(a0.size:Int)
     ·
      rw [if_pos c8] at H
      have c8b0:decide (0<(a0.size:Int))=τ:=decide_eq_true c8
      have c8b1:decide (0<a0.size)=τ:=decide_eq_true (by omega)
      clear c8
      have H':=ζa H
      clear H
      try go_wp2
      have n0_:=ζa (δj HB.out)
      clear HB
      have HB:=n0_
      clear n0_
      refine start_ (n:=5) (S:=fun w'=>True) (ds:=[]) #[φ,φ,φ,φ,φ] (by kernel_rfl) rfl rfl trivial (fun hHeld => ?_)
      generalize wc.drew=w10 at HB hHeld ⊢
      refine ζk (i:=1) (N:=some 15) (v:=?_) (a':=?_) #[φ,τ,φ,φ,φ] rfl rfl (by kernel_rfl) (fun _ _ _ h=>h) (Or.inl ⟨by rfl,?_⟩) ?_ ?_
      rotate_left
      · intro w';go_simp;with_reducible rfl
      rotate_left
      · simp only [ζl,δa,δb,δc,i64_w,i32_w];rfl
      refine ζk (i:=2) (N:=some 16) (v:=?_) (a':=?_) #[φ,τ,τ,φ,φ] rfl rfl (by kernel_rfl) (fun _ _ _ h=>h) (Or.inl ⟨by rfl,?_⟩) ?_ ?_
      rotate_left
      · intro w';go_simp;with_reducible rfl
      rotate_left
      · simp only [ζl,δa,δb,δc,i64_w,i32_w];rfl
      refine one_ (i:=0) (N:=some 14) #[τ,τ,τ,φ,φ] rfl rfl (by kernel_rfl) (by decide) (fun K hK => ?_)
      refine Kd.R_lit_step Kd.string _ 9 ?hg (N:=14) ?hd (xs:=([]:List ByteArray)) (inner:=[]) (ok:=fun _=>True) (okp:=fun _=>True) ?hr ?hp (fun _ hk=>hk) trivial (Below.refl _ _) (Nat.le_refl _) (by simp) ?_;(case hd=>rfl);(case hg=>rfl);(case hr=>first|(go_simp;done)|(go_simp;rfl));(case hp=>exact (Reps.none _ _))
      intro v351 w11 ho12 hb hg_ hnew_
      clear hg_ hnew_
      (first|rw [← Ny350.out] at ho12|(simp only [Int.reduceToNat] at ho12;rw [← Ny350.out] at ho12))
      have n0_:=ζa (Kd.R_lower ho12 (δs (by repeat (first|(with_reducible first|exact HB.out|apply δk|apply δi|apply δj)|exact HB.out))))
      have n1_:=ζa (δr (by repeat (first|(with_reducible first|exact HB.out|apply δk|apply δi|apply δj)|exact HB.out)) hb)
      clear HB
      have HO352:=n0_
      have HB:=n1_
      clear n0_ n1_
      clear hb ho12
      refine hK.out _ _ trivial (fun hHeld => ?_)
      clear hK K
      refine norm_ (a':=?_) ?_ ?_
      rotate_left
      ·
       show ζl _ (some 14) _=_
       simp only [ζl,δa,δb,δc,i64_w,i32_w];rfl
      refine ζk (i:=3) (N:=some 4) (v:=?_) (a':=?_) #[τ,τ,τ,τ,φ] rfl rfl (by kernel_rfl) (fun _ _ _ h=>h) (Or.inl ⟨by rfl,?_⟩) ?_ ?_
      rotate_left
      · intro w';go_simp;with_reducible rfl
      rotate_left
      · simp only [ζl,δa,δb,δc,i64_w,i32_w];rfl
      refine ζk (i:=4) (N:=some 5) (v:=?_) (a':=?_) #[τ,τ,τ,τ,τ] rfl rfl (by kernel_rfl) (fun _ _ _ h=>h) (Or.inl ⟨by rfl,?_⟩) ?_ ?_
      rotate_left
      · intro w';go_simp;with_reducible rfl
      rotate_left
      · simp only [ζl,δa,δb,δc,i64_w,i32_w];rfl
      refine done_ (by kernel_rfl) ?_
      have p9:0≤(0:Int):=(by omega)
      have q9:0<a0.size:=(by have:(0:Int)<(a0.size:Int):=of_decide_eq_true (by first|(with_reducible assumption)|assumption);omega)
      have hx9 : ∀ h:0<a0.size,((a0[0]'h).toNat:Int)=bt a0 0:=bt_at a0 0
      clear p9
      have qi9:(0<(a0.size:Int))=True:=eq_true (of_decide_eq_true (by first|(with_reducible assumption)|assumption))
      replace q9:=eq_true q9
      try go_wp2
      go_loopg [4,5,20] kj1 (fun kq v4 v5 v20 w' => ∃ (x4_2:List ByteArray) (x5_2:ByteArray) (x20_2:Int),v5 = .string x5_2∧v20 = .int .i64 x20_2∧Aside0 (impl_readFields.l0 kq x4_2 x5_2 (ζm (bt a0 0)) x20_2=some (r1,r2))∧Aside0 (kq≤kj1)∧Aside0 (Kd.R Kd.string 9 w' w.heap.size (fun _=>True) v4 x4_2)∧Aside0 (Below w.heap.size w w'))
      case atStart=>exact ⟨(y350),(a0.extract 1 a0.size),(0),(by first|rfl|(simp;done)|(simp [*];done)),(by first|rfl|(simp;done)|(simp [*];done)),H',⟨Nat.le_refl _⟩,⟨by (with_reducible repeat (first|apply ζd|apply ζc|apply ζe));exact HO352.out⟩,⟨by repeat (first|(with_reducible first|exact HB.out|apply δk|apply δi|apply δj)|exact HB.out)⟩⟩
      case round =>
       clear H'
       try clear c1
       try clear p2
       try clear c3
       try clear c3b0
       try clear c3b1
       try clear c4
       try clear c4b0
       try clear c4b1
       try clear p5
       try clear q5
       try clear hx5
       try clear qi5
       try clear c6
       try clear p6
       try clear c7
       try clear c7b0
       try clear c7b1
       try clear c8
       try clear c8b0
       try clear c8b1
       try clear p9
       try clear q9
       try clear hx9
       try clear qi9
       try clear p2
       try clear p5
       try clear p9
       try clear q5
       try clear q9
       obtain ⟨x4_2,x5_2,x20_2,rfl,rfl,HA,HK2,HO_4,HB⟩:=hrel
       cases gk with
       | zero=>exact absurd HA.out (by simp [impl_readFields.l0])
       | succ k2 =>
        have H:=HA.out
        clear HA
        simp only [impl_readFields.l0] at H
        by_cases c13:x20_2<(ζm (bt a0 0))
        ·
         rw [if_pos c13] at H
         have c13b0:decide (x20_2<(ζm (bt a0 0)))=τ:=decide_eq_true c13
         clear c13
         by_cases c14:(x5_2.size:Int)<2
         ·
          rw [if_pos c14] at H
          have c14b0:decide ((x5_2.size:Int)<2)=τ:=decide_eq_true c14
          have c14b1:decide (x5_2.size<2)=τ:=decide_eq_true (by omega)
          clear c14
          simp only [Option.some.injEq,Prod.mk.injEq] at H
          obtain ⟨rfl,rfl⟩:=H
          go_wp2
          go_ret2
          exact ⟨_,by first|rfl|(simp [errW_none,errW_some] <;> rfl)|(simp [*,errW_none,errW_some] <;> rfl),by first|exact Kd.R_nil _ _ _ _ _|exact Kd.N_nil _ _ _ _ _|exact Kd.V_nil _ _ _ _ _|exact Kd.Q_nil _ _ _ _ _|exact Kd.S_nil _ _ _ _ _,by repeat (first|(with_reducible first|exact HB.out|apply δk|apply δi|apply δj)|exact HB.out)⟩
         ·
          rw [if_neg c14] at H
          have c14b0:decide ((x5_2.size:Int)<2)=φ:=decide_eq_false c14
          have c14b1:decide (x5_2.size<2)=φ:=decide_eq_false (by omega)
          clear c14
          by_cases c15:0≤2
          ·
           rw [if_pos c15] at H
           have c15b0:=eq_true c15
           have c15b1:decide (0≤2)=τ:=decide_eq_true c15
           clear c15
           by_cases c16:2≤(x5_2.size:Int)
           ·
            rw [if_pos c16] at H
            have c16b0:=eq_true c16
            have c16b1:decide (2≤(x5_2.size:Int))=τ:=decide_eq_true c16
            clear c16
            replace H:=Option.bind_eq_some_iff.mp H
            obtain ⟨t353,A170,H⟩:=H
            replace H:(if t353 > 1000 then (some (([]:List ByteArray),φ)) else (if (x5_2.size:Int)<(ζm (2+t353)) then (some (([]:List ByteArray),φ)) else (if 2≤(ζm (2+t353)) then (if (ζm (2+t353))≤(x5_2.size:Int) then (if x4_2.length<8796093022208 then (if 0≤(ζm (2+t353)) then (impl_readFields.l0 k2 (x4_2 ++ [x5_2.extract 2 ((ζm (2+t353)):Int).toNat]) (x5_2.extract ((ζm (2+t353)):Int).toNat x5_2.size) (ζm (bt a0 0)) (ζm (x20_2+1))) else (none)) else (none)) else (none)) else (none))))=some (r1,r2):=H
            have A17:=ζa A170
            clear A170
            by_cases c18:t353 > 1000
            ·
             rw [if_pos c18] at H
             have c18b0:decide (1000<t353)=τ:=decide_eq_true c18
             clear c18
             simp only [Option.some.injEq,Prod.mk.injEq] at H
             obtain ⟨rfl,rfl⟩:=H
             go_wp2_with (first|((with_reducible refine δv (f:=191) rfl ?_);refine goesL_ (some 27) rfl rfl Tryz.func191 (by kernel_rfl) rfl #[.string (x5_2.extract 0 2)] rfl (by (try simp only [δd,δe,δf]);first|done|rfl|(simp only [δg,δh];rfl)) ?_;(with_reducible refine (impl_numberOf.calls k2 (x5_2.extract 0 2) t353 _ A17.out).mono ?_);rintro e w' ⟨rfl,⟨nd,rfl⟩⟩;refine ⟨_,rfl,?_⟩))
             go_ret2
             exact ⟨_,by first|rfl|(simp [errW_none,errW_some] <;> rfl)|(simp [*,errW_none,errW_some] <;> rfl),by first|exact Kd.R_nil _ _ _ _ _|exact Kd.N_nil _ _ _ _ _|exact Kd.V_nil _ _ _ _ _|exact Kd.Q_nil _ _ _ _ _|exact Kd.S_nil _ _ _ _ _,by repeat (first|(with_reducible first|exact HB.out|apply δk|apply δi|apply δj)|exact HB.out)⟩
            ·
             rw [if_neg c18] at H
             have c18b0:decide (1000<t353)=φ:=decide_eq_false c18
             clear c18
             by_cases c19:(x5_2.size:Int)<(ζm (2+t353))
             ·
              rw [if_pos c19] at H
              have c19b0:decide ((x5_2.size:Int)<(ζm (2+t353)))=τ:=decide_eq_true c19
              clear c19
              simp only [Option.some.injEq,Prod.mk.injEq] at H
              obtain ⟨rfl,rfl⟩:=H
              go_wp2_with (first|((with_reducible refine δv (f:=191) rfl ?_);refine goesL_ (some 27) rfl rfl Tryz.func191 (by kernel_rfl) rfl #[.string (x5_2.extract 0 2)] rfl (by (try simp only [δd,δe,δf]);first|done|rfl|(simp only [δg,δh];rfl)) ?_;(with_reducible refine (impl_numberOf.calls k2 (x5_2.extract 0 2) t353 _ A17.out).mono ?_);rintro e w' ⟨rfl,⟨nd,rfl⟩⟩;refine ⟨_,rfl,?_⟩))
              go_ret2
              exact ⟨_,by first|rfl|(simp [errW_none,errW_some] <;> rfl)|(simp [*,errW_none,errW_some] <;> rfl),by first|exact Kd.R_nil _ _ _ _ _|exact Kd.N_nil _ _ _ _ _|exact Kd.V_nil _ _ _ _ _|exact Kd.Q_nil _ _ _ _ _|exact Kd.S_nil _ _ _ _ _,by repeat (first|(with_reducible first|exact HB.out|apply δk|apply δi|apply δj)|exact HB.out)⟩
             ·
              rw [if_neg c19] at H
              have c19b0:decide ((x5_2.size:Int)<(ζm (2+t353)))=φ:=decide_eq_false c19
              clear c19
              by_cases c20:2≤(ζm (2+t353))
              ·
               rw [if_pos c20] at H
               have c20b0:=eq_true c20
               have c20b1:decide (2≤(ζm (2+t353)))=τ:=decide_eq_true c20
               by_cases c21:(ζm (2+t353))≤(x5_2.size:Int)
               ·
                rw [if_pos c21] at H
                have c21b0:=eq_true c21
                have c21b1:decide ((ζm (2+t353))≤(x5_2.size:Int))=τ:=decide_eq_true c21
                by_cases c22:x4_2.length<8796093022208
                ·
                 rw [if_pos c22] at H
                 have LMc22:=ζa c22
                 clear c22
                 obtain ⟨y354,hy354⟩ : ∃ y_:List ByteArray,y_=(x4_2 ++ [x5_2.extract 2 ((ζm (2+t353)):Int).toNat]):=⟨_,rfl⟩
                 replace H:(if 0≤(ζm (2+t353)) then (impl_readFields.l0 k2 y354 (x5_2.extract ((ζm (2+t353)):Int).toNat x5_2.size) (ζm (bt a0 0)) (ζm (x20_2+1))) else (none))=some (r1,r2):=by first|(rw [hy354];with_reducible exact H)|(have H2_:=(Option.bind_some _ _).symm.trans H;rw [hy354];with_reducible exact H2_)|(have H2_:=(Option.bind_some _ _).symm.trans H;with_reducible exact H2_)|with_reducible exact H|(rw [hy354];exact H)|exact H
                 have Ny354:=ζa hy354
                 clear hy354
                 obtain ⟨ji23,hji23⟩ : ∃ j_:Int,(ζm (2+t353))=j_:=⟨_,rfl⟩
                 replace H:(if 0≤(ji23) then (impl_readFields.l0 k2 y354 (x5_2.extract ((ji23):Int).toNat x5_2.size) (ζm (bt a0 0)) (ζm (x20_2+1))) else (none))=some (r1,r2):=by first|(rw [hji23] at H;exact H)|(simp only [hji23] at H ⊢;exact H)
                 (try rw [hji23] at c19b0)
                 (try rw [hji23] at c20b0)
                 (try rw [hji23] at c20b1)
                 (try rw [hji23] at c20)
                 (try rw [hji23] at c21b0)
                 (try rw [hji23] at c21b1)
                 (try rw [hji23] at c21)
                 (try rw [hji23] at A17)
                 (try rw [hji23] at Ny354)
                 have hji23w:(IntKind.i64.wrap (2+t353))=ji23:=(i64_w _).trans hji23
                 by_cases c24:0≤(ji23)
                 ·
                  rw [if_pos c24] at H
                  have c24b0:=eq_true c24
                  have c24b1:decide (0≤(ji23))=τ:=decide_eq_true c24
                  clear c24
                  have c25b0:=eq_true (of_decide_eq_true (by first|(with_reducible assumption)|assumption):(ji23)≤(x5_2.size:Int))
                  have H':=ζa H
                  clear H
                  try go_wp2_with (first|((with_reducible refine δv (f:=191) rfl ?_);refine goesL_ (some 27) rfl rfl Tryz.func191 (by kernel_rfl) rfl #[.string (x5_2.extract 0 2)] rfl (by (try simp only [δd,δe,δf]);first|done|rfl|(simp only [δg,δh];rfl)) ?_;(with_reducible refine (impl_numberOf.calls k2 (x5_2.extract 0 2) t353 _ A17.out).mono ?_);rintro e w' ⟨rfl,⟨nd,rfl⟩⟩;refine ⟨_,rfl,?_⟩))
                  (try (rw [drewN_self wr];generalize hq_:World.drewN wr _=wr;have n0_:Aside0 (Kd.R Kd.string 9 wr w.heap.size (fun _=>True) u4 x4_2):=⟨by rw [← hq_];exact (by (with_reducible repeat (first|apply ζd|apply ζc|apply ζe));exact HO_4.out)⟩;have n1_:Aside0 (Below w.heap.size w wr):=⟨by rw [← hq_];exact (by repeat (first|(with_reducible first|exact HB.out|apply δk|apply δi|apply δj)|exact HB.out))⟩;clear HO_4 HB hq_;have HO_4:=n0_;have HB:=n1_;clear n0_ n1_))
                  have n0_:=ζa (ζe HO_4.out)
                  have n1_:=ζa (δj HB.out)
                  clear HO_4
                  clear HB
                  have HO_4:=n0_
                  have HB:=n1_
                  clear n0_ n1_
                  refine start_ (n:=13) (S:=fun w'=>True) (ds:=[]) #[φ,φ,φ,φ,φ,φ,φ,φ,φ,φ,φ,φ,φ] (by kernel_rfl) rfl rfl trivial (fun hHeld => ?_);refine with_tabW impl_readFields.tab11 impl_readFields.bits11 (fun HT_ HW_ => ?_)
                  generalize wr.drew=w26 at HO_4 HB hHeld ⊢
                  refine ζk (i:=0) (N:=some 37) (v:=?_) (a':=?_) #[τ,φ,φ,φ,φ,φ,φ,φ,φ,φ,φ,φ,φ] rfl rfl (ζj HT_.out (by kernel_rfl)) (fun _ _ _ h=>h) (Or.inl ⟨by rfl,?_⟩) ?_ ?_
                  rotate_left
                  · intro w';go_simp;with_reducible rfl
                  rotate_left
                  · simp only [ζl,δa,δb,δc,i64_w,i32_w];rfl
                  refine ζk (i:=1) (N:=some 38) (v:=?_) (a':=?_) #[τ,τ,φ,φ,φ,φ,φ,φ,φ,φ,φ,φ,φ] rfl rfl (ζj HT_.out (by kernel_rfl)) (fun _ _ _ h=>h) (Or.inl ⟨by rfl,?_⟩) ?_ ?_
                  rotate_left
                  · intro w';go_simp;with_reducible rfl
                  rotate_left
                  · simp only [ζl,δa,δb,δc,i64_w,i32_w];rfl
                  refine ζk (i:=2) (N:=some 39) (v:=?_) (a':=?_) #[τ,τ,τ,φ,φ,φ,φ,φ,φ,φ,φ,φ,φ] rfl rfl (ζj HT_.out (by kernel_rfl)) (fun _ _ _ h=>h) (Or.inl ⟨by rfl,?_⟩) ?_ ?_
                  rotate_left
                  · intro w';go_simp;with_reducible rfl
                  rotate_left
                  · simp only [ζl,δa,δb,δc,i64_w,i32_w];rfl
                  refine ζk (i:=3) (N:=some 40) (v:=?_) (a':=?_) #[τ,τ,τ,τ,φ,φ,φ,φ,φ,φ,φ,φ,φ] rfl rfl (ζj HT_.out (by kernel_rfl)) (fun _ _ _ h=>h) (Or.inl ⟨by rfl,?_⟩) ?_ ?_
                  rotate_left
                  · intro w';go_simp;with_reducible rfl
                  rotate_left
                  · simp only [ζl,δa,δb,δc,i64_w,i32_w];rfl
                  refine ζk (i:=4) (N:=some 41) (v:=?_) (a':=?_) #[τ,τ,τ,τ,τ,φ,φ,φ,φ,φ,φ,φ,φ] rfl rfl (ζj HT_.out (by kernel_rfl)) (fun _ _ _ h=>h) (Or.inl ⟨by rfl,?_⟩) ?_ ?_
                  rotate_left
                  · intro w';go_simp;with_reducible rfl
                  rotate_left
                  · simp only [ζl,δa,δb,δc,i64_w,i32_w];rfl
                  refine ζk (i:=7) (N:=some 44) (v:=?_) (a':=?_) #[τ,τ,τ,τ,τ,φ,φ,τ,φ,φ,φ,φ,φ] rfl rfl (ζj HT_.out (by kernel_rfl)) (fun _ _ _ h=>h) (Or.inl ⟨by rfl,?_⟩) ?_ ?_
                  rotate_left
                  · intro w';go_simp;with_reducible rfl
                  rotate_left
                  · simp only [ζl,δa,δb,δc,i64_w,i32_w];rfl
                  refine ζk (i:=8) (N:=some 45) (v:=?_) (a':=?_) #[τ,τ,τ,τ,τ,φ,φ,τ,τ,φ,φ,φ,φ] rfl rfl (ζj HT_.out (by kernel_rfl)) (fun _ _ _ h=>h) (Or.inl ⟨by rfl,?_⟩) ?_ ?_
                  rotate_left
                  · intro w';go_simp;with_reducible rfl
                  rotate_left
                  · simp only [ζl,δa,δb,δc,i64_w,i32_w];rfl
                  refine ζk (i:=9) (N:=some 46) (v:=?_) (a':=?_) #[τ,τ,τ,τ,τ,φ,φ,τ,τ,τ,φ,φ,φ] rfl rfl (ζj HT_.out (by kernel_rfl)) (fun _ _ _ h=>h) (Or.inl ⟨by rfl,?_⟩) ?_ ?_
                  rotate_left
                  · intro w';go_simp;with_reducible rfl
                  rotate_left
                  · simp only [ζl,δa,δb,δc,i64_w,i32_w];rfl
                  refine ζk (i:=10) (N:=some 47) (v:=?_) (a':=?_) #[τ,τ,τ,τ,τ,φ,φ,τ,τ,τ,τ,φ,φ] rfl rfl (ζj HT_.out (by kernel_rfl)) (fun _ _ _ h=>h) (Or.inl ⟨by rfl,?_⟩) ?_ ?_
                  rotate_left
                  · intro w';go_simp;with_reducible rfl
                  rotate_left
                  · simp only [ζl,δa,δb,δc,i64_w,i32_w];rfl
                  refine one_ (i:=5) (N:=some 42) #[τ,τ,τ,τ,τ,τ,φ,τ,τ,τ,τ,φ,φ] rfl rfl (one_of HT_.out (by kernel_rfl)) (by decide) (fun K hK => ?_)
                  refine value_ (w1:=?_) (v:=?_) (by rfl) rfl ?_ ?_
                  rotate_left 2
                  ·
                   go_simp
                   constructor
                   · rfl
                   ·
                    rfl
                  refine hK.out _ _ trivial (fun hHeld => ?_)
                  clear hK K
                  refine norm_ (a':=?_) ?_ ?_
                  rotate_left
                  ·
                   show ζl _ (some 42) _=_
                   simp only [ζl,δa,δb,δc,i64_w,i32_w];rfl
                  refine one_ (i:=6) (N:=some 43) #[τ,τ,τ,τ,τ,τ,τ,τ,τ,τ,τ,φ,φ] rfl rfl (one_of HT_.out (by kernel_rfl)) (by decide) (fun K hK => ?_)
                  refine Kd.R_append_step Kd.string (w0:=w) w.heap.size (by rfl) (.tmp 37) (.tmp 42) 75 9 (.string ⟨#[]⟩) 16 rfl Tryz.underlying75 info9 rfl (by decide) (by omega) u4 x4_2 (x5_2.extract 2 ((ji23):Int).toNat) [.string (x5_2.extract 2 ((ji23):Int).toNat)] (fun _=>True) (fun _=>False) rfl rfl ?aP (fun _ hk=>hk.elim) ?aF ?aO ?aB ?aS ?aL ?_
                  (case aP=>exact rfl)
                  (case aB=>exact (by repeat (first|(with_reducible first|exact HB.out|apply δk|apply δi|apply δj)|exact HB.out)))
                  (case aF=>exact (fun _ _=>trivial))
                  (case aO=>exact (by (with_reducible repeat (first|apply ζd|apply ζc|apply ζe));exact HO_4.out))
                  (case aS=>exact (δs (by repeat (first|(with_reducible first|exact HB.out|apply δk|apply δi|apply δj)|exact HB.out))))
                  (case aL=>have:=LMc22.out;omega)
                  intro v355 w27 ho hb hg hat
                  rw [← Ny354.out] at ho
                  have n0_:=ζa (hb)
                  have n1_:=ζa (ho)
                  clear HB
                  clear HO_4
                  have HB:=n0_
                  have HO356:=n1_
                  clear n0_ n1_
                  clear ho hb hg hat
                  refine hK.out _ _ trivial (fun hHeld => ?_)
                  clear hK K
                  refine norm_ (a':=?_) ?_ ?_
                  rotate_left
                  ·
                   show ζl _ (some 43) _=_
                   simp only [ζl,δa,δb,δc,i64_w,i32_w];rfl
                  refine ζk (i:=11) (N:=some 4) (v:=?_) (a':=?_) #[τ,τ,τ,τ,τ,τ,τ,τ,τ,τ,τ,τ,φ] rfl rfl (ζj HT_.out (by kernel_rfl)) (fun _ _ _ h=>h) (Or.inl ⟨by rfl,?_⟩) ?_ ?_
                  rotate_left
                  · intro w';go_simp;with_reducible rfl
                  rotate_left
                  · simp only [ζl,δa,δb,δc,i64_w,i32_w];rfl
                  refine ζk (i:=12) (N:=some 5) (v:=?_) (a':=?_) #[τ,τ,τ,τ,τ,τ,τ,τ,τ,τ,τ,τ,τ] rfl rfl (ζj HT_.out (by kernel_rfl)) (fun _ _ _ h=>h) (Or.inl ⟨by rfl,?_⟩) ?_ ?_
                  rotate_left
                  · intro w';go_simp;with_reducible rfl
                  rotate_left
                  · simp only [ζl,δa,δb,δc,i64_w,i32_w];rfl
                  refine done_ (done_of HT_.out (by kernel_rfl)) ?_
                  try go_wp2
                  go_roundg k2
                  case measure=>have:=HJ1.out;have:=HK2.out;omega
                  case rel=>exact ⟨(y354),(x5_2.extract ((ji23):Int).toNat x5_2.size),(ζm (x20_2+1)),(by first|rfl|(simp;done)|(simp only [← hji23] <;> (first|rfl|simp))|(simp [*];done)),(by first|rfl|(simp;done)|(simp [*];done)),H',⟨by have:=HJ1.out;have:=HK2.out;omega⟩,⟨by (with_reducible repeat (first|apply ζd|apply ζc|apply ζe));exact HO356.out⟩,⟨by repeat (first|(with_reducible first|exact HB.out|apply δk|apply δi|apply δj)|exact HB.out)⟩⟩
                 ·
                  rw [if_neg c24] at H
                  exact absurd H (by simp)
                ·
                 rw [if_neg c22] at H
                 exact absurd H (by simp)
               ·
                rw [if_neg c21] at H
                exact absurd H (by simp)
              ·
               rw [if_neg c20] at H
               exact absurd H (by simp)
           ·
            rw [if_neg c16] at H
            exact absurd H (by simp)
          ·
           rw [if_neg c15] at H
           exact absurd H (by simp)
        ·
         rw [if_neg c13] at H
         have c13b0:decide (x20_2<(ζm (bt a0 0)))=φ:=decide_eq_false c13
         clear c13
         simp only [Option.some.injEq,Prod.mk.injEq] at H
         obtain ⟨rfl,rfl⟩:=H
         go_wp2
         go_ret2
         exact ⟨_,by first|rfl|(simp [errW_none,errW_some] <;> rfl)|(simp [*,errW_none,errW_some] <;> rfl),by (with_reducible repeat (first|apply ζd|apply ζc|apply ζe));exact HO_4.out,by repeat (first|(with_reducible first|exact HB.out|apply δk|apply δi|apply δj)|exact HB.out)⟩
     ·
      rw [if_neg c8] at H
      exact absurd H (by simp)
    ·
     rw [if_neg c7] at H
     exact absurd H (by simp)


open Go.Proofs.YtabmfhnhmoiljaaGreatDoorW.PrintWords renaming gate_dst → δx, box_event → δz, below_step → δr, below_alloc → δk, pw_below_drewN → δi, below_drew1 → δj, below_size → δs, gate_callee → δv, below_set → δq, blk_drewN → δn, blk_drew → δp, blk_alloc → δo, blk_cell → δl, blk_frozen → δm, blk_put → δw, cell_far → δt, add_block → δu
open List renaming map_toArray → δd, map_cons → δe, map_nil → δf, length_drop → δg, length_take → δh, setIfInBounds_toArray → δa, set_cons_zero → δb, set_cons_succ → δc
open Go.Proofs.YtabmfhnhmoiljaaGreatDoorW.PrintWords.Kd renaming R_reads' → ζg, R_alloc → ζd, R_drewN → ζc, R_drew → ζe, R_below → ζh, own_blk → ζb, R_ne → ζf, R_far → ζi

/-! ### impl_takeOf: function 87 -/
def impl_takeOf.j0:Nat→List ByteArray→Bool→Option (ByteArray × ByteArray × ByteArray × Int × Bool)
 | 0,_,_=>none
 | k+1,x4,x26=>if x26=τ then (some ((⟨#[]⟩:ByteArray),(⟨#[]⟩:ByteArray),(⟨#[]⟩:ByteArray),0,φ)) else (if 4<(x4.length:Int) then ((impl_readAmount.f (rdOf ByteArray.empty x4 4)).bind fun bt364=>(if 1<(x4.length:Int) then (if 2<(x4.length:Int) then (if 3<(x4.length:Int) then ((impl_take_isRight.f k (rdOf ByteArray.empty x4 1) (rdOf ByteArray.empty x4 2) (rdOf ByteArray.empty x4 3) bt364.1).bind fun t370=>(some (rdOf ByteArray.empty x4 1,rdOf ByteArray.empty x4 2,rdOf ByteArray.empty x4 3,bt364.1,t370))) else (none)) else (none)) else (none))) else (none))
def impl_takeOf.f (k:Nat) (a0:ByteArray):Option (ByteArray × ByteArray × ByteArray × Int × Bool):=(impl_readFields.f k a0).bind fun bt358=>(if bt358.2=τ then (if (bt358.1.length:Int)=5 then (if 0<(bt358.1.length:Int) then (impl_takeOf.j0 k bt358.1 ((rdOf ByteArray.empty bt358.1 0).toList != ([107]:List UInt8))) else (none)) else (impl_takeOf.j0 k bt358.1 τ)) else (impl_takeOf.j0 k bt358.1 τ))
def impl_takeOf.T5:Bool × List (List Nat × List Nat):=(τ,[([],[]),([0],[0]),([1],[1]),([],[]),([3],[3]),([4],[4]),([],[]),([6],[6]),([7],[7]),([],[]),([2,5,8,9],[2,5,8,9]),([],[]),([11,10,0,1,2,3,4,5,6,7,8,9,10,11],[10,11])])
def impl_takeOf.B5:List Nat:=[0,1,3,0,8,24,0,64,192,0,1023,0,4095]
theorem impl_takeOf.tab5:rtab .any (opsOf Tryz.f87 5)=impl_takeOf.T5:=by kernel_rfl
theorem impl_takeOf.bits5:waitsOk impl_takeOf.T5.2 impl_takeOf.B5=τ:=by kernel_rfl
set_option maxHeartbeats 8000000 in
set_option maxRecDepth 100000 in
theorem impl_takeOf.calls (k:Nat) (a0:ByteArray) (r1:ByteArray) (r2:ByteArray) (r3:ByteArray) (r4:Int) (r5:Bool) (w:World) (hT0:TabsOK w) (h:impl_takeOf.f k a0=some (r1,r2,r3,r4,r5)) :
  Calls Tryz.prog 87 #[.string a0] w fun e w'=>e = .returned (.tuple #[.agg #[.string r1,.string r2,.string r3,.int .i64 r4],.bool r5])∧Below w.heap.size w w':=by
 have HT0:=ζa hT0
 clear hT0
 have hu56:=Tryz.underlying56
 have HB:=ζa (Below.refl w.heap.size w)
 have H:((impl_readFields.f k a0).bind fun bt358=>(if bt358.2=τ then (if (bt358.1.length:Int)=5 then (if 0<(bt358.1.length:Int) then (impl_takeOf.j0 k bt358.1 ((rdOf ByteArray.empty bt358.1 0).toList != ([107]:List UInt8))) else (none)) else (impl_takeOf.j0 k bt358.1 τ)) else (impl_takeOf.j0 k bt358.1 τ)))=some (r1,r2,r3,r4,r5):=h
 clear h
 replace H:=Option.bind_eq_some_iff.mp H
 obtain ⟨⟨t358,t359⟩,A20,H⟩:=H
 replace H:(if t359=τ then (if (t358.length:Int)=5 then (if 0<(t358.length:Int) then (impl_takeOf.j0 k t358 ((rdOf ByteArray.empty t358 0).toList != ([107]:List UInt8))) else (none)) else (impl_takeOf.j0 k t358 τ)) else (impl_takeOf.j0 k t358 τ))=some (r1,r2,r3,r4,r5):=H
 have A2:=ζa A20
 clear A20
 have HC3:=ζa H
 clear H
 go_enter Tryz.func87,Tryz.ntmps87
 go_upto_region 2 with (first|((with_reducible refine δx (N:=2) rfl ?_);(try (refine gate_guard (by rfl) ?_;dsimp only));refine δz ?hg (N:=2) ?hd (cs:=#[.string (⟨#[]⟩:ByteArray),.string (⟨#[]⟩:ByteArray),.string (⟨#[]⟩:ByteArray),.int .i64 0]) (t:=56) ?hr ?_;(case hd=>rfl);(case hg=>rfl);(case hr=>first|(go_simp;done)|(go_simp;rfl));intro gb357 hg w4 hbox hb;have n0_:=ζa (δr (by repeat (first|(with_reducible first|exact HB.out|apply δk|apply δi|apply δj)|exact HB.out)) hb);have n1_:=ζa (hbox);have n2_:=ζa ((by rw [hg];exact (δs (by repeat (first|(with_reducible first|exact HB.out|apply δk|apply δi|apply δj)|exact HB.out))):w.heap.size≤gb357));have n3_:=ζa ((by rw [hg];exact (δs (by repeat (first|(with_reducible first|exact HB.out|apply δk|apply δi|apply δj)|exact HB.out))):w.heap.size≤gb357));clear HB;have HB:=n0_;have BK357:=n1_;have GW357:=n2_;have GE357:=n3_;clear n0_ n1_ n2_ n3_;clear hb hbox hg)|((with_reducible refine δv (f:=150) rfl ?_);refine goesL_ (some 11) rfl rfl Tryz.func150 (by kernel_rfl) rfl #[.string a0] rfl (by (try simp only [δd,δe,δf]);first|done|rfl|(simp only [δg,δh];rfl)) ?_;(with_reducible refine (impl_readFields.calls k a0 t358 t359 _ A2.out).mono ?_);rintro e w5 ⟨v360,rfl,ho0,hb⟩;refine ⟨_,rfl,?_⟩;have n0_:=ζa (Kd.R_lower ho0 (δs (by repeat (first|(with_reducible first|exact HB.out|apply δk|apply δi|apply δj|refine δq ?_ GE357.out)|exact HB.out))));have n1_:=ζa (blk_below (g:=gb357) (o:=.cells #[.string (⟨#[]⟩:ByteArray),.string (⟨#[]⟩:ByteArray),.string (⟨#[]⟩:ByteArray),.int .i64 0] 56 (0,0)) (by (with_reducible repeat (first|refine δn ?_ _|refine δp ?_|refine δo ?_ _));exact BK357.out) hb);have n2_:=ζa (δr (by repeat (first|(with_reducible first|exact HB.out|apply δk|apply δi|apply δj|refine δq ?_ GE357.out)|exact HB.out)) hb);clear BK357;clear HB;have HO361:=n0_;have BK357:=n1_;have HB:=n2_;clear n0_ n1_ n2_;(try clear hb);(try clear hb2);(try clear hk);(try clear hi);(try clear ho0)))
 (try simp only [ζl,δa,δb,δc])
 go_cut [26] (fun v26 wc => ∃ (kq:Nat) (x26_2:Bool),v26 = .bool x26_2∧Aside0 (impl_takeOf.j0 kq t358 x26_2=some (r1,r2,r3,r4,r5))∧Aside0 (kq≤k)∧Aside0 (Kd.R Kd.string 9 wc w.heap.size (fun _=>True) v360 t358)∧Aside0 (wc.heap[gb357]? = some (.cells #[.string (⟨#[]⟩:ByteArray),.string (⟨#[]⟩:ByteArray),.string (⟨#[]⟩:ByteArray),.int .i64 0] 56 (0,0)))∧Aside0 (Below w.heap.size w wc))
 case first =>
  have H:=HC3.out
  clear HC3
  by_cases c6:t359=τ
  ·
   subst c6
   have H1:(if (t358.length:Int)=5 then (if 0<(t358.length:Int) then (impl_takeOf.j0 k t358 ((rdOf ByteArray.empty t358 0).toList != ([107]:List UInt8))) else (none)) else (impl_takeOf.j0 k t358 τ))=some (r1,r2,r3,r4,r5):=by rw [if_pos rfl] at H;exact H
   clear H
   have H:=H1
   clear H1
   by_cases c7:(t358.length:Int)=5
   ·
    rw [if_pos c7] at H
    have c7b0:((t358.length:Int) == 5)=τ:=beq_iff_eq.mpr c7
    have c7b1:((t358.length:Int) != 5)=φ:=bne_eq_false_iff_eq.mpr c7
    clear c7
    (first|rw [c7b0]|(simp only [i64_w,i32_w];rw [c7b0])|skip)
    by_cases c8:0<(t358.length:Int)
    ·
     rw [if_pos c8] at H
     have c8b0:decide (0<(t358.length:Int))=τ:=decide_eq_true c8
     have c8b1:decide (0<t358.length)=τ:=decide_eq_true (by omega)
     clear c8
     have H':=ζa H
     clear H
     obtain ⟨Ao9,co9,eo9⟩:=Kd.R_slice HO361.out
     subst eo9
     have p362:0≤(0:Int):=(by omega)
     have q362:0<(t358.length:Int):=of_decide_eq_true (by first|(with_reducible assumption)|assumption)
     obtain ⟨ad362,e362,hx362_0⟩:=Kd.at_string (ζg HO361.out).2.2 0 p362 q362
     cases e362
     have qi362:(0<t358.length)=True:=eq_true (by omega)
     (try rw [show ((0:Int)).toNat=0 from rfl] at hx362_0)
     (try rw [Addr.add_zero'] at hx362_0)
     replace p362:=eq_true p362
     replace q362:=eq_true q362
     go_wp2
     go_meet
     case rel=>exact ⟨_,(((rdOf ByteArray.empty t358 0).toList != ([107]:List UInt8))),(by first|rfl|(simp;done)|(simp [*];done)),H',⟨by first|omega|exact Nat.le_refl _⟩,⟨by (with_reducible repeat (first|apply ζd|apply ζc|apply ζe));exact HO361.out⟩,⟨by (with_reducible repeat (first|refine δn ?_ _|refine δp ?_|refine δo ?_ _));exact BK357.out⟩,⟨by repeat (first|(with_reducible first|exact HB.out|apply δk|apply δi|apply δj|refine δq ?_ GE357.out)|exact HB.out)⟩⟩
    ·
     rw [if_neg c8] at H
     exact absurd H (by simp)
   ·
    rw [if_neg c7] at H
    have c7b0:((t358.length:Int) == 5)=φ:=beq_eq_false_iff_ne.mpr c7
    have c7b1:((t358.length:Int) != 5)=τ:=bne_iff_ne.mpr c7
    (first|rw [c7b0]|(simp only [i64_w,i32_w];rw [c7b0])|skip)
    have H':=ζa H
    clear H
    obtain ⟨Ao10,co10,eo10⟩:=Kd.R_slice HO361.out
    subst eo10
    go_wp2
    go_meet
    case rel=>exact ⟨_,(τ),(by first|rfl|(simp;done)|(simp [*];done)),H',⟨by first|omega|exact Nat.le_refl _⟩,⟨by (with_reducible repeat (first|apply ζd|apply ζc|apply ζe));exact HO361.out⟩,⟨by (with_reducible repeat (first|refine δn ?_ _|refine δp ?_|refine δo ?_ _));exact BK357.out⟩,⟨by repeat (first|(with_reducible first|exact HB.out|apply δk|apply δi|apply δj|refine δq ?_ GE357.out)|exact HB.out)⟩⟩
  ·
   replace c6:=Bool.eq_false_iff.mpr c6
   subst c6
   have H1:(impl_takeOf.j0 k t358 τ)=some (r1,r2,r3,r4,r5):=by rw [if_neg (show ¬ (φ=τ) by decide)] at H;exact H
   clear H
   have H:=H1
   clear H1
   have H':=ζa H
   clear H
   go_wp2
   go_meet
   case rel=>exact ⟨_,(τ),(by first|rfl|(simp;done)|(simp [*];done)),H',⟨by first|omega|exact Nat.le_refl _⟩,⟨by (with_reducible repeat (first|apply ζd|apply ζc|apply ζe));exact HO361.out⟩,⟨by (with_reducible repeat (first|refine δn ?_ _|refine δp ?_|refine δo ?_ _));exact BK357.out⟩,⟨by repeat (first|(with_reducible first|exact HB.out|apply δk|apply δi|apply δj|refine δq ?_ GE357.out)|exact HB.out)⟩⟩
 case rest =>
  clear HC3
  try clear c1
  try clear p2
  try clear p3
  try clear q3
  try clear hx3
  try clear qi3
  try clear c6
  try clear c7
  try clear c7b0
  try clear c7b1
  try clear c8
  try clear c8b0
  try clear c8b1
  try clear hx362_0
  try clear p362
  try clear q362
  obtain ⟨kq,x26_2,rfl,HA,HJ2,HO_4,BK357,HB⟩:=hcut
  cases kq with
  | zero=>exact absurd HA.out (by simp [impl_takeOf.j0])
  | succ kj2 =>
   have H:=HA.out
   clear HA
   simp only [impl_takeOf.j0] at H
   by_cases c11:x26_2=τ
   ·
    subst c11
    have H1:(some ((⟨#[]⟩:ByteArray),(⟨#[]⟩:ByteArray),(⟨#[]⟩:ByteArray),0,φ))=some (r1,r2,r3,r4,r5):=by rw [if_pos rfl] at H;exact H
    clear H
    have H:=H1
    clear H1
    simp only [Option.some.injEq,Prod.mk.injEq] at H
    obtain ⟨rfl,rfl,rfl,rfl,rfl⟩:=H
    have hcz12_0:wc.cell? ⟨gb357,0,none⟩=some (.string (⟨#[]⟩:ByteArray)):=(δl BK357.out 0).trans rfl
    have hcz12_1:wc.cell? ⟨gb357,1,none⟩=some (.string (⟨#[]⟩:ByteArray)):=(δl BK357.out 1).trans rfl
    have hcz12_2:wc.cell? ⟨gb357,2,none⟩=some (.string (⟨#[]⟩:ByteArray)):=(δl BK357.out 2).trans rfl
    have hcz12_3:wc.cell? ⟨gb357,3,none⟩=some (.int .i64 0):=(δl BK357.out 3).trans rfl
    have hfz12_0:=δm BK357.out 0
    have hfz12_1:=δm BK357.out 1
    have hfz12_2:=δm BK357.out 2
    have hfz12_3:=δm BK357.out 3
    go_wp2
    refine bodyPost_ret (results_ct rfl _ _ gb357 56 #[.string (⟨#[]⟩:ByteArray),.string (⟨#[]⟩:ByteArray),.string (⟨#[]⟩:ByteArray),.int .i64 0] (0,0) _ rfl (by (with_reducible repeat (first|refine δn ?_ _|refine δp ?_|refine δo ?_ _));refine δw (cs:=#[.string (⟨#[]⟩:ByteArray),.string (⟨#[]⟩:ByteArray),.string (⟨#[]⟩:ByteArray),.int .i64 0]) ?_ 3 _ rfl;(with_reducible repeat (first|refine δn ?_ _|refine δp ?_|refine δo ?_ _));refine δw (cs:=#[.string (⟨#[]⟩:ByteArray),.string (⟨#[]⟩:ByteArray),.string (⟨#[]⟩:ByteArray),.int .i64 0]) ?_ 2 _ rfl;(with_reducible repeat (first|refine δn ?_ _|refine δp ?_|refine δo ?_ _));refine δw (cs:=#[.string (⟨#[]⟩:ByteArray),.string (⟨#[]⟩:ByteArray),.string (⟨#[]⟩:ByteArray),.int .i64 0]) ?_ 1 _ rfl;(with_reducible repeat (first|refine δn ?_ _|refine δp ?_|refine δo ?_ _));refine δw (cs:=#[.string (⟨#[]⟩:ByteArray),.string (⟨#[]⟩:ByteArray),.string (⟨#[]⟩:ByteArray),.int .i64 0]) ?_ 0 _ rfl;(with_reducible repeat (first|refine δn ?_ _|refine δp ?_|refine δo ?_ _));exact BK357.out) Tryz.underlying56 rfl (by kernel_rfl)) rfl ?_
    exact ⟨by first|rfl|(simp [errW_none,errW_some] <;> rfl)|(simp [*,errW_none,errW_some] <;> rfl),by repeat (first|(with_reducible first|exact HB.out|apply δk|apply δi|apply δj|refine δq ?_ GE357.out)|exact HB.out)⟩
   ·
    replace c11:=Bool.eq_false_iff.mpr c11
    subst c11
    have H1:(if 4<(t358.length:Int) then ((impl_readAmount.f (rdOf ByteArray.empty t358 4)).bind fun bt364=>(if 1<(t358.length:Int) then (if 2<(t358.length:Int) then (if 3<(t358.length:Int) then ((impl_take_isRight.f kj2 (rdOf ByteArray.empty t358 1) (rdOf ByteArray.empty t358 2) (rdOf ByteArray.empty t358 3) bt364.1).bind fun t370=>(some (rdOf ByteArray.empty t358 1,rdOf ByteArray.empty t358 2,rdOf ByteArray.empty t358 3,bt364.1,t370))) else (none)) else (none)) else (none))) else (none))=some (r1,r2,r3,r4,r5):=by rw [if_neg (show ¬ (φ=τ) by decide)] at H;exact H
    clear H
    have H:=H1
    clear H1
    by_cases c13:4<(t358.length:Int)
    ·
     rw [if_pos c13] at H
     have c13b0:decide (4<(t358.length:Int))=τ:=decide_eq_true c13
     have c13b1:decide (4<t358.length)=τ:=decide_eq_true (by omega)
     clear c13
     replace H:=Option.bind_eq_some_iff.mp H
     obtain ⟨⟨t364,t365⟩,A140,H⟩:=H
     replace H:(if 1<(t358.length:Int) then (if 2<(t358.length:Int) then (if 3<(t358.length:Int) then ((impl_take_isRight.f kj2 (rdOf ByteArray.empty t358 1) (rdOf ByteArray.empty t358 2) (rdOf ByteArray.empty t358 3) t364).bind fun t370=>(some (rdOf ByteArray.empty t358 1,rdOf ByteArray.empty t358 2,rdOf ByteArray.empty t358 3,t364,t370))) else (none)) else (none)) else (none))=some (r1,r2,r3,r4,r5):=H
     have A14:=ζa A140
     clear A140
     by_cases c15:1<(t358.length:Int)
     ·
      rw [if_pos c15] at H
      have c15b0:decide (1<(t358.length:Int))=τ:=decide_eq_true c15
      have c15b1:decide (1<t358.length)=τ:=decide_eq_true (by omega)
      clear c15
      by_cases c16:2<(t358.length:Int)
      ·
       rw [if_pos c16] at H
       have c16b0:decide (2<(t358.length:Int))=τ:=decide_eq_true c16
       have c16b1:decide (2<t358.length)=τ:=decide_eq_true (by omega)
       clear c16
       by_cases c17:3<(t358.length:Int)
       ·
        rw [if_pos c17] at H
        have c17b0:decide (3<(t358.length:Int))=τ:=decide_eq_true c17
        have c17b1:decide (3<t358.length)=τ:=decide_eq_true (by omega)
        clear c17
        replace H:=Option.bind_eq_some_iff.mp H
        obtain ⟨t370,A180,H⟩:=H
        replace H:(some (rdOf ByteArray.empty t358 1,rdOf ByteArray.empty t358 2,rdOf ByteArray.empty t358 3,t364,t370))=some (r1,r2,r3,r4,r5):=H
        have A18:=ζa A180
        clear A180
        simp only [Option.some.injEq,Prod.mk.injEq] at H
        obtain ⟨rfl,rfl,rfl,rfl,rfl⟩:=H
        obtain ⟨Ao19,co19,eo19⟩:=Kd.R_slice HO_4.out
        subst eo19
        have p363:0≤(4:Int):=(by omega)
        have q363:4<(t358.length:Int):=of_decide_eq_true (by first|(with_reducible assumption)|assumption)
        obtain ⟨ad363,e363,hx363_0⟩:=Kd.at_string (ζg HO_4.out).2.2 4 p363 q363
        cases e363
        (try simp only [show (4:Int).toNat=4 from rfl,Nat.reduceMul,Nat.reduceEqDiff,Go.Addr.add,↓reduceIte] at hx363_0)
        have qi363:(4<t358.length)=True:=eq_true (by omega)
        (try rw [show ((4:Int)).toNat=4 from rfl] at hx363_0)
        replace p363:=eq_true p363
        replace q363:=eq_true q363
        try go_wp2_with (first|((with_reducible refine δv (f:=151) rfl ?_);refine goesL_ (some 32) rfl rfl Tryz.func151 (by kernel_rfl) rfl #[.string (rdOf ByteArray.empty t358 4)] rfl (by (try simp only [δd,δe,δf]);first|done|rfl|(simp only [δg,δh];rfl)) ?_;(with_reducible refine (impl_readAmount.calls (rdOf ByteArray.empty t358 4) t364 t365 _ (HT0.out.below (by repeat (first|(with_reducible first|exact HB.out|apply δk|apply δi|apply δj|refine δq ?_ GE357.out|refine δq ?_ GE369.out)|exact HB.out))) A14.out).mono ?_);rintro e w20 ⟨rfl,hb⟩;refine ⟨_,rfl,?_⟩;have n0_:=ζa (ζh (by (with_reducible repeat (first|apply ζd|apply ζc|apply ζe));exact HO_4.out) hb);have n1_:=ζa (blk_below (g:=gb357) (o:=.cells #[.string (⟨#[]⟩:ByteArray),.string (⟨#[]⟩:ByteArray),.string (⟨#[]⟩:ByteArray),.int .i64 0] 56 (0,0)) (by (with_reducible repeat (first|refine δn ?_ _|refine δp ?_|refine δo ?_ _));exact BK357.out) hb);have n2_:=ζa (δr (by repeat (first|(with_reducible first|exact HB.out|apply δk|apply δi|apply δj|refine δq ?_ GE357.out)|exact HB.out)) hb);clear HO_4;clear BK357;clear HB;have HO_4:=n0_;have BK357:=n1_;have HB:=n2_;clear n0_ n1_ n2_;(try clear hb);(try clear hb2);(try clear hk);(try clear hi)))
        have n0_:=ζa (ζe HO_4.out)
        have n1_:=ζa (δp BK357.out)
        have n2_:=ζa (δj HB.out)
        clear HO_4
        clear BK357
        clear HB
        have HO_4:=n0_
        have BK357:=n1_
        have HB:=n2_
        clear n0_ n1_ n2_
        have p366:0≤(1:Int):=(by omega)
        have q366:1<(t358.length:Int):=of_decide_eq_true (by first|(with_reducible assumption)|assumption)
        obtain ⟨ad366,e366,hx366_0⟩:=Kd.at_string (ζg HO_4.out).2.2 1 p366 q366
        obtain rfl:ad363=ad366:=(by injection e366)
        (try simp only [show (1:Int).toNat=1 from rfl,Nat.reduceMul,Nat.reduceEqDiff,Go.Addr.add,↓reduceIte] at hx366_0)
        have qi366:(1<t358.length)=True:=eq_true (by omega)
        (try rw [show ((1:Int)).toNat=1 from rfl] at hx366_0)
        replace p366:=eq_true p366
        replace q366:=eq_true q366
        have p367:0≤(2:Int):=(by omega)
        have q367:2<(t358.length:Int):=of_decide_eq_true (by first|(with_reducible assumption)|assumption)
        obtain ⟨ad367,e367,hx367_0⟩:=Kd.at_string (ζg HO_4.out).2.2 2 p367 q367
        obtain rfl:ad363=ad367:=(by injection e367)
        (try simp only [show (2:Int).toNat=2 from rfl,Nat.reduceMul,Nat.reduceEqDiff,Go.Addr.add,↓reduceIte] at hx367_0)
        have qi367:(2<t358.length)=True:=eq_true (by omega)
        (try rw [show ((2:Int)).toNat=2 from rfl] at hx367_0)
        replace p367:=eq_true p367
        replace q367:=eq_true q367
        have p368:0≤(3:Int):=(by omega)
        have q368:3<(t358.length:Int):=of_decide_eq_true (by first|(with_reducible assumption)|assumption)
        obtain ⟨ad368,e368,hx368_0⟩:=Kd.at_string (ζg HO_4.out).2.2 3 p368 q368
        obtain rfl:ad363=ad368:=(by injection e368)
        (try simp only [show (3:Int).toNat=3 from rfl,Nat.reduceMul,Nat.reduceEqDiff,Go.Addr.add,↓reduceIte] at hx368_0)
        have qi368:(3<t358.length)=True:=eq_true (by omega)
        (try rw [show ((3:Int)).toNat=3 from rfl] at hx368_0)
        replace p368:=eq_true p368
        replace q368:=eq_true q368
        refine start_ (n:=13) (S:=fun w'=>w'.cell? ⟨ad363.block,ad363.off+1,none⟩=some (.string (rdOf ByteArray.empty t358 1))∧w'.cell? ⟨ad363.block,ad363.off+2,none⟩=some (.string (rdOf ByteArray.empty t358 2))∧w'.cell? ⟨ad363.block,ad363.off+3,none⟩=some (.string (rdOf ByteArray.empty t358 3))) (ds:=[]) #[φ,φ,φ,φ,φ,φ,φ,φ,φ,φ,φ,φ,φ] (by kernel_rfl) rfl rfl ⟨hx366_0,hx367_0,hx368_0⟩ (fun hHeld => ?_);refine with_tabW impl_takeOf.tab5 impl_takeOf.bits5 (fun HT_ HW_ => ?_)
        generalize w20.drew=w21 at HO_4 BK357 HB hx366_0 hx367_0 hx368_0 hHeld ⊢
        refine ζk (i:=0) (N:=some 35) (v:=?_) (a':=?_) #[τ,φ,φ,φ,φ,φ,φ,φ,φ,φ,φ,φ,φ] rfl rfl (ζj HT_.out (by kernel_rfl)) (fun _ _ _ h=>h) (Or.inl ⟨by rfl,?_⟩) ?_ ?_
        rotate_left
        · intro w';go_simp;with_reducible rfl
        rotate_left
        · simp only [ζl,δa,δb,δc,i64_w,i32_w];rfl
        refine ζk (i:=1) (N:=some 36) (v:=?_) (a':=?_) #[τ,τ,φ,φ,φ,φ,φ,φ,φ,φ,φ,φ,φ] rfl rfl (ζj HT_.out (by kernel_rfl)) (fun _ _ _ h=>h) (Or.inl ⟨by rfl,?_⟩) ?_ ?_
        rotate_left
        · intro w';go_simp;with_reducible rfl
        rotate_left
        · simp only [ζl,δa,δb,δc,i64_w,i32_w];rfl
        refine ζk (i:=3) (N:=some 38) (v:=?_) (a':=?_) #[τ,τ,φ,τ,φ,φ,φ,φ,φ,φ,φ,φ,φ] rfl rfl (ζj HT_.out (by kernel_rfl)) (fun _ _ _ h=>h) (Or.inl ⟨by rfl,?_⟩) ?_ ?_
        rotate_left
        · intro w';go_simp;with_reducible rfl
        rotate_left
        · simp only [ζl,δa,δb,δc,i64_w,i32_w];rfl
        refine ζk (i:=4) (N:=some 39) (v:=?_) (a':=?_) #[τ,τ,φ,τ,τ,φ,φ,φ,φ,φ,φ,φ,φ] rfl rfl (ζj HT_.out (by kernel_rfl)) (fun _ _ _ h=>h) (Or.inl ⟨by rfl,?_⟩) ?_ ?_
        rotate_left
        · intro w';go_simp;with_reducible rfl
        rotate_left
        · simp only [ζl,δa,δb,δc,i64_w,i32_w];rfl
        refine ζk (i:=6) (N:=some 41) (v:=?_) (a':=?_) #[τ,τ,φ,τ,τ,φ,τ,φ,φ,φ,φ,φ,φ] rfl rfl (ζj HT_.out (by kernel_rfl)) (fun _ _ _ h=>h) (Or.inl ⟨by rfl,?_⟩) ?_ ?_
        rotate_left
        · intro w';go_simp;with_reducible rfl
        rotate_left
        · simp only [ζl,δa,δb,δc,i64_w,i32_w];rfl
        refine ζk (i:=7) (N:=some 42) (v:=?_) (a':=?_) #[τ,τ,φ,τ,τ,φ,τ,τ,φ,φ,φ,φ,φ] rfl rfl (ζj HT_.out (by kernel_rfl)) (fun _ _ _ h=>h) (Or.inl ⟨by rfl,?_⟩) ?_ ?_
        rotate_left
        · intro w';go_simp;with_reducible rfl
        rotate_left
        · simp only [ζl,δa,δb,δc,i64_w,i32_w];rfl
        refine ζk (i:=9) (N:=some 44) (v:=?_) (a':=?_) #[τ,τ,φ,τ,τ,φ,τ,τ,φ,τ,φ,φ,φ] rfl rfl (ζj HT_.out (by kernel_rfl)) (fun _ _ _ h=>h) (Or.inl ⟨by rfl,?_⟩) ?_ ?_
        rotate_left
        · intro w';go_simp;with_reducible rfl
        rotate_left
        · simp only [ζl,δa,δb,δc,i64_w,i32_w];rfl
        refine take_ (i:=2) (N:=some 37) (v:=?_) (a':=?_) #[τ,τ,τ,τ,τ,φ,τ,τ,φ,τ,φ,φ,φ] rfl rfl (take_ofW HT_.out HW_.out (by kernel_rfl)) (fun _ _ _ h=>h) (Or.inl ⟨by rfl,?_⟩) hHeld ?_ ?_
        rotate_left
        · rintro w' ⟨s0,s1,s2⟩;go_simp;with_reducible rfl
        rotate_left
        · simp only [ζl,δa,δb,δc,i64_w,i32_w];rfl
        refine take_ (i:=5) (N:=some 40) (v:=?_) (a':=?_) #[τ,τ,τ,τ,τ,τ,τ,τ,φ,τ,φ,φ,φ] rfl rfl (take_ofW HT_.out HW_.out (by kernel_rfl)) (fun _ _ _ h=>h) (Or.inl ⟨by rfl,?_⟩) hHeld ?_ ?_
        rotate_left
        · rintro w' ⟨s0,s1,s2⟩;go_simp;with_reducible rfl
        rotate_left
        · simp only [ζl,δa,δb,δc,i64_w,i32_w];rfl
        refine take_ (i:=8) (N:=some 43) (v:=?_) (a':=?_) #[τ,τ,τ,τ,τ,τ,τ,τ,τ,τ,φ,φ,φ] rfl rfl (take_ofW HT_.out HW_.out (by kernel_rfl)) (fun _ _ _ h=>h) (Or.inl ⟨by rfl,?_⟩) hHeld ?_ ?_
        rotate_left
        · rintro w' ⟨s0,s1,s2⟩;go_simp;with_reducible rfl
        rotate_left
        · simp only [ζl,δa,δb,δc,i64_w,i32_w];rfl
        refine ζk (i:=10) (N:=some 45) (v:=?_) (a':=?_) #[τ,τ,τ,τ,τ,τ,τ,τ,τ,τ,τ,φ,φ] rfl rfl (ζj HT_.out (by kernel_rfl)) (fun _ _ _ h=>h) (Or.inl ⟨by rfl,?_⟩) ?_ ?_
        rotate_left
        · intro w';go_simp;with_reducible rfl
        rotate_left
        · simp only [ζl,δa,δb,δc,i64_w,i32_w];rfl
        refine one_ (i:=11) (N:=some 8) #[τ,τ,τ,τ,τ,τ,τ,τ,τ,τ,τ,τ,φ] rfl rfl (one_of HT_.out (by kernel_rfl)) (by decide) (fun K hK => ?_)
        refine box_step ?hg (N:=8) ?hd (cs:=#[.string (⟨#[]⟩:ByteArray),.string (⟨#[]⟩:ByteArray),.string (⟨#[]⟩:ByteArray),.int .i64 0]) (t:=56) ?hr ?_;(case hd=>rfl);(case hg=>rfl);(case hr=>first|(go_simp;done)|(go_simp;rfl))
        intro gb369 hg w22 hbox hb
        have HS0_:=(hb.cell (World.block_lt_of_cell? _ _ (hHeld.1))).trans (hHeld.1)
        have HS1_:=(hb.cell (World.block_lt_of_cell? _ _ (hHeld.2.1))).trans (hHeld.2.1)
        have HS2_:=(hb.cell (World.block_lt_of_cell? _ _ (hHeld.2.2))).trans (hHeld.2.2)
        have n0_:=ζa (ζh (by (with_reducible repeat (first|apply ζd|apply ζc|apply ζe));exact HO_4.out) hb)
        have n1_:=ζa (blk_below (g:=gb357) (o:=.cells #[.string (⟨#[]⟩:ByteArray),.string (⟨#[]⟩:ByteArray),.string (⟨#[]⟩:ByteArray),.int .i64 0] 56 (0,0)) (by (with_reducible repeat (first|refine δn ?_ _|refine δp ?_|refine δo ?_ _));exact BK357.out) hb)
        have n2_:=ζa (δr (by repeat (first|(with_reducible first|exact HB.out|apply δk|apply δi|apply δj|refine δq ?_ GE357.out)|exact HB.out)) hb)
        have n3_:=ζa (hbox)
        have n4_:=ζa ((by rw [hg];exact (δs (by repeat (first|(with_reducible first|exact HB.out|apply δk|apply δi|apply δj|refine δq ?_ GE357.out)|exact HB.out))):w.heap.size≤gb369))
        have n5_:=ζa ((by rw [hg];exact (δs (by repeat (first|(with_reducible first|exact HB.out|apply δk|apply δi|apply δj|refine δq ?_ GE357.out)|exact HB.out))):w.heap.size≤gb369))
        have n6_:=ζa ((by rw [hg];exact Nat.ne_of_lt (blk_lt (g:=gb357) (o:=.cells #[.string (⟨#[]⟩:ByteArray),.string (⟨#[]⟩:ByteArray),.string (⟨#[]⟩:ByteArray),.int .i64 0] 56 (0,0)) (by (with_reducible repeat (first|refine δn ?_ _|refine δp ?_|refine δo ?_ _));exact BK357.out)):gb357≠gb369))
        have n7_:=ζa ((by rw [hg];exact Nat.ne_of_gt (blk_lt (g:=gb357) (o:=.cells #[.string (⟨#[]⟩:ByteArray),.string (⟨#[]⟩:ByteArray),.string (⟨#[]⟩:ByteArray),.int .i64 0] 56 (0,0)) (by (with_reducible repeat (first|refine δn ?_ _|refine δp ?_|refine δo ?_ _));exact BK357.out)):gb369≠gb357))
        clear HO_4
        clear BK357
        clear HB
        have HO_4:=n0_
        have BK357:=n1_
        have HB:=n2_
        have BK369:=n3_
        have GW369:=n4_
        have GE369:=n5_
        have NB357_369:=n6_
        have NB369_357:=n7_
        clear n0_ n1_ n2_ n3_ n4_ n5_ n6_ n7_
        clear hb hbox hg
        refine hK.out _ _ ⟨HS0_,HS1_,HS2_⟩ (fun hHeld => ?_)
        clear hK K
        refine norm_ (a':=?_) ?_ ?_
        rotate_left
        ·
         show ζl _ (some 8) _=_
         simp only [ζl,δa,δb,δc,i64_w,i32_w];rfl
        refine one_ (i:=12) (N:=none) #[τ,τ,τ,τ,τ,τ,τ,τ,τ,τ,τ,τ,τ] rfl rfl (one_of HT_.out (by kernel_rfl)) (by decide) (fun K hK => ?_)
        have hs23:w22.cell? ⟨gb369,0,none⟩=some (.string (⟨#[]⟩:ByteArray)):=(δl BK369.out 0).trans rfl
        have hfs23:=δm BK369.out 0
        have hns23_0:=NB357_369.out
        have hms23_0:=NB369_357.out
        have hs24:w22.cell? ⟨gb369,1,none⟩=some (.string (⟨#[]⟩:ByteArray)):=(δl BK369.out 1).trans rfl
        have hfs24:=δm BK369.out 1
        have hns24_0:=NB357_369.out
        have hms24_0:=NB369_357.out
        have hs25:w22.cell? ⟨gb369,2,none⟩=some (.string (⟨#[]⟩:ByteArray)):=(δl BK369.out 2).trans rfl
        have hfs25:=δm BK369.out 2
        have hns25_0:=NB357_369.out
        have hms25_0:=NB369_357.out
        have hs26:w22.cell? ⟨gb369,3,none⟩=some (.int .i64 0):=(δl BK369.out 3).trans rfl
        have hfs26:=δm BK369.out 3
        have hns26_0:=NB357_369.out
        have hms26_0:=NB369_357.out
        refine skip_ (w1:=?_) (by rfl) rfl ?_ ?_
        rotate_left
        ·
         go_simp
         rfl
        refine hK.out _ _ ⟨((δt (p:=⟨gb369,_,none⟩) (by first|exact ζb (ζf HO_4.out BK369.out (by decide))|(rw [δu];exact ζb (ζf HO_4.out BK369.out (by decide)))|(show (Addr.add _ _).block≠_;rw [δu];exact ζb (ζf HO_4.out BK369.out (by decide)))|(dsimp only;exact ζb (ζf HO_4.out BK369.out (by decide)))) _).trans (((δt (p:=⟨gb369,_,none⟩) (by first|exact ζb (ζf HO_4.out BK369.out (by decide))|(rw [δu];exact ζb (ζf HO_4.out BK369.out (by decide)))|(show (Addr.add _ _).block≠_;rw [δu];exact ζb (ζf HO_4.out BK369.out (by decide)))|(dsimp only;exact ζb (ζf HO_4.out BK369.out (by decide)))) _).trans (((δt (p:=⟨gb369,_,none⟩) (by first|exact ζb (ζf HO_4.out BK369.out (by decide))|(rw [δu];exact ζb (ζf HO_4.out BK369.out (by decide)))|(show (Addr.add _ _).block≠_;rw [δu];exact ζb (ζf HO_4.out BK369.out (by decide)))|(dsimp only;exact ζb (ζf HO_4.out BK369.out (by decide)))) _).trans (((δt (p:=⟨gb369,_,none⟩) (by first|exact ζb (ζf HO_4.out BK369.out (by decide))|(rw [δu];exact ζb (ζf HO_4.out BK369.out (by decide)))|(show (Addr.add _ _).block≠_;rw [δu];exact ζb (ζf HO_4.out BK369.out (by decide)))|(dsimp only;exact ζb (ζf HO_4.out BK369.out (by decide)))) _).trans (hHeld.1)))))))),((δt (p:=⟨gb369,_,none⟩) (by first|exact ζb (ζf HO_4.out BK369.out (by decide))|(rw [δu];exact ζb (ζf HO_4.out BK369.out (by decide)))|(show (Addr.add _ _).block≠_;rw [δu];exact ζb (ζf HO_4.out BK369.out (by decide)))|(dsimp only;exact ζb (ζf HO_4.out BK369.out (by decide)))) _).trans (((δt (p:=⟨gb369,_,none⟩) (by first|exact ζb (ζf HO_4.out BK369.out (by decide))|(rw [δu];exact ζb (ζf HO_4.out BK369.out (by decide)))|(show (Addr.add _ _).block≠_;rw [δu];exact ζb (ζf HO_4.out BK369.out (by decide)))|(dsimp only;exact ζb (ζf HO_4.out BK369.out (by decide)))) _).trans (((δt (p:=⟨gb369,_,none⟩) (by first|exact ζb (ζf HO_4.out BK369.out (by decide))|(rw [δu];exact ζb (ζf HO_4.out BK369.out (by decide)))|(show (Addr.add _ _).block≠_;rw [δu];exact ζb (ζf HO_4.out BK369.out (by decide)))|(dsimp only;exact ζb (ζf HO_4.out BK369.out (by decide)))) _).trans (((δt (p:=⟨gb369,_,none⟩) (by first|exact ζb (ζf HO_4.out BK369.out (by decide))|(rw [δu];exact ζb (ζf HO_4.out BK369.out (by decide)))|(show (Addr.add _ _).block≠_;rw [δu];exact ζb (ζf HO_4.out BK369.out (by decide)))|(dsimp only;exact ζb (ζf HO_4.out BK369.out (by decide)))) _).trans (hHeld.2.1)))))))),((δt (p:=⟨gb369,_,none⟩) (by first|exact ζb (ζf HO_4.out BK369.out (by decide))|(rw [δu];exact ζb (ζf HO_4.out BK369.out (by decide)))|(show (Addr.add _ _).block≠_;rw [δu];exact ζb (ζf HO_4.out BK369.out (by decide)))|(dsimp only;exact ζb (ζf HO_4.out BK369.out (by decide)))) _).trans (((δt (p:=⟨gb369,_,none⟩) (by first|exact ζb (ζf HO_4.out BK369.out (by decide))|(rw [δu];exact ζb (ζf HO_4.out BK369.out (by decide)))|(show (Addr.add _ _).block≠_;rw [δu];exact ζb (ζf HO_4.out BK369.out (by decide)))|(dsimp only;exact ζb (ζf HO_4.out BK369.out (by decide)))) _).trans (((δt (p:=⟨gb369,_,none⟩) (by first|exact ζb (ζf HO_4.out BK369.out (by decide))|(rw [δu];exact ζb (ζf HO_4.out BK369.out (by decide)))|(show (Addr.add _ _).block≠_;rw [δu];exact ζb (ζf HO_4.out BK369.out (by decide)))|(dsimp only;exact ζb (ζf HO_4.out BK369.out (by decide)))) _).trans (((δt (p:=⟨gb369,_,none⟩) (by first|exact ζb (ζf HO_4.out BK369.out (by decide))|(rw [δu];exact ζb (ζf HO_4.out BK369.out (by decide)))|(show (Addr.add _ _).block≠_;rw [δu];exact ζb (ζf HO_4.out BK369.out (by decide)))|(dsimp only;exact ζb (ζf HO_4.out BK369.out (by decide)))) _).trans (hHeld.2.2))))))))⟩ (fun hHeld => ?_)
        clear hK K
        refine done_ (done_of HT_.out (by kernel_rfl)) ?_
        try go_wp2
        have n0_:Aside0 (Kd.R Kd.string 9 ((((w22.setCell ⟨gb369,0,none⟩ (.string (rdOf ByteArray.empty t358 1))).setCell ⟨gb369,1,none⟩ (.string (rdOf ByteArray.empty t358 2))).setCell ⟨gb369,2,none⟩ (.string (rdOf ByteArray.empty t358 3))).setCell ⟨gb369,3,none⟩ (.int .i64 t364)) w.heap.size (fun _=>True) (.slice (some ad363) t358.length co19) t358):=⟨by (with_reducible repeat (first|apply ζd|apply ζc|apply ζe));exact Kd.R_mono (ζi (p:=⟨gb369,3,none⟩) (ζi (p:=⟨gb369,2,none⟩) (ζi (p:=⟨gb369,1,none⟩) (ζi (p:=⟨gb369,0,none⟩) (Kd.R_types HO_4.out BK369.out (by decide)) (fun _ hk=>hk.2) (.string (rdOf ByteArray.empty t358 1))) (fun _ hk=>hk.2) (.string (rdOf ByteArray.empty t358 2))) (fun _ hk=>hk.2) (.string (rdOf ByteArray.empty t358 3))) (fun _ hk=>hk.2) (.int .i64 t364)) (fun _ hk=>trivial)⟩
        have n1_:Aside0 (((((w22.setCell ⟨gb369,0,none⟩ (.string (rdOf ByteArray.empty t358 1))).setCell ⟨gb369,1,none⟩ (.string (rdOf ByteArray.empty t358 2))).setCell ⟨gb369,2,none⟩ (.string (rdOf ByteArray.empty t358 3))).setCell ⟨gb369,3,none⟩ (.int .i64 t364)).heap[gb357]? = some (.cells #[.string (⟨#[]⟩:ByteArray),.string (⟨#[]⟩:ByteArray),.string (⟨#[]⟩:ByteArray),.int .i64 0] 56 (0,0))):=⟨by (with_reducible repeat (first|refine δn ?_ _|refine δp ?_|refine δo ?_ _));refine blk_far ?_ NB357_369.out _;(with_reducible repeat (first|refine δn ?_ _|refine δp ?_|refine δo ?_ _));refine blk_far ?_ NB357_369.out _;(with_reducible repeat (first|refine δn ?_ _|refine δp ?_|refine δo ?_ _));refine blk_far ?_ NB357_369.out _;(with_reducible repeat (first|refine δn ?_ _|refine δp ?_|refine δo ?_ _));refine blk_far ?_ NB357_369.out _;(with_reducible repeat (first|refine δn ?_ _|refine δp ?_|refine δo ?_ _));exact BK357.out⟩
        have n2_:Aside0 (((((w22.setCell ⟨gb369,0,none⟩ (.string (rdOf ByteArray.empty t358 1))).setCell ⟨gb369,1,none⟩ (.string (rdOf ByteArray.empty t358 2))).setCell ⟨gb369,2,none⟩ (.string (rdOf ByteArray.empty t358 3))).setCell ⟨gb369,3,none⟩ (.int .i64 t364)).heap[gb369]? = some (.cells #[.string (rdOf ByteArray.empty t358 1),.string (rdOf ByteArray.empty t358 2),.string (rdOf ByteArray.empty t358 3),.int .i64 t364] 56 (0,0))):=⟨by (with_reducible repeat (first|refine δn ?_ _|refine δp ?_|refine δo ?_ _));refine δw (cs:=#[.string (rdOf ByteArray.empty t358 1),.string (rdOf ByteArray.empty t358 2),.string (rdOf ByteArray.empty t358 3),.int .i64 0]) ?_ 3 _ rfl;(with_reducible repeat (first|refine δn ?_ _|refine δp ?_|refine δo ?_ _));refine δw (cs:=#[.string (rdOf ByteArray.empty t358 1),.string (rdOf ByteArray.empty t358 2),.string (⟨#[]⟩:ByteArray),.int .i64 0]) ?_ 2 _ rfl;(with_reducible repeat (first|refine δn ?_ _|refine δp ?_|refine δo ?_ _));refine δw (cs:=#[.string (rdOf ByteArray.empty t358 1),.string (⟨#[]⟩:ByteArray),.string (⟨#[]⟩:ByteArray),.int .i64 0]) ?_ 1 _ rfl;(with_reducible repeat (first|refine δn ?_ _|refine δp ?_|refine δo ?_ _));refine δw (cs:=#[.string (⟨#[]⟩:ByteArray),.string (⟨#[]⟩:ByteArray),.string (⟨#[]⟩:ByteArray),.int .i64 0]) ?_ 0 _ rfl;(with_reducible repeat (first|refine δn ?_ _|refine δp ?_|refine δo ?_ _));exact BK369.out⟩
        have n3_:Aside0 (Below w.heap.size w ((((w22.setCell ⟨gb369,0,none⟩ (.string (rdOf ByteArray.empty t358 1))).setCell ⟨gb369,1,none⟩ (.string (rdOf ByteArray.empty t358 2))).setCell ⟨gb369,2,none⟩ (.string (rdOf ByteArray.empty t358 3))).setCell ⟨gb369,3,none⟩ (.int .i64 t364))):=⟨by repeat (first|(with_reducible first|exact HB.out|apply δk|apply δi|apply δj|refine δq ?_ GE357.out|refine δq ?_ GE369.out)|exact HB.out)⟩
        (try clear HO_4)
        (try clear BK357)
        (try clear BK369)
        (try clear HB)
        generalize ((((w22.setCell ⟨gb369,0,none⟩ (.string (rdOf ByteArray.empty t358 1))).setCell ⟨gb369,1,none⟩ (.string (rdOf ByteArray.empty t358 2))).setCell ⟨gb369,2,none⟩ (.string (rdOf ByteArray.empty t358 3))).setCell ⟨gb369,3,none⟩ (.int .i64 t364))=w27 at n0_ n1_ n2_ n3_ ⊢
        have HO_4:=n0_
        have BK357:=n1_
        have BK369:=n2_
        have HB:=n3_
        clear n0_ n1_ n2_ n3_
        have n0_:=ζa (ζe HO_4.out)
        have n1_:=ζa (δp BK357.out)
        have n2_:=ζa (δp BK369.out)
        have n3_:=ζa (δj HB.out)
        clear HO_4
        clear BK357
        clear BK369
        clear HB
        have HO_4:=n0_
        have BK357:=n1_
        have BK369:=n2_
        have HB:=n3_
        clear n0_ n1_ n2_ n3_
        refine start_ (n:=5) (S:=fun w'=>w'.cell? ⟨gb369,0,none⟩=some (.string (rdOf ByteArray.empty t358 1))∧w'.cell? ⟨gb369,1,none⟩=some (.string (rdOf ByteArray.empty t358 2))∧w'.cell? ⟨gb369,2,none⟩=some (.string (rdOf ByteArray.empty t358 3))∧w'.cell? ⟨gb369,3,none⟩=some (.int .i64 t364)) (ds:=[]) #[φ,φ,φ,φ,φ] (by kernel_rfl) rfl rfl ⟨(δl BK369.out 0).trans rfl,(δl BK369.out 1).trans rfl,(δl BK369.out 2).trans rfl,(δl BK369.out 3).trans rfl⟩ (fun hHeld => ?_)
        generalize w27.drew=w28 at HO_4 BK357 BK369 HB hHeld ⊢
        refine take_ (i:=0) (N:=some 46) (v:=?_) (a':=?_) #[τ,φ,φ,φ,φ] rfl rfl (by kernel_rfl) (fun _ _ _ h=>h) (Or.inl ⟨by rfl,?_⟩) hHeld ?_ ?_
        rotate_left
        · rintro w' ⟨s0,s1,s2,s3⟩;go_simp;with_reducible rfl
        rotate_left
        · simp only [ζl,δa,δb,δc,i64_w,i32_w];rfl
        refine take_ (i:=1) (N:=some 47) (v:=?_) (a':=?_) #[τ,τ,φ,φ,φ] rfl rfl (by kernel_rfl) (fun _ _ _ h=>h) (Or.inl ⟨by rfl,?_⟩) hHeld ?_ ?_
        rotate_left
        · rintro w' ⟨s0,s1,s2,s3⟩;go_simp;with_reducible rfl
        rotate_left
        · simp only [ζl,δa,δb,δc,i64_w,i32_w];rfl
        refine one_ (i:=2) (N:=some 48) #[τ,τ,τ,φ,φ] rfl rfl (by kernel_rfl) (by decide) (fun K hK => ?_)
        refine goes_ Tryz.func82 (by kernel_rfl) rfl #[.agg #[.string (rdOf ByteArray.empty t358 1),.string (rdOf ByteArray.empty t358 2),.string (rdOf ByteArray.empty t358 3),.int .i64 t364]] (by rfl) rfl rfl (by (try simp only [δd,δe,δf]);first|done|rfl|(simp only [δg,δh];rfl)) ?_
        with_reducible refine (impl_take_isRight.calls kj2 (rdOf ByteArray.empty t358 1) (rdOf ByteArray.empty t358 2) (rdOf ByteArray.empty t358 3) t364 t370 _ A18.out).mono ?_
        rintro e w29 ⟨rfl,hb⟩
        refine ⟨_,rfl,?_⟩
        have n0_:=ζa (ζh (by (with_reducible repeat (first|apply ζd|apply ζc|apply ζe));exact HO_4.out) hb)
        have n1_:=ζa (blk_below (g:=gb357) (o:=.cells #[.string (⟨#[]⟩:ByteArray),.string (⟨#[]⟩:ByteArray),.string (⟨#[]⟩:ByteArray),.int .i64 0] 56 (0,0)) (by (with_reducible repeat (first|refine δn ?_ _|refine δp ?_|refine δo ?_ _));exact BK357.out) hb)
        have n2_:=ζa (blk_below (g:=gb369) (o:=.cells #[.string (rdOf ByteArray.empty t358 1),.string (rdOf ByteArray.empty t358 2),.string (rdOf ByteArray.empty t358 3),.int .i64 t364] 56 (0,0)) (by (with_reducible repeat (first|refine δn ?_ _|refine δp ?_|refine δo ?_ _));exact BK369.out) hb)
        have n3_:=ζa (δr (by repeat (first|(with_reducible first|exact HB.out|apply δk|apply δi|apply δj|refine δq ?_ GE357.out|refine δq ?_ GE369.out)|exact HB.out)) hb)
        clear HO_4
        clear BK357
        clear BK369
        clear HB
        have HO_4:=n0_
        have BK357:=n1_
        have BK369:=n2_
        have HB:=n3_
        clear n0_ n1_ n2_ n3_
        (try clear hb)
        (try clear hb2)
        (try clear hk)
        (try clear hi)
        refine hK.out _ _ ⟨(δl BK369.out 0).trans rfl,(δl BK369.out 1).trans rfl,(δl BK369.out 2).trans rfl,(δl BK369.out 3).trans rfl⟩ (fun hHeld => ?_)
        clear hK K
        refine norm_ (a':=?_) ?_ ?_
        rotate_left
        ·
         show ζl _ (some 48) _=_
         simp only [ζl,δa,δb,δc,i64_w,i32_w];rfl
        refine one_ (i:=3) (N:=none) #[τ,τ,τ,τ,φ] rfl rfl (by kernel_rfl) (by decide) (fun K hK => ?_)
        have hs30:w29.cell? ⟨gb357,0,none⟩=some (.string (⟨#[]⟩:ByteArray)):=(δl BK357.out 0).trans rfl
        have hfs30:=δm BK357.out 0
        have hns30_1:=NB369_357.out
        have hms30_1:=NB357_369.out
        have hs31:w29.cell? ⟨gb357,1,none⟩=some (.string (⟨#[]⟩:ByteArray)):=(δl BK357.out 1).trans rfl
        have hfs31:=δm BK357.out 1
        have hns31_1:=NB369_357.out
        have hms31_1:=NB357_369.out
        have hs32:w29.cell? ⟨gb357,2,none⟩=some (.string (⟨#[]⟩:ByteArray)):=(δl BK357.out 2).trans rfl
        have hfs32:=δm BK357.out 2
        have hns32_1:=NB369_357.out
        have hms32_1:=NB357_369.out
        have hs33:w29.cell? ⟨gb357,3,none⟩=some (.int .i64 0):=(δl BK357.out 3).trans rfl
        have hfs33:=δm BK357.out 3
        have hns33_1:=NB369_357.out
        have hms33_1:=NB357_369.out
        refine skip_ (w1:=?_) (by rfl) rfl ?_ ?_
        rotate_left
        ·
         go_simp
         rfl
        refine hK.out _ _ ⟨((δt (p:=⟨gb357,_,none⟩) NB369_357.out _).trans (((δt (p:=⟨gb357,_,none⟩) NB369_357.out _).trans (((δt (p:=⟨gb357,_,none⟩) NB369_357.out _).trans (((δt (p:=⟨gb357,_,none⟩) NB369_357.out _).trans (hHeld.1)))))))),((δt (p:=⟨gb357,_,none⟩) NB369_357.out _).trans (((δt (p:=⟨gb357,_,none⟩) NB369_357.out _).trans (((δt (p:=⟨gb357,_,none⟩) NB369_357.out _).trans (((δt (p:=⟨gb357,_,none⟩) NB369_357.out _).trans (hHeld.2.1)))))))),((δt (p:=⟨gb357,_,none⟩) NB369_357.out _).trans (((δt (p:=⟨gb357,_,none⟩) NB369_357.out _).trans (((δt (p:=⟨gb357,_,none⟩) NB369_357.out _).trans (((δt (p:=⟨gb357,_,none⟩) NB369_357.out _).trans (hHeld.2.2.1)))))))),((δt (p:=⟨gb357,_,none⟩) NB369_357.out _).trans (((δt (p:=⟨gb357,_,none⟩) NB369_357.out _).trans (((δt (p:=⟨gb357,_,none⟩) NB369_357.out _).trans (((δt (p:=⟨gb357,_,none⟩) NB369_357.out _).trans (hHeld.2.2.2))))))))⟩ (fun hHeld => ?_)
        clear hK K
        refine ζk (i:=4) (N:=some 3) (v:=?_) (a':=?_) #[τ,τ,τ,τ,τ] rfl rfl (by kernel_rfl) (fun _ _ _ h=>h) (Or.inl ⟨by rfl,?_⟩) ?_ ?_
        rotate_left
        · intro w';go_simp;with_reducible rfl
        rotate_left
        · simp only [ζl,δa,δb,δc,i64_w,i32_w];rfl
        refine done_ (by kernel_rfl) ?_
        try go_wp2
        refine bodyPost_ret (results_ct rfl _ _ gb357 56 #[.string (rdOf ByteArray.empty t358 1),.string (rdOf ByteArray.empty t358 2),.string (rdOf ByteArray.empty t358 3),.int .i64 t364] (0,0) _ rfl (by (with_reducible repeat (first|refine δn ?_ _|refine δp ?_|refine δo ?_ _));refine δw (cs:=#[.string (rdOf ByteArray.empty t358 1),.string (rdOf ByteArray.empty t358 2),.string (rdOf ByteArray.empty t358 3),.int .i64 0]) ?_ 3 _ rfl;(with_reducible repeat (first|refine δn ?_ _|refine δp ?_|refine δo ?_ _));refine δw (cs:=#[.string (rdOf ByteArray.empty t358 1),.string (rdOf ByteArray.empty t358 2),.string (⟨#[]⟩:ByteArray),.int .i64 0]) ?_ 2 _ rfl;(with_reducible repeat (first|refine δn ?_ _|refine δp ?_|refine δo ?_ _));refine δw (cs:=#[.string (rdOf ByteArray.empty t358 1),.string (⟨#[]⟩:ByteArray),.string (⟨#[]⟩:ByteArray),.int .i64 0]) ?_ 1 _ rfl;(with_reducible repeat (first|refine δn ?_ _|refine δp ?_|refine δo ?_ _));refine δw (cs:=#[.string (⟨#[]⟩:ByteArray),.string (⟨#[]⟩:ByteArray),.string (⟨#[]⟩:ByteArray),.int .i64 0]) ?_ 0 _ rfl;(with_reducible repeat (first|refine δn ?_ _|refine δp ?_|refine δo ?_ _));exact BK357.out) Tryz.underlying56 rfl (by kernel_rfl)) rfl ?_
        exact ⟨by first|rfl|(simp [errW_none,errW_some] <;> rfl)|(simp [*,errW_none,errW_some] <;> rfl),by repeat (first|(with_reducible first|exact HB.out|apply δk|apply δi|apply δj|refine δq ?_ GE357.out|refine δq ?_ GE369.out)|exact HB.out)⟩
       ·
        rw [if_neg c17] at H
        exact absurd H (by simp)
      ·
       rw [if_neg c16] at H
       exact absurd H (by simp)
     ·
      rw [if_neg c15] at H
      exact absurd H (by simp)
    ·
     rw [if_neg c13] at H
     exact absurd H (by simp)


open Go.Proofs.YtabmfhnhmoiljaaGreatDoorW.PrintWords renaming below_alloc → δk, below_drew1 → δj, pw_below_drewN → δi, below_step → δr, gate_dst → δx, box_event → δz, blk_cell → δl, blk_frozen → δm, below_set → δq, blk_put → δw, blk_alloc → δo, blk_drew → δp, blk_drewN → δn
open Go.Proofs.YtabmfhnhmoiljaaGreatDoorW.PrintWords.Kd renaming R_alloc → ζd, R_drew → ζe, R_drewN → ζc
open Bool renaming true → τ

/-! ### impl_doneTake: function 50 -/
def impl_doneTake.f (k:Nat) (name:ByteArray) (list:List S51) (data:ByteArray) (ok:Bool):Option (List S51 × Int) :=
 (impl_takeOf.f k data).bind fun q1=>if q1.2.2.2.2=τ then (if ok=τ then ((impl_move.F k (⟨#[116,97,107,101,115]⟩:ByteArray) q1.2.1 name q1.2.2.2.1 list).bind fun q2=>some (q2.1,q2.2)) else ((impl_move.F k (⟨#[116,97,107,101,115]⟩:ByteArray) q1.2.2.1 name q1.2.2.2.1 list).bind fun q3=>some (q3.1,q3.2))) else ((slices_Clone_impl_Pair_impl_Pair.f list).bind fun q4=>some (q4,3))
set_option maxHeartbeats 4000000 in
set_option maxRecDepth 100000 in
theorem impl_doneTake.calls (k:Nat) (name:ByteArray) (A_list:Option Addr) (c_list:Nat) (list:List S51) (data:ByteArray) (ok:Bool) (r1:List S51) (r2:Int) (w:World) (hr0_list:Kd.C k51 w A_list list.length list) (hc0_list:list.length≤c_list) (hT0:TabsOK w) (h:impl_doneTake.f k name list data ok=some (r1,r2)) :
  Calls Tryz.prog 50 #[.string name,.slice A_list list.length c_list,.string data,.bool ok] w fun e w' => ∃ v0_:Value,e = .returned (.tuple #[v0_,.int .i64 r2])∧Kd.R k51 51 w' w.heap.size (fun _=>True) v0_ r1∧Below w.heap.size w w':=by
 have HR0_list:=ζa hr0_list
 have HC0_list:=ζa hc0_list
 clear hr0_list hc0_list
 have HT0:=ζa hT0
 clear hT0
 have HB0:=ζa (Below.refl w.heap.size w)
 unfold impl_doneTake.f at h
 have HH:=ζa h
 clear h
 go_enter Tryz.func50,Tryz.ntmps50
 have h:=HH.out
 clear HH
 obtain ⟨⟨u0,u1,u2,u3,found⟩,h1_,h⟩:=Option.bind_eq_some_iff.mp h
 have HH:=ζa h
 have H1:=ζa h1_
 clear h h1_
 go_wp2_with fail
 refine (impl_takeOf.calls k data u0 u1 u2 u3 found _ (HT0.out.below (by repeat (first|exact HB0.out|apply δk|apply δj|apply δi))) H1.out).mono ?_
 rintro e w1 ⟨rfl,hb⟩
 have m_:=ζa (δr (by repeat (first|exact HB0.out|apply δk|apply δj|apply δi)) hb)
 clear hb
 have HB1:=m_
 clear m_
 have h:=HH.out
 clear HH
 cases found with
 | true =>
  rw [if_pos rfl] at h
  have HH:=ζa h
  clear h
  have h:=HH.out
  clear HH
  cases ok with
  | true =>
   rw [if_pos rfl] at h
   have HH:=ζa h
   clear h
   go_wp2_with (first|((with_reducible refine δx (N:=10) rfl ?_);refine δz ?hg (N:=10) ?hd (cs:=#[.string (⟨#[]⟩:ByteArray),.string (⟨#[]⟩:ByteArray),.string (⟨#[]⟩:ByteArray),.int .i64 0]) (t:=56) ?hr ?_;(case hd=>rfl);(case hg=>rfl);(case hr=>first|(go_simp;done)|(go_simp;rfl));intro gbt hg w4 hbox hb;have hbc:=δr (show Below w1.heap.size w1 _ from by repeat (first|exact Below.refl _ _|apply δk|apply δj|apply δi)) hb;have GEt:Aside0 (w1.heap.size≤gbt):=⟨by rw [hg];exact Below.size (show Below w1.heap.size w1 _ from by repeat (first|exact Below.refl _ _|apply δk|apply δj|apply δi))⟩;have BKZ:=ζa hbox;have HBZ:=ζa hbc;have hzz:=hbox;clear hb hbc hbox hg;have hzt_0:=(δl BKZ.out 0).trans rfl;have hzt_1:=(δl BKZ.out 1).trans rfl;have hzt_2:=(δl BKZ.out 2).trans rfl;have hzt_3:=(δl BKZ.out 3).trans rfl;have hft_0:=δm BKZ.out 0;have hft_1:=δm BKZ.out 1;have hft_2:=δm BKZ.out 2;have hft_3:=δm BKZ.out 3;clear hzz)|((with_reducible refine gate_store (t:=56) (p:=10) rfl ?_);refine store_event (t:=56) (p:=10) (v:=?vo) (w1:=((((w4.setCell ⟨gbt,0,none⟩ (.string u0)).setCell ⟨gbt,1,none⟩ (.string u1)).setCell ⟨gbt,2,none⟩ (.string u2)).setCell ⟨gbt,3,none⟩ (.int .i64 u3))) ?hg ?ho ?hn ?hr ?_;(case ho=>rfl);(case hg=>rfl);(case hn=>rfl);(case hr=>(go_simp;done));intro w5 hw;have hbc:Below w1.heap.size w1 w5:=(by rw [hw];exact (δq (δq (δq (δq HBZ.out GEt.out) GEt.out) GEt.out) GEt.out));have BKt:Aside0 (w5.heap[gbt]? = some (.cells #[.string u0,.string u1,.string u2,.int .i64 u3] 56 (0,0))):=⟨by rw [hw];exact (δw (δw (δw (δw BKZ.out 0 _ rfl) 1 _ rfl) 2 _ rfl) 3 _ rfl)⟩;have m_:=ζa (δr HB1.out hbc);have HB4:=m_;clear m_;clear hbc hw BKZ HBZ;clear hzt_0 hft_0 hzt_1 hft_1 hzt_2 hft_2 hzt_3 hft_3;have hzt_0:=(δl BKt.out 0).trans rfl;have hzt_1:=(δl BKt.out 1).trans rfl;have hzt_2:=(δl BKt.out 2).trans rfl;have hzt_3:=(δl BKt.out 3).trans rfl;have hft_0:=δm BKt.out 0;have hft_1:=δm BKt.out 1;have hft_2:=δm BKt.out 2;have hft_3:=δm BKt.out 3))
   go_wp2_with fail
   refine (impl_move.calls k ((⟨#[116,97,107,101,115]⟩:ByteArray)) u1 name u3 _ (HT0.out.below (by repeat (first|exact HB4.out|apply δk|apply δj|apply δi)))).mono ?_
   rintro e w6 ⟨g_m,lb_m,rfl,hch,hb⟩
   have m_:=ζa (blk_below (by repeat (first|exact BKt.out|apply δo|apply δp|apply δn)) hb)
   clear BKt
   have BKt:=m_
   clear m_
   clear hzt_0 hft_0 hzt_1 hft_1 hzt_2 hft_2 hzt_3 hft_3
   have m_:=ζa (δr (by repeat (first|exact HB4.out|apply δk|apply δj|apply δi)) hb)
   clear hb
   have HB6:=m_
   clear m_
   have CH_m:=ζa hch
   have eg_m : ∀ args w,(callFunc g_m args).run Tryz.prog w = .ok (.enter g_m args) w:=hch.enters
   clear hch
   have hzt_0:=(δl BKt.out 0).trans rfl
   have hft_0:=δm BKt.out 0
   have hzt_1:=(δl BKt.out 1).trans rfl
   have hft_1:=δm BKt.out 1
   have hzt_2:=(δl BKt.out 2).trans rfl
   have hft_2:=δm BKt.out 2
   have hzt_3:=(δl BKt.out 3).trans rfl
   have hft_3:=δm BKt.out 3
   have h:=HH.out
   clear HH
   obtain ⟨⟨o1,c1⟩,h7_,h⟩:=Option.bind_eq_some_iff.mp h
   have HH:=ζa h
   have H7:=ζa h7_
   clear h h7_
   go_wp2_with fail
   refine (CH_m.out.calls _ A_list c_list list o1 c1 (by repeat (first|exact Below.refl _ _|apply δk|apply δj|apply δi)) (by repeat (first|exact Kd.C_below HR0_list.out HB6.out|apply Kd.C_alloc|apply Kd.C_drew|apply Kd.C_drewN)) HC0_list.out H7.out).mono ?_
   rintro e w7 ⟨v7,rfl,ho,hb⟩
   have m_:=ζa (blk_below (by repeat (first|exact BKt.out|apply δo|apply δp|apply δn)) hb)
   clear BKt
   have BKt:=m_
   clear m_
   clear hzt_0 hft_0 hzt_1 hft_1 hzt_2 hft_2 hzt_3 hft_3
   have ho':=Kd.R_lower ho (Below.size (show Below w.heap.size w _ from by repeat (first|exact HB6.out|apply δk|apply δj|apply δi)))
   obtain ⟨adr7,cap7,rfl,hl7,hq7⟩:=Kd.R_reads ho'
   have HC7:=ζa hl7
   have HRn7:=ζa hq7
   have HOn7:=ζa ho'
   clear hl7 hq7 ho ho'
   have m_:=ζa (δr (by repeat (first|exact HB6.out|apply δk|apply δj|apply δi)) hb)
   clear hb
   have HB7:=m_
   clear m_
   have hzt_0:=(δl BKt.out 0).trans rfl
   have hft_0:=δm BKt.out 0
   have hzt_1:=(δl BKt.out 1).trans rfl
   have hft_1:=δm BKt.out 1
   have hzt_2:=(δl BKt.out 2).trans rfl
   have hft_2:=δm BKt.out 2
   have hzt_3:=(δl BKt.out 3).trans rfl
   have hft_3:=δm BKt.out 3
   have h:=HH.out
   clear HH
   simp only [Option.some.injEq,Prod.mk.injEq] at h
   obtain ⟨rfl,rfl⟩:=h
   go_wp2
   go_ret2
   exact ⟨_,rfl,(by repeat (first|exact HOn7.out|apply ζd|apply ζe|apply ζc)),(by repeat (first|exact HB7.out|apply δk|apply δj|apply δi))⟩
  | false =>
   rw [if_neg (by decide)] at h
   have HH:=ζa h
   clear h
   go_wp2_with (first|((with_reducible refine δx (N:=10) rfl ?_);refine δz ?hg (N:=10) ?hd (cs:=#[.string (⟨#[]⟩:ByteArray),.string (⟨#[]⟩:ByteArray),.string (⟨#[]⟩:ByteArray),.int .i64 0]) (t:=56) ?hr ?_;(case hd=>rfl);(case hg=>rfl);(case hr=>first|(go_simp;done)|(go_simp;rfl));intro gbt hg w8 hbox hb;have hbc:=δr (show Below w1.heap.size w1 _ from by repeat (first|exact Below.refl _ _|apply δk|apply δj|apply δi)) hb;have GEt:Aside0 (w1.heap.size≤gbt):=⟨by rw [hg];exact Below.size (show Below w1.heap.size w1 _ from by repeat (first|exact Below.refl _ _|apply δk|apply δj|apply δi))⟩;have BKZ:=ζa hbox;have HBZ:=ζa hbc;have hzz:=hbox;clear hb hbc hbox hg;have hzt_0:=(δl BKZ.out 0).trans rfl;have hzt_1:=(δl BKZ.out 1).trans rfl;have hzt_2:=(δl BKZ.out 2).trans rfl;have hzt_3:=(δl BKZ.out 3).trans rfl;have hft_0:=δm BKZ.out 0;have hft_1:=δm BKZ.out 1;have hft_2:=δm BKZ.out 2;have hft_3:=δm BKZ.out 3;clear hzz)|((with_reducible refine gate_store (t:=56) (p:=10) rfl ?_);refine store_event (t:=56) (p:=10) (v:=?vo) (w1:=((((w8.setCell ⟨gbt,0,none⟩ (.string u0)).setCell ⟨gbt,1,none⟩ (.string u1)).setCell ⟨gbt,2,none⟩ (.string u2)).setCell ⟨gbt,3,none⟩ (.int .i64 u3))) ?hg ?ho ?hn ?hr ?_;(case ho=>rfl);(case hg=>rfl);(case hn=>rfl);(case hr=>(go_simp;done));intro w9 hw;have hbc:Below w1.heap.size w1 w9:=(by rw [hw];exact (δq (δq (δq (δq HBZ.out GEt.out) GEt.out) GEt.out) GEt.out));have BKt:Aside0 (w9.heap[gbt]? = some (.cells #[.string u0,.string u1,.string u2,.int .i64 u3] 56 (0,0))):=⟨by rw [hw];exact (δw (δw (δw (δw BKZ.out 0 _ rfl) 1 _ rfl) 2 _ rfl) 3 _ rfl)⟩;have m_:=ζa (δr HB1.out hbc);have HB8:=m_;clear m_;clear hbc hw BKZ HBZ;clear hzt_0 hft_0 hzt_1 hft_1 hzt_2 hft_2 hzt_3 hft_3;have hzt_0:=(δl BKt.out 0).trans rfl;have hzt_1:=(δl BKt.out 1).trans rfl;have hzt_2:=(δl BKt.out 2).trans rfl;have hzt_3:=(δl BKt.out 3).trans rfl;have hft_0:=δm BKt.out 0;have hft_1:=δm BKt.out 1;have hft_2:=δm BKt.out 2;have hft_3:=δm BKt.out 3))
   go_wp2_with fail
   refine (impl_move.calls k ((⟨#[116,97,107,101,115]⟩:ByteArray)) u2 name u3 _ (HT0.out.below (by repeat (first|exact HB8.out|apply δk|apply δj|apply δi)))).mono ?_
   rintro e w10 ⟨g_m,lb_m,rfl,hch,hb⟩
   have m_:=ζa (blk_below (by repeat (first|exact BKt.out|apply δo|apply δp|apply δn)) hb)
   clear BKt
   have BKt:=m_
   clear m_
   clear hzt_0 hft_0 hzt_1 hft_1 hzt_2 hft_2 hzt_3 hft_3
   have m_:=ζa (δr (by repeat (first|exact HB8.out|apply δk|apply δj|apply δi)) hb)
   clear hb
   have HB10:=m_
   clear m_
   have CH_m:=ζa hch
   have eg_m : ∀ args w,(callFunc g_m args).run Tryz.prog w = .ok (.enter g_m args) w:=hch.enters
   clear hch
   have hzt_0:=(δl BKt.out 0).trans rfl
   have hft_0:=δm BKt.out 0
   have hzt_1:=(δl BKt.out 1).trans rfl
   have hft_1:=δm BKt.out 1
   have hzt_2:=(δl BKt.out 2).trans rfl
   have hft_2:=δm BKt.out 2
   have hzt_3:=(δl BKt.out 3).trans rfl
   have hft_3:=δm BKt.out 3
   have h:=HH.out
   clear HH
   obtain ⟨⟨o1,c1⟩,h11_,h⟩:=Option.bind_eq_some_iff.mp h
   have HH:=ζa h
   have H11:=ζa h11_
   clear h h11_
   go_wp2_with fail
   refine (CH_m.out.calls _ A_list c_list list o1 c1 (by repeat (first|exact Below.refl _ _|apply δk|apply δj|apply δi)) (by repeat (first|exact Kd.C_below HR0_list.out HB10.out|apply Kd.C_alloc|apply Kd.C_drew|apply Kd.C_drewN)) HC0_list.out H11.out).mono ?_
   rintro e w11 ⟨v11,rfl,ho,hb⟩
   have m_:=ζa (blk_below (by repeat (first|exact BKt.out|apply δo|apply δp|apply δn)) hb)
   clear BKt
   have BKt:=m_
   clear m_
   clear hzt_0 hft_0 hzt_1 hft_1 hzt_2 hft_2 hzt_3 hft_3
   have ho':=Kd.R_lower ho (Below.size (show Below w.heap.size w _ from by repeat (first|exact HB10.out|apply δk|apply δj|apply δi)))
   obtain ⟨adr11,cap11,rfl,hl11,hq11⟩:=Kd.R_reads ho'
   have HC11:=ζa hl11
   have HRn11:=ζa hq11
   have HOn11:=ζa ho'
   clear hl11 hq11 ho ho'
   have m_:=ζa (δr (by repeat (first|exact HB10.out|apply δk|apply δj|apply δi)) hb)
   clear hb
   have HB11:=m_
   clear m_
   have hzt_0:=(δl BKt.out 0).trans rfl
   have hft_0:=δm BKt.out 0
   have hzt_1:=(δl BKt.out 1).trans rfl
   have hft_1:=δm BKt.out 1
   have hzt_2:=(δl BKt.out 2).trans rfl
   have hft_2:=δm BKt.out 2
   have hzt_3:=(δl BKt.out 3).trans rfl
   have hft_3:=δm BKt.out 3
   have h:=HH.out
   clear HH
   simp only [Option.some.injEq,Prod.mk.injEq] at h
   obtain ⟨rfl,rfl⟩:=h
   go_wp2
   go_ret2
   exact ⟨_,rfl,(by repeat (first|exact HOn11.out|apply ζd|apply ζe|apply ζc)),(by repeat (first|exact HB11.out|apply δk|apply δj|apply δi))⟩
 | false =>
  rw [if_neg (by decide)] at h
  have HH:=ζa h
  clear h
  go_wp2_with (first|((with_reducible refine δx (N:=10) rfl ?_);refine δz ?hg (N:=10) ?hd (cs:=#[.string (⟨#[]⟩:ByteArray),.string (⟨#[]⟩:ByteArray),.string (⟨#[]⟩:ByteArray),.int .i64 0]) (t:=56) ?hr ?_;(case hd=>rfl);(case hg=>rfl);(case hr=>first|(go_simp;done)|(go_simp;rfl));intro gbt hg w12 hbox hb;have hbc:=δr (show Below w1.heap.size w1 _ from by repeat (first|exact Below.refl _ _|apply δk|apply δj|apply δi)) hb;have GEt:Aside0 (w1.heap.size≤gbt):=⟨by rw [hg];exact Below.size (show Below w1.heap.size w1 _ from by repeat (first|exact Below.refl _ _|apply δk|apply δj|apply δi))⟩;have BKZ:=ζa hbox;have HBZ:=ζa hbc;have hzz:=hbox;clear hb hbc hbox hg;have hzt_0:=(δl BKZ.out 0).trans rfl;have hzt_1:=(δl BKZ.out 1).trans rfl;have hzt_2:=(δl BKZ.out 2).trans rfl;have hzt_3:=(δl BKZ.out 3).trans rfl;have hft_0:=δm BKZ.out 0;have hft_1:=δm BKZ.out 1;have hft_2:=δm BKZ.out 2;have hft_3:=δm BKZ.out 3;clear hzz)|((with_reducible refine gate_store (t:=56) (p:=10) rfl ?_);refine store_event (t:=56) (p:=10) (v:=?vo) (w1:=((((w12.setCell ⟨gbt,0,none⟩ (.string u0)).setCell ⟨gbt,1,none⟩ (.string u1)).setCell ⟨gbt,2,none⟩ (.string u2)).setCell ⟨gbt,3,none⟩ (.int .i64 u3))) ?hg ?ho ?hn ?hr ?_;(case ho=>rfl);(case hg=>rfl);(case hn=>rfl);(case hr=>(go_simp;done));intro w13 hw;have hbc:Below w1.heap.size w1 w13:=(by rw [hw];exact (δq (δq (δq (δq HBZ.out GEt.out) GEt.out) GEt.out) GEt.out));have BKt:Aside0 (w13.heap[gbt]? = some (.cells #[.string u0,.string u1,.string u2,.int .i64 u3] 56 (0,0))):=⟨by rw [hw];exact (δw (δw (δw (δw BKZ.out 0 _ rfl) 1 _ rfl) 2 _ rfl) 3 _ rfl)⟩;have m_:=ζa (δr HB1.out hbc);have HB12:=m_;clear m_;clear hbc hw BKZ HBZ;clear hzt_0 hft_0 hzt_1 hft_1 hzt_2 hft_2 hzt_3 hft_3;have hzt_0:=(δl BKt.out 0).trans rfl;have hzt_1:=(δl BKt.out 1).trans rfl;have hzt_2:=(δl BKt.out 2).trans rfl;have hzt_3:=(δl BKt.out 3).trans rfl;have hft_0:=δm BKt.out 0;have hft_1:=δm BKt.out 1;have hft_2:=δm BKt.out 2;have hft_3:=δm BKt.out 3))
  have h:=HH.out
  clear HH
  obtain ⟨o2,h14_,h⟩:=Option.bind_eq_some_iff.mp h
  have HH:=ζa h
  have H14:=ζa h14_
  clear h h14_
  go_wp2_with fail
  refine (slices_Clone_impl_Pair_impl_Pair.calls A_list c_list list o2 _ (by repeat (first|exact Kd.C_below HR0_list.out HB12.out|apply Kd.C_alloc|apply Kd.C_drew|apply Kd.C_drewN)) HC0_list.out H14.out).mono ?_
  rintro e w14 ⟨v14,rfl,ho,hb⟩
  have m_:=ζa (blk_below (by repeat (first|exact BKt.out|apply δo|apply δp|apply δn)) hb)
  clear BKt
  have BKt:=m_
  clear m_
  clear hzt_0 hft_0 hzt_1 hft_1 hzt_2 hft_2 hzt_3 hft_3
  have ho':=Kd.R_lower ho (Below.size (show Below w.heap.size w _ from by repeat (first|exact HB12.out|apply δk|apply δj|apply δi)))
  obtain ⟨adr14,cap14,rfl,hl14,hq14⟩:=Kd.R_reads ho'
  have HC14:=ζa hl14
  have HRn14:=ζa hq14
  have HOn14:=ζa ho'
  clear hl14 hq14 ho ho'
  have m_:=ζa (δr (by repeat (first|exact HB12.out|apply δk|apply δj|apply δi)) hb)
  clear hb
  have HB14:=m_
  clear m_
  have hzt_0:=(δl BKt.out 0).trans rfl
  have hft_0:=δm BKt.out 0
  have hzt_1:=(δl BKt.out 1).trans rfl
  have hft_1:=δm BKt.out 1
  have hzt_2:=(δl BKt.out 2).trans rfl
  have hft_2:=δm BKt.out 2
  have hzt_3:=(δl BKt.out 3).trans rfl
  have hft_3:=δm BKt.out 3
  have h:=HH.out
  clear HH
  simp only [Option.some.injEq,Prod.mk.injEq] at h
  obtain ⟨rfl,rfl⟩:=h
  go_wp2
  go_ret2
  exact ⟨_,rfl,(by repeat (first|exact HOn14.out|apply ζd|apply ζe|apply ζc)),(by repeat (first|exact HB14.out|apply δk|apply δj|apply δi))⟩


open Go.Proofs.YtabmfhnhmoiljaaGreatDoorW.PrintWords renaming gate_dst → δx, below_size → δs, below_alloc → δk, pw_below_drewN → δi, below_drew1 → δj, below_step → δr, gate_callee → δv
open Go.Proofs.YtabmfhnhmoiljaaGreatDoorW.PrintWords.Kd renaming R_reads' → ζg, R_below → ζh, R_alloc → ζd, R_drewN → ζc, R_drew → ζe

/-! ### impl_DoneTake: function 22 -/
def impl_DoneTake.f (k:Nat) (a0:ByteArray) (l1:List (S51)) (a2:ByteArray) (a3:Bool):Option ((List (S51)) × Int):=(impl_nameCode.f k a0 l1 (([a2]:List ByteArray))).bind fun t374=>(if t374=0 then ((impl_doneTake.f k a0 l1 a2 a3).bind fun bt375=>(some (bt375.1,bt375.2))) else (some (([]:List (S51)),t374)))
set_option maxHeartbeats 8000000 in
set_option maxRecDepth 100000 in
theorem impl_DoneTake.calls (k:Nat) (a0:ByteArray) (A1:Option Addr) (c1:Nat) (l1:List (S51)) (a2:ByteArray) (a3:Bool) (r1:List (S51)) (r2:Int) (w:World) (hr1:Kd.C k51 w A1 l1.length l1) (hc1:l1.length≤c1) (hT0:TabsOK w) (h:impl_DoneTake.f k a0 l1 a2 a3=some (r1,r2)) :
  Calls Tryz.prog 22 #[.string a0,.slice A1 l1.length c1,.string a2,.bool a3] w fun e w' => ∃ v0_:Value,e = .returned (.tuple #[v0_,.int .i64 r2])∧Kd.R k51 51 w' w.heap.size (fun _=>True) v0_ r1∧Below w.heap.size w w':=by
 have HT0:=ζa hT0
 clear hT0
 have HR1:=ζa hr1
 have HC1:=ζa hc1
 clear hr1 hc1
 have HB:=ζa (Below.refl w.heap.size w)
 have H:((impl_nameCode.f k a0 l1 (([a2]:List ByteArray))).bind fun t374=>(if t374=0 then ((impl_doneTake.f k a0 l1 a2 a3).bind fun bt375=>(some (bt375.1,bt375.2))) else (some (([]:List (S51)),t374))))=some (r1,r2):=h
 clear h
 obtain ⟨y371,hy371⟩ : ∃ y_:List ByteArray,y_=(([a2]:List ByteArray)):=⟨_,rfl⟩
 replace H:((impl_nameCode.f k a0 l1 y371).bind fun t374=>(if t374=0 then ((impl_doneTake.f k a0 l1 a2 a3).bind fun bt375=>(some (bt375.1,bt375.2))) else (some (([]:List (S51)),t374))))=some (r1,r2):=by first|(rw [hy371];with_reducible exact H)|(have H2_:=(Option.bind_some _ _).symm.trans H;rw [hy371];with_reducible exact H2_)|(have H2_:=(Option.bind_some _ _).symm.trans H;with_reducible exact H2_)|with_reducible exact H|(rw [hy371];exact H)|exact H
 have Ny371:=ζa hy371
 clear hy371
 replace H:=Option.bind_eq_some_iff.mp H
 obtain ⟨t374,A50,H⟩:=H
 replace H:(if t374=0 then ((impl_doneTake.f k a0 l1 a2 a3).bind fun bt375=>(some (bt375.1,bt375.2))) else (some (([]:List (S51)),t374)))=some (r1,r2):=H
 have A5:=ζa A50
 clear A50
 by_cases c6:t374=0
 ·
  rw [if_pos c6] at H
  have c6b0:(t374 == 0)=τ:=beq_iff_eq.mpr c6
  have c6b1:(t374 != 0)=φ:=bne_eq_false_iff_eq.mpr c6
  clear c6
  replace H:=Option.bind_eq_some_iff.mp H
  obtain ⟨⟨t375,t376⟩,A70,H⟩:=H
  replace H:(some (t375,t376))=some (r1,r2):=H
  have A7:=ζa A70
  clear A70
  simp only [Option.some.injEq,Prod.mk.injEq] at H
  obtain ⟨rfl,rfl⟩:=H
  go_enter Tryz.func22,Tryz.ntmps22
  go_wp2_with (first|((with_reducible refine δx (N:=14) rfl ?_);refine Kd.R_lit Kd.string _ 9 ?hg (N:=14) ?hd (xs:=([a2]:List ByteArray)) (inner:=[.string a2]) (ok:=fun _=>True) (okp:=fun _=>True) ?hr ?hp (fun _ hk=>hk) trivial (Below.refl _ _) (Nat.le_refl _) (by simp) ?_;(case hd=>rfl);(case hg=>rfl);(case hr=>first|(go_simp;done)|(go_simp;rfl));(case hp=>exact (Reps.one (show Kd.M Kd.string _ _ _ a2 [.string a2] from rfl) (Reps.none _ _)));intro v372 w8 ho9 hb hg_ hnew_;clear hg_ hnew_;(first|rw [← Ny371.out] at ho9|(simp only [Int.reduceToNat] at ho9;rw [← Ny371.out] at ho9));have n0_:=ζa (Kd.R_lower ho9 (δs (by repeat (first|(with_reducible first|exact HB.out|apply δk|apply δi|apply δj)|exact HB.out))));have n1_:=ζa (δr (by repeat (first|(with_reducible first|exact HB.out|apply δk|apply δi|apply δj)|exact HB.out)) hb);clear HB;have HO373:=n0_;have HB:=n1_;clear n0_ n1_;clear hb ho9;obtain ⟨Ao10,co10,eo10⟩:=Kd.R_slice HO373.out;subst eo10)|((with_reducible refine δv (f:=45) rfl ?_);refine goesL_ (some 15) rfl rfl Tryz.func45 (by kernel_rfl) rfl #[.string a0,.slice A1 l1.length c1,.slice Ao10 y371.length co10] rfl (by (try simp only [δd,δe,δf]);first|done|rfl|(simp only [δg,δh];rfl)) ?_;(with_reducible refine (impl_nameCode.calls k a0 _ _ l1 _ _ y371 t374 _ ?side1 ?side2 ?side3 ?side4 A5.out).mono ?_);(case side1=>repeat (first|exact (Kd.C_below HR1.out HB.out)|(with_reducible refine Kd.C_alloc ?_ _)|(with_reducible refine Kd.C_drewN ?_ _)|(with_reducible refine Kd.C_drew ?_)));(case side2=>exact HC1.out);(case side3=>repeat (first|exact (ζg HO373.out).2.2|(with_reducible refine Kd.C_alloc ?_ _)|(with_reducible refine Kd.C_drewN ?_ _)|(with_reducible refine Kd.C_drew ?_)));(case side4=>exact (ζg HO373.out).2.1);rintro e w11 ⟨rfl,hb⟩;refine ⟨_,rfl,?_⟩;have n0_:=ζa (ζh (by (with_reducible repeat (first|apply ζd|apply ζc|apply ζe));exact HO373.out) hb);have n1_:=ζa (δr (by repeat (first|(with_reducible first|exact HB.out|apply δk|apply δi|apply δj)|exact HB.out)) hb);clear HO373;clear HB;have HO373:=n0_;have HB:=n1_;clear n0_ n1_;(try clear hb);(try clear hb2);(try clear hk);(try clear hi))|((with_reducible refine δv (f:=50) rfl ?_);refine goesL_ (some 23) rfl rfl Tryz.func50 (by kernel_rfl) rfl #[.string a0,.slice A1 l1.length c1,.string a2,.bool a3] rfl (by (try simp only [δd,δe,δf]);first|done|rfl|(simp only [δg,δh];rfl)) ?_;(with_reducible refine (impl_doneTake.calls k a0 _ _ l1 a2 a3 t375 t376 _ ?side1 ?side2 (HT0.out.below (by repeat (first|(with_reducible first|exact HB.out|apply δk|apply δi|apply δj)|exact HB.out))) A7.out).mono ?_);(case side1=>repeat (first|exact (Kd.C_below HR1.out HB.out)|(with_reducible refine Kd.C_alloc ?_ _)|(with_reducible refine Kd.C_drewN ?_ _)|(with_reducible refine Kd.C_drew ?_)));(case side2=>exact HC1.out);rintro e w12 ⟨v377,rfl,ho0,hb⟩;refine ⟨_,rfl,?_⟩;have n0_:=ζa (ζh (by (with_reducible repeat (first|apply ζd|apply ζc|apply ζe));exact HO373.out) hb);have n1_:=ζa (Kd.R_lower ho0 (δs (by repeat (first|(with_reducible first|exact HB.out|apply δk|apply δi|apply δj)|exact HB.out))));have n2_:=ζa (δr (by repeat (first|(with_reducible first|exact HB.out|apply δk|apply δi|apply δj)|exact HB.out)) hb);clear HO373;clear HB;have HO373:=n0_;have HO378:=n1_;have HB:=n2_;clear n0_ n1_ n2_;(try clear hb);(try clear hb2);(try clear hk);(try clear hi);(try clear ho0)))
  go_ret2
  exact ⟨_,by first|rfl|(simp [errW_none,errW_some] <;> rfl)|(simp [*,errW_none,errW_some] <;> rfl),by (with_reducible repeat (first|apply ζd|apply ζc|apply ζe));exact HO378.out,by repeat (first|(with_reducible first|exact HB.out|apply δk|apply δi|apply δj)|exact HB.out)⟩
 ·
  rw [if_neg c6] at H
  have c6b0:(t374 == 0)=φ:=beq_eq_false_iff_ne.mpr c6
  have c6b1:(t374 != 0)=τ:=bne_iff_ne.mpr c6
  simp only [Option.some.injEq,Prod.mk.injEq] at H
  obtain ⟨rfl,rfl⟩:=H
  go_enter Tryz.func22,Tryz.ntmps22
  go_wp2_with (first|((with_reducible refine δx (N:=14) rfl ?_);refine Kd.R_lit Kd.string _ 9 ?hg (N:=14) ?hd (xs:=([a2]:List ByteArray)) (inner:=[.string a2]) (ok:=fun _=>True) (okp:=fun _=>True) ?hr ?hp (fun _ hk=>hk) trivial (Below.refl _ _) (Nat.le_refl _) (by simp) ?_;(case hd=>rfl);(case hg=>rfl);(case hr=>first|(go_simp;done)|(go_simp;rfl));(case hp=>exact (Reps.one (show Kd.M Kd.string _ _ _ a2 [.string a2] from rfl) (Reps.none _ _)));intro v372 w13 ho14 hb hg_ hnew_;clear hg_ hnew_;(first|rw [← Ny371.out] at ho14|(simp only [Int.reduceToNat] at ho14;rw [← Ny371.out] at ho14));have n0_:=ζa (Kd.R_lower ho14 (δs (by repeat (first|(with_reducible first|exact HB.out|apply δk|apply δi|apply δj)|exact HB.out))));have n1_:=ζa (δr (by repeat (first|(with_reducible first|exact HB.out|apply δk|apply δi|apply δj)|exact HB.out)) hb);clear HB;have HO373:=n0_;have HB:=n1_;clear n0_ n1_;clear hb ho14;obtain ⟨Ao15,co15,eo15⟩:=Kd.R_slice HO373.out;subst eo15)|((with_reducible refine δv (f:=45) rfl ?_);refine goesL_ (some 15) rfl rfl Tryz.func45 (by kernel_rfl) rfl #[.string a0,.slice A1 l1.length c1,.slice Ao15 y371.length co15] rfl (by (try simp only [δd,δe,δf]);first|done|rfl|(simp only [δg,δh];rfl)) ?_;(with_reducible refine (impl_nameCode.calls k a0 _ _ l1 _ _ y371 t374 _ ?side1 ?side2 ?side3 ?side4 A5.out).mono ?_);(case side1=>repeat (first|exact (Kd.C_below HR1.out HB.out)|(with_reducible refine Kd.C_alloc ?_ _)|(with_reducible refine Kd.C_drewN ?_ _)|(with_reducible refine Kd.C_drew ?_)));(case side2=>exact HC1.out);(case side3=>repeat (first|exact (ζg HO373.out).2.2|(with_reducible refine Kd.C_alloc ?_ _)|(with_reducible refine Kd.C_drewN ?_ _)|(with_reducible refine Kd.C_drew ?_)));(case side4=>exact (ζg HO373.out).2.1);rintro e w16 ⟨rfl,hb⟩;refine ⟨_,rfl,?_⟩;have n0_:=ζa (ζh (by (with_reducible repeat (first|apply ζd|apply ζc|apply ζe));exact HO373.out) hb);have n1_:=ζa (δr (by repeat (first|(with_reducible first|exact HB.out|apply δk|apply δi|apply δj)|exact HB.out)) hb);clear HO373;clear HB;have HO373:=n0_;have HB:=n1_;clear n0_ n1_;(try clear hb);(try clear hb2);(try clear hk);(try clear hi)))
  go_ret2
  exact ⟨_,by first|rfl|(simp [errW_none,errW_some] <;> rfl)|(simp [*,errW_none,errW_some] <;> rfl),by first|exact Kd.R_nil _ _ _ _ _|exact Kd.N_nil _ _ _ _ _|exact Kd.V_nil _ _ _ _ _|exact Kd.Q_nil _ _ _ _ _|exact Kd.S_nil _ _ _ _ _,by repeat (first|(with_reducible first|exact HB.out|apply δk|apply δi|apply δj)|exact HB.out)⟩


open Go.Proofs.YtabmfhnhmoiljaaGreatDoorW.PrintWords renaming below_alloc → δk, pw_below_drewN → δi, below_drew1 → δj, gate_callee → δv, below_step → δr, below_size → δs
open Go.Proofs.YtabmfhnhmoiljaaGreatDoorW.PrintWords.Kd renaming R_reads' → ζg, R_alloc → ζd, R_drewN → ζc, R_drew → ζe, R_below → ζh

/-! ### laws_FnExactDoneTake: function 4 -/
mutual
def laws_FnExactDoneTake.j0:Nat→ByteArray→List (S49)→ByteArray→Bool→List (S51)→Int→List (S51)→List (S51)→Int→Bool→Option (Bool)
 | 0,_,_,_,_,_,_,_,_,_,_=>none
 | k+1,x0,x1,x2,x3,x10,x11,x12,x13,x14,x58=>if x58=τ then (some φ) else ((laws_toPairS.f k x1).bind fun t395=>((laws_eqPairS.f k x12 t395).bind fun t398=>(if t398=τ then ((laws_markPairS.f k x12 1).bind fun bt399=>(if bt399.1<0 then (laws_FnExactDoneTake.j1 k x0 x1 x2 x3 x10 x11 x13 τ) else ((laws_eqPairS.f k x13 x10).bind fun t401=>(if t401=τ then (laws_FnExactDoneTake.j1 k x0 x1 x2 x3 x10 x11 x13 (x14 != x11)) else (laws_FnExactDoneTake.j1 k x0 x1 x2 x3 x10 x11 x13 τ))))) else (some φ))))
def laws_FnExactDoneTake.j1:Nat→ByteArray→List (S49)→ByteArray→Bool→List (S51)→Int→List (S51)→Bool→Option (Bool)
 | 0,_,_,_,_,_,_,_,_=>none
 | k+1,x0,x1,x2,x3,x10,x11,x13,x79=>if x79=τ then (some φ) else ((laws_markPairS.f k x13 1).bind fun bt402=>((laws_heldPairS.f k bt402.2 1).bind fun t404=>(if t404<0 then (some φ) else (if t404=bt402.1 then ((laws_toPairS.f k x1).bind fun t405=>((impl_DoneTake.f k x0 t405 x2 x3).bind fun bt408=>((laws_eqPairS.f k bt408.1 x10).bind fun t412=>(if t412=τ then (laws_FnExactDoneTake.j2 k bt402.2 bt402.1 (bt408.2 != x11)) else (laws_FnExactDoneTake.j2 k bt402.2 bt402.1 τ))))) else (some φ)))))
def laws_FnExactDoneTake.j2:Nat→List (S51)→Int→Bool→Option (Bool)
 | 0,_,_,_=>none
 | k+1,x13,x16,x108=>if x108=τ then (some φ) else ((laws_heldPairS.f k x13 1).bind fun t413=>(if t413<0 then (some φ) else (if t413=x16 then (some τ) else (some φ))))
end
def laws_FnExactDoneTake.f (k:Nat) (a0:ByteArray) (l1:List (S49)) (a2:ByteArray) (a3:Bool):Option (Bool):=if (a0.size:Int) > 1048576 then (some τ) else (if (a2.size:Int) > 1048576 then (some τ) else ((laws_szPairS.f k l1 1048576).bind fun t379=>(if t379<0 then (some τ) else ((laws_toPairS.f k l1).bind fun t380=>((spec_DoneTake.f k a0 t380 a2 a3).bind fun bt383=>((laws_toPairS.f k l1).bind fun t387=>((impl_DoneTake.f k a0 t387 a2 a3).bind fun bt390=>((laws_eqPairS.f k bt390.1 bt383.1).bind fun t394=>(if t394=τ then (laws_FnExactDoneTake.j0 k a0 l1 a2 a3 bt383.1 bt383.2 t387 bt390.1 bt390.2 (bt390.2 != bt383.2)) else (laws_FnExactDoneTake.j0 k a0 l1 a2 a3 bt383.1 bt383.2 t387 bt390.1 bt390.2 τ))))))))))
set_option maxHeartbeats 8000000 in
set_option maxRecDepth 100000 in
theorem laws_FnExactDoneTake.calls (k:Nat) (a0:ByteArray) (A1:Option Addr) (c1:Nat) (l1:List (S49)) (a2:ByteArray) (a3:Bool) (r:Bool) (w:World) (hr1:Kd.C k49 w A1 l1.length l1) (hc1:l1.length≤c1) (hT0:TabsOK w) (h:laws_FnExactDoneTake.f k a0 l1 a2 a3=some r) :
  Calls Tryz.prog 4 #[.string a0,.slice A1 l1.length c1,.string a2,.bool a3] w fun e w'=>e = .returned (.bool r)∧Below w.heap.size w w':=by
 have HT0:=ζa hT0
 clear hT0
 have HR1:=ζa hr1
 have HC1:=ζa hc1
 clear hr1 hc1
 have HB:=ζa (Below.refl w.heap.size w)
 have H:(if (a0.size:Int) > 1048576 then (some τ) else (if (a2.size:Int) > 1048576 then (some τ) else ((laws_szPairS.f k l1 1048576).bind fun t379=>(if t379<0 then (some τ) else ((laws_toPairS.f k l1).bind fun t380=>((spec_DoneTake.f k a0 t380 a2 a3).bind fun bt383=>((laws_toPairS.f k l1).bind fun t387=>((impl_DoneTake.f k a0 t387 a2 a3).bind fun bt390=>((laws_eqPairS.f k bt390.1 bt383.1).bind fun t394=>(if t394=τ then (laws_FnExactDoneTake.j0 k a0 l1 a2 a3 bt383.1 bt383.2 t387 bt390.1 bt390.2 (bt390.2 != bt383.2)) else (laws_FnExactDoneTake.j0 k a0 l1 a2 a3 bt383.1 bt383.2 t387 bt390.1 bt390.2 τ)))))))))))=some r:=h
 clear h
 by_cases c5:(a0.size:Int) > 1048576
 ·
  rw [if_pos c5] at H
  have c5b0:decide (1048576<(a0.size:Int))=τ:=decide_eq_true c5
  have c5b1:decide (1048576<a0.size)=τ:=decide_eq_true (by omega)
  clear c5
  obtain rfl:=Option.some.inj H
  go_enter Tryz.func4,Tryz.ntmps4
  go_wp2
  go_ret
  exact ⟨by first|rfl|(simp [errW_none,errW_some] <;> rfl)|(simp [*,errW_none,errW_some] <;> rfl),by repeat (first|(with_reducible first|exact HB.out|apply δk|apply δi|apply δj)|exact HB.out)⟩
 ·
  rw [if_neg c5] at H
  have c5b0:decide (1048576<(a0.size:Int))=φ:=decide_eq_false c5
  have c5b1:decide (1048576<a0.size)=φ:=decide_eq_false (by omega)
  clear c5
  by_cases c6:(a2.size:Int) > 1048576
  ·
   rw [if_pos c6] at H
   have c6b0:decide (1048576<(a2.size:Int))=τ:=decide_eq_true c6
   have c6b1:decide (1048576<a2.size)=τ:=decide_eq_true (by omega)
   clear c6
   obtain rfl:=Option.some.inj H
   go_enter Tryz.func4,Tryz.ntmps4
   go_wp2
   go_ret
   exact ⟨by first|rfl|(simp [errW_none,errW_some] <;> rfl)|(simp [*,errW_none,errW_some] <;> rfl),by repeat (first|(with_reducible first|exact HB.out|apply δk|apply δi|apply δj)|exact HB.out)⟩
  ·
   rw [if_neg c6] at H
   have c6b0:decide (1048576<(a2.size:Int))=φ:=decide_eq_false c6
   have c6b1:decide (1048576<a2.size)=φ:=decide_eq_false (by omega)
   clear c6
   replace H:=Option.bind_eq_some_iff.mp H
   obtain ⟨t379,A70,H⟩:=H
   replace H:(if t379<0 then (some τ) else ((laws_toPairS.f k l1).bind fun t380=>((spec_DoneTake.f k a0 t380 a2 a3).bind fun bt383=>((laws_toPairS.f k l1).bind fun t387=>((impl_DoneTake.f k a0 t387 a2 a3).bind fun bt390=>((laws_eqPairS.f k bt390.1 bt383.1).bind fun t394=>(if t394=τ then (laws_FnExactDoneTake.j0 k a0 l1 a2 a3 bt383.1 bt383.2 t387 bt390.1 bt390.2 (bt390.2 != bt383.2)) else (laws_FnExactDoneTake.j0 k a0 l1 a2 a3 bt383.1 bt383.2 t387 bt390.1 bt390.2 τ))))))))=some r:=H
   have A7:=ζa A70
   clear A70
   by_cases c8:t379<0
   ·
    rw [if_pos c8] at H
    have c8b0:decide (t379<0)=τ:=decide_eq_true c8
    clear c8
    obtain rfl:=Option.some.inj H
    go_enter Tryz.func4,Tryz.ntmps4
    go_wp2_with (first|((with_reducible refine δv (f:=14) rfl ?_);refine goesL_ (some 28) rfl rfl Tryz.func14 (by kernel_rfl) rfl #[.slice A1 l1.length c1,.int .i64 1048576] rfl (by (try simp only [δd,δe,δf]);first|done|rfl|(simp only [δg,δh];rfl)) ?_;(with_reducible refine (laws_szPairS.calls k _ _ l1 1048576 t379 _ ?side1 ?side2 A7.out).mono ?_);(case side1=>repeat (first|exact HR1.out|(with_reducible refine Kd.C_alloc ?_ _)|(with_reducible refine Kd.C_drewN ?_ _)|(with_reducible refine Kd.C_drew ?_)));(case side2=>exact HC1.out);rintro e w9 ⟨rfl,hb⟩;refine ⟨_,rfl,?_⟩;have n0_:=ζa (δr (by repeat (first|(with_reducible first|exact HB.out|apply δk|apply δi|apply δj)|exact HB.out)) hb);clear HB;have HB:=n0_;clear n0_;(try clear hb);(try clear hb2);(try clear hk);(try clear hi)))
    go_ret
    exact ⟨by first|rfl|(simp [errW_none,errW_some] <;> rfl)|(simp [*,errW_none,errW_some] <;> rfl),by repeat (first|(with_reducible first|exact HB.out|apply δk|apply δi|apply δj)|exact HB.out)⟩
   ·
    rw [if_neg c8] at H
    have c8b0:decide (t379<0)=φ:=decide_eq_false c8
    clear c8
    replace H:=Option.bind_eq_some_iff.mp H
    obtain ⟨t380,A100,H⟩:=H
    replace H:((spec_DoneTake.f k a0 t380 a2 a3).bind fun bt383=>((laws_toPairS.f k l1).bind fun t387=>((impl_DoneTake.f k a0 t387 a2 a3).bind fun bt390=>((laws_eqPairS.f k bt390.1 bt383.1).bind fun t394=>(if t394=τ then (laws_FnExactDoneTake.j0 k a0 l1 a2 a3 bt383.1 bt383.2 t387 bt390.1 bt390.2 (bt390.2 != bt383.2)) else (laws_FnExactDoneTake.j0 k a0 l1 a2 a3 bt383.1 bt383.2 t387 bt390.1 bt390.2 τ))))))=some r:=H
    have A10:=ζa A100
    clear A100
    replace H:=Option.bind_eq_some_iff.mp H
    obtain ⟨⟨t383,t384⟩,A110,H⟩:=H
    replace H:((laws_toPairS.f k l1).bind fun t387=>((impl_DoneTake.f k a0 t387 a2 a3).bind fun bt390=>((laws_eqPairS.f k bt390.1 t383).bind fun t394=>(if t394=τ then (laws_FnExactDoneTake.j0 k a0 l1 a2 a3 t383 t384 t387 bt390.1 bt390.2 (bt390.2 != t384)) else (laws_FnExactDoneTake.j0 k a0 l1 a2 a3 t383 t384 t387 bt390.1 bt390.2 τ)))))=some r:=H
    have A11:=ζa A110
    clear A110
    replace H:=Option.bind_eq_some_iff.mp H
    obtain ⟨t387,A120,H⟩:=H
    replace H:((impl_DoneTake.f k a0 t387 a2 a3).bind fun bt390=>((laws_eqPairS.f k bt390.1 t383).bind fun t394=>(if t394=τ then (laws_FnExactDoneTake.j0 k a0 l1 a2 a3 t383 t384 t387 bt390.1 bt390.2 (bt390.2 != t384)) else (laws_FnExactDoneTake.j0 k a0 l1 a2 a3 t383 t384 t387 bt390.1 bt390.2 τ))))=some r:=H
    have A12:=ζa A120
    clear A120
    replace H:=Option.bind_eq_some_iff.mp H
    obtain ⟨⟨t390,t391⟩,A130,H⟩:=H
    replace H:((laws_eqPairS.f k t390 t383).bind fun t394=>(if t394=τ then (laws_FnExactDoneTake.j0 k a0 l1 a2 a3 t383 t384 t387 t390 t391 (t391 != t384)) else (laws_FnExactDoneTake.j0 k a0 l1 a2 a3 t383 t384 t387 t390 t391 τ)))=some r:=H
    have A13:=ζa A130
    clear A130
    have HC14:=ζa H
    clear H
    go_enter Tryz.func4,Tryz.ntmps4
    go_upto_region 12 with (first|((with_reducible refine δv (f:=14) rfl ?_);refine goesL_ (some 28) rfl rfl Tryz.func14 (by kernel_rfl) rfl #[.slice A1 l1.length c1,.int .i64 1048576] rfl (by (try simp only [δd,δe,δf]);first|done|rfl|(simp only [δg,δh];rfl)) ?_;(with_reducible refine (laws_szPairS.calls k _ _ l1 1048576 t379 _ ?side1 ?side2 A7.out).mono ?_);(case side1=>repeat (first|exact HR1.out|(with_reducible refine Kd.C_alloc ?_ _)|(with_reducible refine Kd.C_drewN ?_ _)|(with_reducible refine Kd.C_drew ?_)));(case side2=>exact HC1.out);rintro e w15 ⟨rfl,hb⟩;refine ⟨_,rfl,?_⟩;have n0_:=ζa (δr (by repeat (first|(with_reducible first|exact HB.out|apply δk|apply δi|apply δj)|exact HB.out)) hb);clear HB;have HB:=n0_;clear n0_;(try clear hb);(try clear hb2);(try clear hk);(try clear hi))|((with_reducible refine δv (f:=16) rfl ?_);refine goesL_ (some 34) rfl rfl Tryz.func16 (by kernel_rfl) rfl #[.slice A1 l1.length c1] rfl (by (try simp only [δd,δe,δf]);first|done|rfl|(simp only [δg,δh];rfl)) ?_;(with_reducible refine (laws_toPairS.calls k _ _ l1 t380 _ ?side1 ?side2 A10.out).mono ?_);(case side1=>repeat (first|exact (Kd.C_below HR1.out HB.out)|(with_reducible refine Kd.C_alloc ?_ _)|(with_reducible refine Kd.C_drewN ?_ _)|(with_reducible refine Kd.C_drew ?_)));(case side2=>exact HC1.out);rintro e w16 ⟨v381,rfl,ho0,hb⟩;refine ⟨_,rfl,?_⟩;have n0_:=ζa (Kd.R_lower ho0 (δs (by repeat (first|(with_reducible first|exact HB.out|apply δk|apply δi|apply δj)|exact HB.out))));have n1_:=ζa (δr (by repeat (first|(with_reducible first|exact HB.out|apply δk|apply δi|apply δj)|exact HB.out)) hb);clear HB;have HO382:=n0_;have HB:=n1_;clear n0_ n1_;(try clear hb);(try clear hb2);(try clear hk);(try clear hi);(try clear ho0);obtain ⟨Ao17,co17,eo17⟩:=Kd.R_slice HO382.out;subst eo17)|((with_reducible refine δv (f:=21) rfl ?_);refine goesL_ (some 37) rfl rfl Tryz.func21 (by kernel_rfl) rfl #[.string a0,.slice Ao17 t380.length co17,.string a2,.bool a3] rfl (by (try simp only [δd,δe,δf]);first|done|rfl|(simp only [δg,δh];rfl)) ?_;(with_reducible refine (spec_DoneTake.calls k a0 _ _ t380 a2 a3 t383 t384 _ ?side1 ?side2 A11.out).mono ?_);(case side1=>repeat (first|exact (ζg HO382.out).2.2|(with_reducible refine Kd.C_alloc ?_ _)|(with_reducible refine Kd.C_drewN ?_ _)|(with_reducible refine Kd.C_drew ?_)));(case side2=>exact (ζg HO382.out).2.1);rintro e w18 ⟨v385,rfl,ho0,hb⟩;refine ⟨_,rfl,?_⟩;have n0_:=ζa (Kd.R_elder' (by (with_reducible repeat (first|apply ζd|apply ζc|apply ζe));exact HO382.out) (Kd.R_base ho0) hb);have n1_:=ζa (Kd.R_lower (Kd.R_new' ho0 (Kd.R_lt (by (with_reducible repeat (first|apply ζd|apply ζc|apply ζe));exact HO382.out))) (δs (by repeat (first|(with_reducible first|exact HB.out|apply δk|apply δi|apply δj)|exact HB.out))));have n2_:=ζa (δr (by repeat (first|(with_reducible first|exact HB.out|apply δk|apply δi|apply δj)|exact HB.out)) hb);clear HO382;clear HB;have HO382:=n0_;have HO386:=n1_;have HB:=n2_;clear n0_ n1_ n2_;(try clear hb);(try clear hb2);(try clear hk);(try clear hi);(try clear ho0))|((with_reducible refine δv (f:=16) rfl ?_);refine goesL_ (some 41) rfl rfl Tryz.func16 (by kernel_rfl) rfl #[.slice A1 l1.length c1] rfl (by (try simp only [δd,δe,δf]);first|done|rfl|(simp only [δg,δh];rfl)) ?_;(with_reducible refine (laws_toPairS.calls k _ _ l1 t387 _ ?side1 ?side2 A12.out).mono ?_);(case side1=>repeat (first|exact (Kd.C_below HR1.out HB.out)|(with_reducible refine Kd.C_alloc ?_ _)|(with_reducible refine Kd.C_drewN ?_ _)|(with_reducible refine Kd.C_drew ?_)));(case side2=>exact HC1.out);rintro e w19 ⟨v388,rfl,ho0,hb⟩;refine ⟨_,rfl,?_⟩;have n0_:=ζa (Kd.R_elder' (by (with_reducible repeat (first|apply ζd|apply ζc|apply ζe));exact HO382.out) (Kd.R_base ho0) hb);have n1_:=ζa (Kd.R_elder' (by (with_reducible repeat (first|apply ζd|apply ζc|apply ζe));exact HO386.out) (Kd.R_base ho0) hb);have n2_:=ζa (Kd.R_lower (Kd.R_new' (Kd.R_new' ho0 (Kd.R_lt (by (with_reducible repeat (first|apply ζd|apply ζc|apply ζe));exact HO382.out))) (Kd.R_lt (by (with_reducible repeat (first|apply ζd|apply ζc|apply ζe));exact HO386.out))) (δs (by repeat (first|(with_reducible first|exact HB.out|apply δk|apply δi|apply δj)|exact HB.out))));have n3_:=ζa (δr (by repeat (first|(with_reducible first|exact HB.out|apply δk|apply δi|apply δj)|exact HB.out)) hb);clear HO382;clear HO386;clear HB;have HO382:=n0_;have HO386:=n1_;have HO389:=n2_;have HB:=n3_;clear n0_ n1_ n2_ n3_;(try clear hb);(try clear hb2);(try clear hk);(try clear hi);(try clear ho0);obtain ⟨Ao20,co20,eo20⟩:=Kd.R_slice HO389.out;subst eo20)|((with_reducible refine δv (f:=22) rfl ?_);refine goesL_ (some 47) rfl rfl Tryz.func22 (by kernel_rfl) rfl #[.string a0,.slice Ao20 t387.length co20,.string a2,.bool a3] rfl (by (try simp only [δd,δe,δf]);first|done|rfl|(simp only [δg,δh];rfl)) ?_;(with_reducible refine (impl_DoneTake.calls k a0 _ _ t387 a2 a3 t390 t391 _ ?side1 ?side2 (HT0.out.below (by repeat (first|(with_reducible first|exact HB.out|apply δk|apply δi|apply δj)|exact HB.out))) A13.out).mono ?_);(case side1=>repeat (first|exact (ζg HO389.out).2.2|(with_reducible refine Kd.C_alloc ?_ _)|(with_reducible refine Kd.C_drewN ?_ _)|(with_reducible refine Kd.C_drew ?_)));(case side2=>exact (ζg HO389.out).2.1);rintro e w21 ⟨v392,rfl,ho0,hb⟩;refine ⟨_,rfl,?_⟩;have n0_:=ζa (Kd.R_elder' (by (with_reducible repeat (first|apply ζd|apply ζc|apply ζe));exact HO382.out) (Kd.R_base ho0) hb);have n1_:=ζa (Kd.R_elder' (by (with_reducible repeat (first|apply ζd|apply ζc|apply ζe));exact HO386.out) (Kd.R_base ho0) hb);have n2_:=ζa (Kd.R_elder' (by (with_reducible repeat (first|apply ζd|apply ζc|apply ζe));exact HO389.out) (Kd.R_base ho0) hb);have n3_:=ζa (Kd.R_lower (Kd.R_new' (Kd.R_new' (Kd.R_new' ho0 (Kd.R_lt (by (with_reducible repeat (first|apply ζd|apply ζc|apply ζe));exact HO382.out))) (Kd.R_lt (by (with_reducible repeat (first|apply ζd|apply ζc|apply ζe));exact HO386.out))) (Kd.R_lt (by (with_reducible repeat (first|apply ζd|apply ζc|apply ζe));exact HO389.out))) (δs (by repeat (first|(with_reducible first|exact HB.out|apply δk|apply δi|apply δj)|exact HB.out))));have n4_:=ζa (δr (by repeat (first|(with_reducible first|exact HB.out|apply δk|apply δi|apply δj)|exact HB.out)) hb);clear HO382;clear HO386;clear HO389;clear HB;have HO382:=n0_;have HO386:=n1_;have HO389:=n2_;have HO393:=n3_;have HB:=n4_;clear n0_ n1_ n2_ n3_ n4_;(try clear hb);(try clear hb2);(try clear hk);(try clear hi);(try clear ho0)))
    (try simp only [ζl,δa,δb,δc])
    go_cut [58] (fun v58 wc => ∃ (kq:Nat) (x58_13:Bool),v58 = .bool x58_13∧Aside0 (laws_FnExactDoneTake.j0 kq a0 l1 a2 a3 t383 t384 t387 t390 t391 x58_13=some r)∧Aside0 (kq≤k)∧Aside0 (Kd.R k51 51 wc w.heap.size (fun k_=>some k_≠((.slice Ao20 t387.length co20):Value).ownBlock∧some k_≠(v392:Value).ownBlock) v385 t383)∧Aside0 (Kd.R k51 51 wc w.heap.size (fun k_=>some k_≠(v385:Value).ownBlock∧some k_≠(v392:Value).ownBlock) (.slice Ao20 t387.length co20) t387)∧Aside0 (Kd.R k51 51 wc w.heap.size (fun k_=>some k_≠(v385:Value).ownBlock∧some k_≠((.slice Ao20 t387.length co20):Value).ownBlock) v392 t390)∧Aside0 (Below w.heap.size w wc))
    case first =>
     have H:=HC14.out
     clear HC14
     replace H:=Option.bind_eq_some_iff.mp H
     obtain ⟨t394,A220,H⟩:=H
     replace H:(if t394=τ then (laws_FnExactDoneTake.j0 k a0 l1 a2 a3 t383 t384 t387 t390 t391 (t391 != t384)) else (laws_FnExactDoneTake.j0 k a0 l1 a2 a3 t383 t384 t387 t390 t391 τ))=some r:=H
     have A22:=ζa A220
     clear A220
     by_cases c23:t394=τ
     ·
      subst c23
      have H1:(laws_FnExactDoneTake.j0 k a0 l1 a2 a3 t383 t384 t387 t390 t391 (t391 != t384))=some r:=by rw [if_pos rfl] at H;exact H
      clear H
      have H:=H1
      clear H1
      have H':=ζa H
      clear H
      obtain ⟨Ao24,co24,eo24⟩:=Kd.R_slice HO393.out
      subst eo24
      obtain ⟨Ao25,co25,eo25⟩:=Kd.R_slice HO386.out
      subst eo25
      go_wp2_with (first|((with_reducible refine δv (f:=18) rfl ?_);refine goesL_ (some 52) rfl rfl Tryz.func18 (by kernel_rfl) rfl #[.slice Ao24 t390.length co24,.slice Ao25 t383.length co25] rfl (by (try simp only [δd,δe,δf]);first|done|rfl|(simp only [δg,δh];rfl)) ?_;(with_reducible refine (laws_eqPairS.calls k _ _ t390 _ _ t383 τ _ ?side1 ?side2 ?side3 ?side4 A22.out).mono ?_);(case side1=>repeat (first|exact (ζg HO393.out).2.2|(with_reducible refine Kd.C_alloc ?_ _)|(with_reducible refine Kd.C_drewN ?_ _)|(with_reducible refine Kd.C_drew ?_)));(case side2=>exact (ζg HO393.out).2.1);(case side3=>repeat (first|exact (ζg HO386.out).2.2|(with_reducible refine Kd.C_alloc ?_ _)|(with_reducible refine Kd.C_drewN ?_ _)|(with_reducible refine Kd.C_drew ?_)));(case side4=>exact (ζg HO386.out).2.1);rintro e w26 ⟨rfl,hb⟩;refine ⟨_,rfl,?_⟩;have n0_:=ζa (ζh (by (with_reducible repeat (first|apply ζd|apply ζc|apply ζe));exact HO382.out) hb);have n1_:=ζa (ζh (by (with_reducible repeat (first|apply ζd|apply ζc|apply ζe));exact HO386.out) hb);have n2_:=ζa (ζh (by (with_reducible repeat (first|apply ζd|apply ζc|apply ζe));exact HO389.out) hb);have n3_:=ζa (ζh (by (with_reducible repeat (first|apply ζd|apply ζc|apply ζe));exact HO393.out) hb);have n4_:=ζa (δr (by repeat (first|(with_reducible first|exact HB.out|apply δk|apply δi|apply δj)|exact HB.out)) hb);clear HO382;clear HO386;clear HO389;clear HO393;clear HB;have HO382:=n0_;have HO386:=n1_;have HO389:=n2_;have HO393:=n3_;have HB:=n4_;clear n0_ n1_ n2_ n3_ n4_;(try clear hb);(try clear hb2);(try clear hk);(try clear hi)))
      go_meet
      case rel=>exact ⟨_,((t391 != t384)),(by first|rfl|(simp;done)|(simp [*];done)),H',⟨by first|omega|exact Nat.le_refl _⟩,⟨by (with_reducible repeat (first|apply ζd|apply ζc|apply ζe));exact Kd.R_mono HO386.out (fun _ hk=>⟨hk.1.2,hk.2⟩)⟩,⟨by (with_reducible repeat (first|apply ζd|apply ζc|apply ζe));exact Kd.R_mono HO389.out (fun _ hk=>⟨hk.1.2,hk.2⟩)⟩,⟨by (with_reducible repeat (first|apply ζd|apply ζc|apply ζe));exact Kd.R_mono HO393.out (fun _ hk=>⟨hk.1.2,hk.2⟩)⟩,⟨by repeat (first|(with_reducible first|exact HB.out|apply δk|apply δi|apply δj)|exact HB.out)⟩⟩
     ·
      replace c23:=Bool.eq_false_iff.mpr c23
      subst c23
      have H1:(laws_FnExactDoneTake.j0 k a0 l1 a2 a3 t383 t384 t387 t390 t391 τ)=some r:=by rw [if_neg (show ¬ (φ=τ) by decide)] at H;exact H
      clear H
      have H:=H1
      clear H1
      have H':=ζa H
      clear H
      obtain ⟨Ao27,co27,eo27⟩:=Kd.R_slice HO393.out
      subst eo27
      obtain ⟨Ao28,co28,eo28⟩:=Kd.R_slice HO386.out
      subst eo28
      go_wp2_with (first|((with_reducible refine δv (f:=18) rfl ?_);refine goesL_ (some 52) rfl rfl Tryz.func18 (by kernel_rfl) rfl #[.slice Ao27 t390.length co27,.slice Ao28 t383.length co28] rfl (by (try simp only [δd,δe,δf]);first|done|rfl|(simp only [δg,δh];rfl)) ?_;(with_reducible refine (laws_eqPairS.calls k _ _ t390 _ _ t383 φ _ ?side1 ?side2 ?side3 ?side4 A22.out).mono ?_);(case side1=>repeat (first|exact (ζg HO393.out).2.2|(with_reducible refine Kd.C_alloc ?_ _)|(with_reducible refine Kd.C_drewN ?_ _)|(with_reducible refine Kd.C_drew ?_)));(case side2=>exact (ζg HO393.out).2.1);(case side3=>repeat (first|exact (ζg HO386.out).2.2|(with_reducible refine Kd.C_alloc ?_ _)|(with_reducible refine Kd.C_drewN ?_ _)|(with_reducible refine Kd.C_drew ?_)));(case side4=>exact (ζg HO386.out).2.1);rintro e w29 ⟨rfl,hb⟩;refine ⟨_,rfl,?_⟩;have n0_:=ζa (ζh (by (with_reducible repeat (first|apply ζd|apply ζc|apply ζe));exact HO382.out) hb);have n1_:=ζa (ζh (by (with_reducible repeat (first|apply ζd|apply ζc|apply ζe));exact HO386.out) hb);have n2_:=ζa (ζh (by (with_reducible repeat (first|apply ζd|apply ζc|apply ζe));exact HO389.out) hb);have n3_:=ζa (ζh (by (with_reducible repeat (first|apply ζd|apply ζc|apply ζe));exact HO393.out) hb);have n4_:=ζa (δr (by repeat (first|(with_reducible first|exact HB.out|apply δk|apply δi|apply δj)|exact HB.out)) hb);clear HO382;clear HO386;clear HO389;clear HO393;clear HB;have HO382:=n0_;have HO386:=n1_;have HO389:=n2_;have HO393:=n3_;have HB:=n4_;clear n0_ n1_ n2_ n3_ n4_;(try clear hb);(try clear hb2);(try clear hk);(try clear hi)))
      go_meet
      case rel=>exact ⟨_,(τ),(by first|rfl|(simp;done)|(simp [*];done)),H',⟨by first|omega|exact Nat.le_refl _⟩,⟨by (with_reducible repeat (first|apply ζd|apply ζc|apply ζe));exact Kd.R_mono HO386.out (fun _ hk=>⟨hk.1.2,hk.2⟩)⟩,⟨by (with_reducible repeat (first|apply ζd|apply ζc|apply ζe));exact Kd.R_mono HO389.out (fun _ hk=>⟨hk.1.2,hk.2⟩)⟩,⟨by (with_reducible repeat (first|apply ζd|apply ζc|apply ζe));exact Kd.R_mono HO393.out (fun _ hk=>⟨hk.1.2,hk.2⟩)⟩,⟨by repeat (first|(with_reducible first|exact HB.out|apply δk|apply δi|apply δj)|exact HB.out)⟩⟩
    case rest =>
     clear HC14
     try clear c1
     try clear c2
     try clear p2
     try clear c4
     try clear c5
     try clear c5b0
     try clear c5b1
     try clear c6
     try clear c6b0
     try clear c6b1
     try clear c8
     try clear c8b0
     try clear c14
     try clear c16
     try clear c18
     try clear c21
     try clear c22
     try clear c23
     obtain ⟨kq,x58_13,rfl,HA,HJ13,HO_10,HO_12,HO_13,HB⟩:=hcut
     cases kq with
     | zero=>exact absurd HA.out (by simp [laws_FnExactDoneTake.j0])
     | succ kj13 =>
      have H:=HA.out
      clear HA
      simp only [laws_FnExactDoneTake.j0] at H
      by_cases c30:x58_13=τ
      ·
       subst c30
       have H1:(some φ)=some r:=by rw [if_pos rfl] at H;exact H
       clear H
       have H:=H1
       clear H1
       obtain rfl:=Option.some.inj H
       go_wp2
       go_ret
       exact ⟨by first|rfl|(simp [errW_none,errW_some] <;> rfl)|(simp [*,errW_none,errW_some] <;> rfl),by repeat (first|(with_reducible first|exact HB.out|apply δk|apply δi|apply δj)|exact HB.out)⟩
      ·
       replace c30:=Bool.eq_false_iff.mpr c30
       subst c30
       have H1:((laws_toPairS.f kj13 l1).bind fun t395=>((laws_eqPairS.f kj13 t387 t395).bind fun t398=>(if t398=τ then ((laws_markPairS.f kj13 t387 1).bind fun bt399=>(if bt399.1<0 then (laws_FnExactDoneTake.j1 kj13 a0 l1 a2 a3 t383 t384 t390 τ) else ((laws_eqPairS.f kj13 t390 t383).bind fun t401=>(if t401=τ then (laws_FnExactDoneTake.j1 kj13 a0 l1 a2 a3 t383 t384 t390 (t391 != t384)) else (laws_FnExactDoneTake.j1 kj13 a0 l1 a2 a3 t383 t384 t390 τ))))) else (some φ))))=some r:=by rw [if_neg (show ¬ (φ=τ) by decide)] at H;exact H
       clear H
       have H:=H1
       clear H1
       replace H:=Option.bind_eq_some_iff.mp H
       obtain ⟨t395,A310,H⟩:=H
       replace H:((laws_eqPairS.f kj13 t387 t395).bind fun t398=>(if t398=τ then ((laws_markPairS.f kj13 t387 1).bind fun bt399=>(if bt399.1<0 then (laws_FnExactDoneTake.j1 kj13 a0 l1 a2 a3 t383 t384 t390 τ) else ((laws_eqPairS.f kj13 t390 t383).bind fun t401=>(if t401=τ then (laws_FnExactDoneTake.j1 kj13 a0 l1 a2 a3 t383 t384 t390 (t391 != t384)) else (laws_FnExactDoneTake.j1 kj13 a0 l1 a2 a3 t383 t384 t390 τ))))) else (some φ)))=some r:=H
       have A31:=ζa A310
       clear A310
       replace H:=Option.bind_eq_some_iff.mp H
       obtain ⟨t398,A320,H⟩:=H
       replace H:(if t398=τ then ((laws_markPairS.f kj13 t387 1).bind fun bt399=>(if bt399.1<0 then (laws_FnExactDoneTake.j1 kj13 a0 l1 a2 a3 t383 t384 t390 τ) else ((laws_eqPairS.f kj13 t390 t383).bind fun t401=>(if t401=τ then (laws_FnExactDoneTake.j1 kj13 a0 l1 a2 a3 t383 t384 t390 (t391 != t384)) else (laws_FnExactDoneTake.j1 kj13 a0 l1 a2 a3 t383 t384 t390 τ))))) else (some φ))=some r:=H
       have A32:=ζa A320
       clear A320
       by_cases c33:t398=τ
       ·
        subst c33
        have H1:((laws_markPairS.f kj13 t387 1).bind fun bt399=>(if bt399.1<0 then (laws_FnExactDoneTake.j1 kj13 a0 l1 a2 a3 t383 t384 t390 τ) else ((laws_eqPairS.f kj13 t390 t383).bind fun t401=>(if t401=τ then (laws_FnExactDoneTake.j1 kj13 a0 l1 a2 a3 t383 t384 t390 (t391 != t384)) else (laws_FnExactDoneTake.j1 kj13 a0 l1 a2 a3 t383 t384 t390 τ)))))=some r:=by rw [if_pos rfl] at H;exact H
        clear H
        have H:=H1
        clear H1
        replace H:=Option.bind_eq_some_iff.mp H
        obtain ⟨⟨t399,t400⟩,A340,H⟩:=H
        replace H:(if t399<0 then (laws_FnExactDoneTake.j1 kj13 a0 l1 a2 a3 t383 t384 t390 τ) else ((laws_eqPairS.f kj13 t390 t383).bind fun t401=>(if t401=τ then (laws_FnExactDoneTake.j1 kj13 a0 l1 a2 a3 t383 t384 t390 (t391 != t384)) else (laws_FnExactDoneTake.j1 kj13 a0 l1 a2 a3 t383 t384 t390 τ))))=some r:=H
        have A34:=ζa A340
        clear A340
        have HC35:=ζa H
        clear H
        go_upto_region 18 with (first|((with_reducible refine δv (f:=16) rfl ?_);refine goesL_ (some 61) rfl rfl Tryz.func16 (by kernel_rfl) rfl #[.slice A1 l1.length c1] rfl (by (try simp only [δd,δe,δf]);first|done|rfl|(simp only [δg,δh];rfl)) ?_;(with_reducible refine (laws_toPairS.calls kj13 _ _ l1 t395 _ ?side1 ?side2 A31.out).mono ?_);(case side1=>repeat (first|exact (Kd.C_below HR1.out HB.out)|(with_reducible refine Kd.C_alloc ?_ _)|(with_reducible refine Kd.C_drewN ?_ _)|(with_reducible refine Kd.C_drew ?_)));(case side2=>exact HC1.out);rintro e w36 ⟨v396,rfl,ho0,hb⟩;refine ⟨_,rfl,?_⟩;have n0_:=ζa (Kd.R_elder' (by (with_reducible repeat (first|apply ζd|apply ζc|apply ζe));exact HO_10.out) (Kd.R_base ho0) hb);have n1_:=ζa (Kd.R_elder' (by (with_reducible repeat (first|apply ζd|apply ζc|apply ζe));exact HO_12.out) (Kd.R_base ho0) hb);have n2_:=ζa (Kd.R_elder' (by (with_reducible repeat (first|apply ζd|apply ζc|apply ζe));exact HO_13.out) (Kd.R_base ho0) hb);have n3_:=ζa (Kd.R_lower (Kd.R_new' (Kd.R_new' (Kd.R_new' ho0 (Kd.R_lt (by (with_reducible repeat (first|apply ζd|apply ζc|apply ζe));exact HO_10.out))) (Kd.R_lt (by (with_reducible repeat (first|apply ζd|apply ζc|apply ζe));exact HO_12.out))) (Kd.R_lt (by (with_reducible repeat (first|apply ζd|apply ζc|apply ζe));exact HO_13.out))) (δs (by repeat (first|(with_reducible first|exact HB.out|apply δk|apply δi|apply δj)|exact HB.out))));have n4_:=ζa (δr (by repeat (first|(with_reducible first|exact HB.out|apply δk|apply δi|apply δj)|exact HB.out)) hb);clear HO_10;clear HO_12;clear HO_13;clear HB;have HO_10:=n0_;have HO_12:=n1_;have HO_13:=n2_;have HO397:=n3_;have HB:=n4_;clear n0_ n1_ n2_ n3_ n4_;(try clear hb);(try clear hb2);(try clear hk);(try clear hi);(try clear ho0);obtain ⟨Ao37,co37,eo37⟩:=Kd.R_slice HO397.out;subst eo37)|((with_reducible refine δv (f:=18) rfl ?_);refine goesL_ (some 62) rfl rfl Tryz.func18 (by kernel_rfl) rfl #[.slice Ao20 t387.length co20,.slice Ao37 t395.length co37] rfl (by (try simp only [δd,δe,δf]);first|done|rfl|(simp only [δg,δh];rfl)) ?_;(with_reducible refine (laws_eqPairS.calls kj13 _ _ t387 _ _ t395 τ _ ?side1 ?side2 ?side3 ?side4 A32.out).mono ?_);(case side1=>repeat (first|exact (ζg HO_12.out).2.2|(with_reducible refine Kd.C_alloc ?_ _)|(with_reducible refine Kd.C_drewN ?_ _)|(with_reducible refine Kd.C_drew ?_)));(case side2=>exact (ζg HO_12.out).2.1);(case side3=>repeat (first|exact (ζg HO397.out).2.2|(with_reducible refine Kd.C_alloc ?_ _)|(with_reducible refine Kd.C_drewN ?_ _)|(with_reducible refine Kd.C_drew ?_)));(case side4=>exact (ζg HO397.out).2.1);rintro e w38 ⟨rfl,hb⟩;refine ⟨_,rfl,?_⟩;have n0_:=ζa (ζh (by (with_reducible repeat (first|apply ζd|apply ζc|apply ζe));exact HO_10.out) hb);have n1_:=ζa (ζh (by (with_reducible repeat (first|apply ζd|apply ζc|apply ζe));exact HO_12.out) hb);have n2_:=ζa (ζh (by (with_reducible repeat (first|apply ζd|apply ζc|apply ζe));exact HO_13.out) hb);have n3_:=ζa (ζh (by (with_reducible repeat (first|apply ζd|apply ζc|apply ζe));exact HO397.out) hb);have n4_:=ζa (δr (by repeat (first|(with_reducible first|exact HB.out|apply δk|apply δi|apply δj)|exact HB.out)) hb);clear HO_10;clear HO_12;clear HO_13;clear HO397;clear HB;have HO_10:=n0_;have HO_12:=n1_;have HO_13:=n2_;have HO397:=n3_;have HB:=n4_;clear n0_ n1_ n2_ n3_ n4_;(try clear hb);(try clear hb2);(try clear hk);(try clear hi))|((with_reducible refine δv (f:=19) rfl ?_);refine goesL_ (some 66) rfl rfl Tryz.func19 (by kernel_rfl) rfl #[.slice Ao20 t387.length co20,.int .i64 1] rfl (by (try simp only [δd,δe,δf]);first|done|rfl|(simp only [δg,δh];rfl)) ?_;(with_reducible refine (laws_markPairS.calls kj13 (fun k_=>some k_=(.slice Ao20 t387.length co20:Value).ownBlock) (.slice Ao20 t387.length co20) t387 1 t399 t400 w _ ?side1 ?side2 A34.out).mono ?_);(case side1=>repeat (first|(with_reducible first|exact HB.out|apply δk|apply δi|apply δj)|exact HB.out));(case side2=>exact Kd.R_tight rfl HO_12.out);rintro e w39 ⟨rfl,hy0,hb,hkp⟩;refine ⟨_,rfl,?_⟩;have n0_:=ζa (Kd.R_mono (ok':=fun k_=>some k_≠(.slice Ao20 t387.length co20:Value).ownBlock∧some k_≠(v392:Value).ownBlock∧some k_≠(.slice Ao37 t395.length co37:Value).ownBlock) (Kd.R_keptB (HO_10.out) hkp (fun k_ hk_ hs_=>(hk_.1.1) hs_)) (fun k_ hk_=>⟨hk_.1.1.1,hk_.1.1.2,hk_.1.2⟩));have n1_:=ζa (Kd.R_reok rfl hy0 (fun k_ e_=>HO_12.out.1 k_ e_));have n2_:=ζa (Kd.R_mono (ok':=fun k_=>some k_≠(v385:Value).ownBlock∧some k_≠(.slice Ao20 t387.length co20:Value).ownBlock∧some k_≠(.slice Ao37 t395.length co37:Value).ownBlock) (Kd.R_keptB (HO_13.out) hkp (fun k_ hk_ hs_=>(hk_.1.2) hs_)) (fun k_ hk_=>⟨hk_.1.1.1,hk_.1.1.2,hk_.1.2⟩));have n3_:=ζa (Kd.R_mono (ok':=fun k_=>some k_≠(v385:Value).ownBlock∧some k_≠(.slice Ao20 t387.length co20:Value).ownBlock∧some k_≠(v392:Value).ownBlock) (Kd.R_keptB (HO397.out) hkp (fun k_ hk_ hs_=>(hk_.1.2) hs_)) (fun k_ hk_=>⟨hk_.1.1.1.2,hk_.1.1.2,hk_.1.2⟩));have n4_:=ζa (hb);clear HO_10;clear HO_12;clear HO_13;clear HO397;clear HB;have HO_10:=n0_;have HO_12:=n1_;have HO_13:=n2_;have HO397:=n3_;have HB:=n4_;clear n0_ n1_ n2_ n3_ n4_;(try clear hb);(try clear hkp);(try clear hy0)))
        (try simp only [ζl,δa,δb,δc])
        go_cut [79] (fun v79 wc => ∃ (kq:Nat) (x79_34:Bool),v79 = .bool x79_34∧Aside0 (laws_FnExactDoneTake.j1 kq a0 l1 a2 a3 t383 t384 t390 x79_34=some r)∧Aside0 (kq≤kj13)∧Aside0 (Kd.R k51 51 wc w.heap.size (fun k_=>some k_≠(v392:Value).ownBlock) v385 t383)∧Aside0 (Kd.R k51 51 wc w.heap.size (fun k_=>some k_≠(v385:Value).ownBlock) v392 t390)∧Aside0 (Below w.heap.size w wc))
        case first =>
         have H:=HC35.out
         clear HC35
         by_cases c40:t399<0
         ·
          rw [if_pos c40] at H
          have c40b0:decide (t399<0)=τ:=decide_eq_true c40
          clear c40
          (first|rw [c40b0]|(simp only [i64_w,i32_w];rw [c40b0])|skip)
          have H':=ζa H
          clear H
          go_wp2
          go_meet
          case rel=>exact ⟨_,(τ),(by first|rfl|(simp;done)|(simp [*];done)),H',⟨by have:=HJ13.out;first|omega|exact Nat.le_refl _⟩,⟨by (with_reducible repeat (first|apply ζd|apply ζc|apply ζe));exact Kd.R_mono HO_10.out (fun _ hk=>hk.2.1)⟩,⟨by (with_reducible repeat (first|apply ζd|apply ζc|apply ζe));exact Kd.R_mono HO_13.out (fun _ hk=>hk.1)⟩,⟨by repeat (first|(with_reducible first|exact HB.out|apply δk|apply δi|apply δj)|exact HB.out)⟩⟩
         ·
          rw [if_neg c40] at H
          have c40b0:decide (t399<0)=φ:=decide_eq_false c40
          clear c40
          (first|rw [c40b0]|(simp only [i64_w,i32_w];rw [c40b0])|skip)
          replace H:=Option.bind_eq_some_iff.mp H
          obtain ⟨t401,A410,H⟩:=H
          replace H:(if t401=τ then (laws_FnExactDoneTake.j1 kj13 a0 l1 a2 a3 t383 t384 t390 (t391 != t384)) else (laws_FnExactDoneTake.j1 kj13 a0 l1 a2 a3 t383 t384 t390 τ))=some r:=H
          have A41:=ζa A410
          clear A410
          by_cases c42:t401=τ
          ·
           subst c42
           have H1:(laws_FnExactDoneTake.j1 kj13 a0 l1 a2 a3 t383 t384 t390 (t391 != t384))=some r:=by rw [if_pos rfl] at H;exact H
           clear H
           have H:=H1
           clear H1
           have H':=ζa H
           clear H
           obtain ⟨Ao43,co43,eo43⟩:=Kd.R_slice HO_13.out
           subst eo43
           obtain ⟨Ao44,co44,eo44⟩:=Kd.R_slice HO_10.out
           subst eo44
           go_wp2_with (first|(go_at_call 18;(with_reducible refine (laws_eqPairS.calls kj13 _ _ t390 _ _ t383 τ _ ?side1 ?side2 ?side3 ?side4 A41.out).mono ?_);(case side1=>repeat (first|exact (ζg HO_13.out).2.2|(with_reducible refine Kd.C_alloc ?_ _)|(with_reducible refine Kd.C_drewN ?_ _)|(with_reducible refine Kd.C_drew ?_)));(case side2=>exact (ζg HO_13.out).2.1);(case side3=>repeat (first|exact (ζg HO_10.out).2.2|(with_reducible refine Kd.C_alloc ?_ _)|(with_reducible refine Kd.C_drewN ?_ _)|(with_reducible refine Kd.C_drew ?_)));(case side4=>exact (ζg HO_10.out).2.1);rintro e w45 ⟨rfl,hb⟩;have n0_:=ζa (ζh (by (with_reducible repeat (first|apply ζd|apply ζc|apply ζe));exact HO_10.out) hb);have n1_:=ζa (ζh (by (with_reducible repeat (first|apply ζd|apply ζc|apply ζe));exact HO_12.out) hb);have n2_:=ζa (ζh (by (with_reducible repeat (first|apply ζd|apply ζc|apply ζe));exact HO_13.out) hb);have n3_:=ζa (ζh (by (with_reducible repeat (first|apply ζd|apply ζc|apply ζe));exact HO397.out) hb);have n4_:=ζa (δr (by repeat (first|(with_reducible first|exact HB.out|apply δk|apply δi|apply δj)|exact HB.out)) hb);clear HO_10;clear HO_12;clear HO_13;clear HO397;clear HB;have HO_10:=n0_;have HO_12:=n1_;have HO_13:=n2_;have HO397:=n3_;have HB:=n4_;clear n0_ n1_ n2_ n3_ n4_;(try clear hb);(try clear hb2);(try clear hk);(try clear hi)))
           go_meet
           case rel=>exact ⟨_,((t391 != t384)),(by first|rfl|(simp;done)|(simp [*];done)),H',⟨by have:=HJ13.out;first|omega|exact Nat.le_refl _⟩,⟨by (with_reducible repeat (first|apply ζd|apply ζc|apply ζe));exact Kd.R_mono HO_10.out (fun _ hk=>hk.2.1)⟩,⟨by (with_reducible repeat (first|apply ζd|apply ζc|apply ζe));exact Kd.R_mono HO_13.out (fun _ hk=>hk.1)⟩,⟨by repeat (first|(with_reducible first|exact HB.out|apply δk|apply δi|apply δj)|exact HB.out)⟩⟩
          ·
           replace c42:=Bool.eq_false_iff.mpr c42
           subst c42
           have H1:(laws_FnExactDoneTake.j1 kj13 a0 l1 a2 a3 t383 t384 t390 τ)=some r:=by rw [if_neg (show ¬ (φ=τ) by decide)] at H;exact H
           clear H
           have H:=H1
           clear H1
           have H':=ζa H
           clear H
           obtain ⟨Ao46,co46,eo46⟩:=Kd.R_slice HO_13.out
           subst eo46
           obtain ⟨Ao47,co47,eo47⟩:=Kd.R_slice HO_10.out
           subst eo47
           go_wp2_with (first|(go_at_call 18;(with_reducible refine (laws_eqPairS.calls kj13 _ _ t390 _ _ t383 φ _ ?side1 ?side2 ?side3 ?side4 A41.out).mono ?_);(case side1=>repeat (first|exact (ζg HO_13.out).2.2|(with_reducible refine Kd.C_alloc ?_ _)|(with_reducible refine Kd.C_drewN ?_ _)|(with_reducible refine Kd.C_drew ?_)));(case side2=>exact (ζg HO_13.out).2.1);(case side3=>repeat (first|exact (ζg HO_10.out).2.2|(with_reducible refine Kd.C_alloc ?_ _)|(with_reducible refine Kd.C_drewN ?_ _)|(with_reducible refine Kd.C_drew ?_)));(case side4=>exact (ζg HO_10.out).2.1);rintro e w48 ⟨rfl,hb⟩;have n0_:=ζa (ζh (by (with_reducible repeat (first|apply ζd|apply ζc|apply ζe));exact HO_10.out) hb);have n1_:=ζa (ζh (by (with_reducible repeat (first|apply ζd|apply ζc|apply ζe));exact HO_12.out) hb);have n2_:=ζa (ζh (by (with_reducible repeat (first|apply ζd|apply ζc|apply ζe));exact HO_13.out) hb);have n3_:=ζa (ζh (by (with_reducible repeat (first|apply ζd|apply ζc|apply ζe));exact HO397.out) hb);have n4_:=ζa (δr (by repeat (first|(with_reducible first|exact HB.out|apply δk|apply δi|apply δj)|exact HB.out)) hb);clear HO_10;clear HO_12;clear HO_13;clear HO397;clear HB;have HO_10:=n0_;have HO_12:=n1_;have HO_13:=n2_;have HO397:=n3_;have HB:=n4_;clear n0_ n1_ n2_ n3_ n4_;(try clear hb);(try clear hb2);(try clear hk);(try clear hi)))
           go_meet
           case rel=>exact ⟨_,(τ),(by first|rfl|(simp;done)|(simp [*];done)),H',⟨by have:=HJ13.out;first|omega|exact Nat.le_refl _⟩,⟨by (with_reducible repeat (first|apply ζd|apply ζc|apply ζe));exact Kd.R_mono HO_10.out (fun _ hk=>hk.2.1)⟩,⟨by (with_reducible repeat (first|apply ζd|apply ζc|apply ζe));exact Kd.R_mono HO_13.out (fun _ hk=>hk.1)⟩,⟨by repeat (first|(with_reducible first|exact HB.out|apply δk|apply δi|apply δj)|exact HB.out)⟩⟩
        case rest =>
         clear HC35
         try clear c1
         try clear c2
         try clear p2
         try clear c3
         try clear c4
         try clear c5
         try clear c5b0
         try clear c5b1
         try clear c6
         try clear c6b0
         try clear c6b1
         try clear c8
         try clear c8b0
         try clear c14
         try clear c16
         try clear c18
         try clear c19
         try clear c21
         try clear c22
         try clear c23
         try clear c30
         try clear c33
         try clear c40
         try clear c40b0
         try clear c42
         try clear p2
         obtain ⟨kq,x79_34,rfl,HA,HJ34,HO_10,HO_13,HB⟩:=hcut
         cases kq with
         | zero=>exact absurd HA.out (by simp [laws_FnExactDoneTake.j1])
         | succ kj34 =>
          have H:=HA.out
          clear HA
          simp only [laws_FnExactDoneTake.j1] at H
          by_cases c49:x79_34=τ
          ·
           subst c49
           have H1:(some φ)=some r:=by rw [if_pos rfl] at H;exact H
           clear H
           have H:=H1
           clear H1
           obtain rfl:=Option.some.inj H
           go_wp2
           go_ret
           exact ⟨by first|rfl|(simp [errW_none,errW_some] <;> rfl)|(simp [*,errW_none,errW_some] <;> rfl),by repeat (first|(with_reducible first|exact HB.out|apply δk|apply δi|apply δj)|exact HB.out)⟩
          ·
           replace c49:=Bool.eq_false_iff.mpr c49
           subst c49
           have H1:((laws_markPairS.f kj34 t390 1).bind fun bt402=>((laws_heldPairS.f kj34 bt402.2 1).bind fun t404=>(if t404<0 then (some φ) else (if t404=bt402.1 then ((laws_toPairS.f kj34 l1).bind fun t405=>((impl_DoneTake.f kj34 a0 t405 a2 a3).bind fun bt408=>((laws_eqPairS.f kj34 bt408.1 t383).bind fun t412=>(if t412=τ then (laws_FnExactDoneTake.j2 kj34 bt402.2 bt402.1 (bt408.2 != t384)) else (laws_FnExactDoneTake.j2 kj34 bt402.2 bt402.1 τ))))) else (some φ)))))=some r:=by rw [if_neg (show ¬ (φ=τ) by decide)] at H;exact H
           clear H
           have H:=H1
           clear H1
           replace H:=Option.bind_eq_some_iff.mp H
           obtain ⟨⟨t402,t403⟩,A500,H⟩:=H
           replace H:((laws_heldPairS.f kj34 t403 1).bind fun t404=>(if t404<0 then (some φ) else (if t404=t402 then ((laws_toPairS.f kj34 l1).bind fun t405=>((impl_DoneTake.f kj34 a0 t405 a2 a3).bind fun bt408=>((laws_eqPairS.f kj34 bt408.1 t383).bind fun t412=>(if t412=τ then (laws_FnExactDoneTake.j2 kj34 t403 t402 (bt408.2 != t384)) else (laws_FnExactDoneTake.j2 kj34 t403 t402 τ))))) else (some φ))))=some r:=H
           have A50:=ζa A500
           clear A500
           replace H:=Option.bind_eq_some_iff.mp H
           obtain ⟨t404,A510,H⟩:=H
           replace H:(if t404<0 then (some φ) else (if t404=t402 then ((laws_toPairS.f kj34 l1).bind fun t405=>((impl_DoneTake.f kj34 a0 t405 a2 a3).bind fun bt408=>((laws_eqPairS.f kj34 bt408.1 t383).bind fun t412=>(if t412=τ then (laws_FnExactDoneTake.j2 kj34 t403 t402 (bt408.2 != t384)) else (laws_FnExactDoneTake.j2 kj34 t403 t402 τ))))) else (some φ)))=some r:=H
           have A51:=ζa A510
           clear A510
           by_cases c52:t404<0
           ·
            rw [if_pos c52] at H
            have c52b0:decide (t404<0)=τ:=decide_eq_true c52
            clear c52
            obtain rfl:=Option.some.inj H
            obtain ⟨Ao53,co53,eo53⟩:=Kd.R_slice HO_13.out
            subst eo53
            go_wp2_with (first|((with_reducible refine δv (f:=19) rfl ?_);refine goesL_ (some 82) rfl rfl Tryz.func19 (by kernel_rfl) rfl #[.slice Ao53 t390.length co53,.int .i64 1] rfl (by (try simp only [δd,δe,δf]);first|done|rfl|(simp only [δg,δh];rfl)) ?_;(with_reducible refine (laws_markPairS.calls kj34 (fun k_=>some k_=(.slice Ao53 t390.length co53:Value).ownBlock) (.slice Ao53 t390.length co53) t390 1 t402 t403 w _ ?side1 ?side2 A50.out).mono ?_);(case side1=>repeat (first|(with_reducible first|exact HB.out|apply δk|apply δi|apply δj)|exact HB.out));(case side2=>exact Kd.R_tight rfl HO_13.out);rintro e w54 ⟨rfl,hy0,hb,hkp⟩;refine ⟨_,rfl,?_⟩;have n0_:=ζa (Kd.R_mono (ok':=fun k_=>some k_≠(.slice Ao53 t390.length co53:Value).ownBlock) (Kd.R_keptB (HO_10.out) hkp (fun k_ hk_ hs_=>(hk_) hs_)) (fun k_ hk_=>hk_.1));have n1_:=ζa (Kd.R_reok rfl hy0 (fun k_ e_=>HO_13.out.1 k_ e_));have n2_:=ζa (hb);clear HO_10;clear HO_13;clear HB;have HO_10:=n0_;have HO_13:=n1_;have HB:=n2_;clear n0_ n1_ n2_;(try clear hb);(try clear hkp);(try clear hy0))|((with_reducible refine δv (f:=20) rfl ?_);refine goesL_ (some 85) rfl rfl Tryz.func20 (by kernel_rfl) rfl #[.slice Ao53 t403.length co53,.int .i64 1] rfl (by (try simp only [δd,δe,δf]);first|done|(rw [show t403.length=t390.length from (ζg HO_13.out).1.symm] <;> rfl)|rfl|(simp only [δg,δh];rfl)) ?_;(with_reducible refine (laws_heldPairS.calls kj34 _ _ t403 1 t404 _ ?side1 ?side2 A51.out).mono ?_);(case side1=>repeat (first|exact (ζg HO_13.out).2.2|(with_reducible refine Kd.C_alloc ?_ _)|(with_reducible refine Kd.C_drewN ?_ _)|(with_reducible refine Kd.C_drew ?_)));(case side2=>rw [show t403.length=t390.length from (ζg HO_13.out).1.symm];exact (ζg HO_13.out).2.1);rintro e w55 ⟨rfl,hb⟩;refine ⟨_,rfl,?_⟩;have n0_:=ζa (ζh (by (with_reducible repeat (first|apply ζd|apply ζc|apply ζe));exact HO_10.out) hb);have n1_:=ζa (ζh (by (with_reducible repeat (first|apply ζd|apply ζc|apply ζe));exact HO_13.out) hb);have n2_:=ζa (δr (by repeat (first|(with_reducible first|exact HB.out|apply δk|apply δi|apply δj)|exact HB.out)) hb);clear HO_10;clear HO_13;clear HB;have HO_10:=n0_;have HO_13:=n1_;have HB:=n2_;clear n0_ n1_ n2_;(try clear hb);(try clear hb2);(try clear hk);(try clear hi)))
            go_ret
            exact ⟨by first|rfl|(simp [errW_none,errW_some] <;> rfl)|(simp [*,errW_none,errW_some] <;> rfl),by repeat (first|(with_reducible first|exact HB.out|apply δk|apply δi|apply δj)|exact HB.out)⟩
           ·
            rw [if_neg c52] at H
            have c52b0:decide (t404<0)=φ:=decide_eq_false c52
            clear c52
            by_cases c56:t404=t402
            ·
             rw [if_pos c56] at H
             have c56b0:(t404 == t402)=τ:=beq_iff_eq.mpr c56
             have c56b1:(t404 != t402)=φ:=bne_eq_false_iff_eq.mpr c56
             clear c56
             replace H:=Option.bind_eq_some_iff.mp H
             obtain ⟨t405,A570,H⟩:=H
             replace H:((impl_DoneTake.f kj34 a0 t405 a2 a3).bind fun bt408=>((laws_eqPairS.f kj34 bt408.1 t383).bind fun t412=>(if t412=τ then (laws_FnExactDoneTake.j2 kj34 t403 t402 (bt408.2 != t384)) else (laws_FnExactDoneTake.j2 kj34 t403 t402 τ))))=some r:=H
             have A57:=ζa A570
             clear A570
             replace H:=Option.bind_eq_some_iff.mp H
             obtain ⟨⟨t408,t409⟩,A580,H⟩:=H
             replace H:((laws_eqPairS.f kj34 t408 t383).bind fun t412=>(if t412=τ then (laws_FnExactDoneTake.j2 kj34 t403 t402 (t409 != t384)) else (laws_FnExactDoneTake.j2 kj34 t403 t402 τ)))=some r:=H
             have A58:=ζa A580
             clear A580
             have HC59:=ζa H
             clear H
             obtain ⟨Ao60,co60,eo60⟩:=Kd.R_slice HO_13.out
             subst eo60
             go_upto_region 29 with (first|((with_reducible refine δv (f:=19) rfl ?_);refine goesL_ (some 82) rfl rfl Tryz.func19 (by kernel_rfl) rfl #[.slice Ao60 t390.length co60,.int .i64 1] rfl (by (try simp only [δd,δe,δf]);first|done|rfl|(simp only [δg,δh];rfl)) ?_;(with_reducible refine (laws_markPairS.calls kj34 (fun k_=>some k_=(.slice Ao60 t390.length co60:Value).ownBlock) (.slice Ao60 t390.length co60) t390 1 t402 t403 w _ ?side1 ?side2 A50.out).mono ?_);(case side1=>repeat (first|(with_reducible first|exact HB.out|apply δk|apply δi|apply δj)|exact HB.out));(case side2=>exact Kd.R_tight rfl HO_13.out);rintro e w61 ⟨rfl,hy0,hb,hkp⟩;refine ⟨_,rfl,?_⟩;have n0_:=ζa (Kd.R_mono (ok':=fun k_=>some k_≠(.slice Ao60 t390.length co60:Value).ownBlock) (Kd.R_keptB (HO_10.out) hkp (fun k_ hk_ hs_=>(hk_) hs_)) (fun k_ hk_=>hk_.1));have n1_:=ζa (Kd.R_reok rfl hy0 (fun k_ e_=>HO_13.out.1 k_ e_));have n2_:=ζa (hb);clear HO_10;clear HO_13;clear HB;have HO_10:=n0_;have HO_13:=n1_;have HB:=n2_;clear n0_ n1_ n2_;(try clear hb);(try clear hkp);(try clear hy0))|((with_reducible refine δv (f:=20) rfl ?_);refine goesL_ (some 85) rfl rfl Tryz.func20 (by kernel_rfl) rfl #[.slice Ao60 t403.length co60,.int .i64 1] rfl (by (try simp only [δd,δe,δf]);first|done|(rw [show t403.length=t390.length from (ζg HO_13.out).1.symm] <;> rfl)|rfl|(simp only [δg,δh];rfl)) ?_;(with_reducible refine (laws_heldPairS.calls kj34 _ _ t403 1 t404 _ ?side1 ?side2 A51.out).mono ?_);(case side1=>repeat (first|exact (ζg HO_13.out).2.2|(with_reducible refine Kd.C_alloc ?_ _)|(with_reducible refine Kd.C_drewN ?_ _)|(with_reducible refine Kd.C_drew ?_)));(case side2=>rw [show t403.length=t390.length from (ζg HO_13.out).1.symm];exact (ζg HO_13.out).2.1);rintro e w62 ⟨rfl,hb⟩;refine ⟨_,rfl,?_⟩;have n0_:=ζa (ζh (by (with_reducible repeat (first|apply ζd|apply ζc|apply ζe));exact HO_10.out) hb);have n1_:=ζa (ζh (by (with_reducible repeat (first|apply ζd|apply ζc|apply ζe));exact HO_13.out) hb);have n2_:=ζa (δr (by repeat (first|(with_reducible first|exact HB.out|apply δk|apply δi|apply δj)|exact HB.out)) hb);clear HO_10;clear HO_13;clear HB;have HO_10:=n0_;have HO_13:=n1_;have HB:=n2_;clear n0_ n1_ n2_;(try clear hb);(try clear hb2);(try clear hk);(try clear hi))|((with_reducible refine δv (f:=16) rfl ?_);refine goesL_ (some 94) rfl rfl Tryz.func16 (by kernel_rfl) rfl #[.slice A1 l1.length c1] rfl (by (try simp only [δd,δe,δf]);first|done|rfl|(simp only [δg,δh];rfl)) ?_;(with_reducible refine (laws_toPairS.calls kj34 _ _ l1 t405 _ ?side1 ?side2 A57.out).mono ?_);(case side1=>repeat (first|exact (Kd.C_below HR1.out HB.out)|(with_reducible refine Kd.C_alloc ?_ _)|(with_reducible refine Kd.C_drewN ?_ _)|(with_reducible refine Kd.C_drew ?_)));(case side2=>exact HC1.out);rintro e w63 ⟨v406,rfl,ho0,hb⟩;refine ⟨_,rfl,?_⟩;have n0_:=ζa (Kd.R_elder' (by (with_reducible repeat (first|apply ζd|apply ζc|apply ζe));exact HO_10.out) (Kd.R_base ho0) hb);have n1_:=ζa (Kd.R_elder' (by (with_reducible repeat (first|apply ζd|apply ζc|apply ζe));exact HO_13.out) (Kd.R_base ho0) hb);have n2_:=ζa (Kd.R_lower (Kd.R_new' (Kd.R_new' ho0 (Kd.R_lt (by (with_reducible repeat (first|apply ζd|apply ζc|apply ζe));exact HO_10.out))) (Kd.R_lt (by (with_reducible repeat (first|apply ζd|apply ζc|apply ζe));exact HO_13.out))) (δs (by repeat (first|(with_reducible first|exact HB.out|apply δk|apply δi|apply δj)|exact HB.out))));have n3_:=ζa (δr (by repeat (first|(with_reducible first|exact HB.out|apply δk|apply δi|apply δj)|exact HB.out)) hb);clear HO_10;clear HO_13;clear HB;have HO_10:=n0_;have HO_13:=n1_;have HO407:=n2_;have HB:=n3_;clear n0_ n1_ n2_ n3_;(try clear hb);(try clear hb2);(try clear hk);(try clear hi);(try clear ho0);obtain ⟨Ao64,co64,eo64⟩:=Kd.R_slice HO407.out;subst eo64)|((with_reducible refine δv (f:=22) rfl ?_);refine goesL_ (some 97) rfl rfl Tryz.func22 (by kernel_rfl) rfl #[.string a0,.slice Ao64 t405.length co64,.string a2,.bool a3] rfl (by (try simp only [δd,δe,δf]);first|done|rfl|(simp only [δg,δh];rfl)) ?_;(with_reducible refine (impl_DoneTake.calls kj34 a0 _ _ t405 a2 a3 t408 t409 _ ?side1 ?side2 (HT0.out.below (by repeat (first|(with_reducible first|exact HB.out|apply δk|apply δi|apply δj)|exact HB.out))) A58.out).mono ?_);(case side1=>repeat (first|exact (ζg HO407.out).2.2|(with_reducible refine Kd.C_alloc ?_ _)|(with_reducible refine Kd.C_drewN ?_ _)|(with_reducible refine Kd.C_drew ?_)));(case side2=>exact (ζg HO407.out).2.1);rintro e w65 ⟨v410,rfl,ho0,hb⟩;refine ⟨_,rfl,?_⟩;have n0_:=ζa (Kd.R_elder' (by (with_reducible repeat (first|apply ζd|apply ζc|apply ζe));exact HO_10.out) (Kd.R_base ho0) hb);have n1_:=ζa (Kd.R_elder' (by (with_reducible repeat (first|apply ζd|apply ζc|apply ζe));exact HO_13.out) (Kd.R_base ho0) hb);have n2_:=ζa (Kd.R_elder' (by (with_reducible repeat (first|apply ζd|apply ζc|apply ζe));exact HO407.out) (Kd.R_base ho0) hb);have n3_:=ζa (Kd.R_lower (Kd.R_new' (Kd.R_new' (Kd.R_new' ho0 (Kd.R_lt (by (with_reducible repeat (first|apply ζd|apply ζc|apply ζe));exact HO_10.out))) (Kd.R_lt (by (with_reducible repeat (first|apply ζd|apply ζc|apply ζe));exact HO_13.out))) (Kd.R_lt (by (with_reducible repeat (first|apply ζd|apply ζc|apply ζe));exact HO407.out))) (δs (by repeat (first|(with_reducible first|exact HB.out|apply δk|apply δi|apply δj)|exact HB.out))));have n4_:=ζa (δr (by repeat (first|(with_reducible first|exact HB.out|apply δk|apply δi|apply δj)|exact HB.out)) hb);clear HO_10;clear HO_13;clear HO407;clear HB;have HO_10:=n0_;have HO_13:=n1_;have HO407:=n2_;have HO411:=n3_;have HB:=n4_;clear n0_ n1_ n2_ n3_ n4_;(try clear hb);(try clear hb2);(try clear hk);(try clear hi);(try clear ho0)))
             (try simp only [ζl,δa,δb,δc])
             go_cut [108] (fun v108 wc => ∃ (kq:Nat) (x108_58:Bool),v108 = .bool x108_58∧Aside0 (laws_FnExactDoneTake.j2 kq t403 t402 x108_58=some r)∧Aside0 (kq≤kj34)∧Aside0 (Kd.R k51 51 wc w.heap.size (fun _=>True) (.slice Ao60 t390.length co60) t403)∧Aside0 (Below w.heap.size w wc))
             case first =>
              have H:=HC59.out
              clear HC59
              replace H:=Option.bind_eq_some_iff.mp H
              obtain ⟨t412,A660,H⟩:=H
              replace H:(if t412=τ then (laws_FnExactDoneTake.j2 kj34 t403 t402 (t409 != t384)) else (laws_FnExactDoneTake.j2 kj34 t403 t402 τ))=some r:=H
              have A66:=ζa A660
              clear A660
              by_cases c67:t412=τ
              ·
               subst c67
               have H1:(laws_FnExactDoneTake.j2 kj34 t403 t402 (t409 != t384))=some r:=by rw [if_pos rfl] at H;exact H
               clear H
               have H:=H1
               clear H1
               have H':=ζa H
               clear H
               obtain ⟨Ao68,co68,eo68⟩:=Kd.R_slice HO411.out
               subst eo68
               obtain ⟨Ao69,co69,eo69⟩:=Kd.R_slice HO_10.out
               subst eo69
               go_wp2_with (first|((with_reducible refine δv (f:=18) rfl ?_);refine goesL_ (some 102) rfl rfl Tryz.func18 (by kernel_rfl) rfl #[.slice Ao68 t408.length co68,.slice Ao69 t383.length co69] rfl (by (try simp only [δd,δe,δf]);first|done|rfl|(simp only [δg,δh];rfl)) ?_;(with_reducible refine (laws_eqPairS.calls kj34 _ _ t408 _ _ t383 τ _ ?side1 ?side2 ?side3 ?side4 A66.out).mono ?_);(case side1=>repeat (first|exact (ζg HO411.out).2.2|(with_reducible refine Kd.C_alloc ?_ _)|(with_reducible refine Kd.C_drewN ?_ _)|(with_reducible refine Kd.C_drew ?_)));(case side2=>exact (ζg HO411.out).2.1);(case side3=>repeat (first|exact (ζg HO_10.out).2.2|(with_reducible refine Kd.C_alloc ?_ _)|(with_reducible refine Kd.C_drewN ?_ _)|(with_reducible refine Kd.C_drew ?_)));(case side4=>exact (ζg HO_10.out).2.1);rintro e w70 ⟨rfl,hb⟩;refine ⟨_,rfl,?_⟩;have n0_:=ζa (ζh (by (with_reducible repeat (first|apply ζd|apply ζc|apply ζe));exact HO_10.out) hb);have n1_:=ζa (ζh (by (with_reducible repeat (first|apply ζd|apply ζc|apply ζe));exact HO_13.out) hb);have n2_:=ζa (ζh (by (with_reducible repeat (first|apply ζd|apply ζc|apply ζe));exact HO407.out) hb);have n3_:=ζa (ζh (by (with_reducible repeat (first|apply ζd|apply ζc|apply ζe));exact HO411.out) hb);have n4_:=ζa (δr (by repeat (first|(with_reducible first|exact HB.out|apply δk|apply δi|apply δj)|exact HB.out)) hb);clear HO_10;clear HO_13;clear HO407;clear HO411;clear HB;have HO_10:=n0_;have HO_13:=n1_;have HO407:=n2_;have HO411:=n3_;have HB:=n4_;clear n0_ n1_ n2_ n3_ n4_;(try clear hb);(try clear hb2);(try clear hk);(try clear hi)))
               go_meet
               case rel=>exact ⟨_,((t409 != t384)),(by first|rfl|(simp;done)|(simp [*];done)),H',⟨by have:=HJ13.out;have:=HJ34.out;first|omega|exact Nat.le_refl _⟩,⟨by (with_reducible repeat (first|apply ζd|apply ζc|apply ζe));exact Kd.R_mono HO_13.out (fun _ hk=>trivial)⟩,⟨by repeat (first|(with_reducible first|exact HB.out|apply δk|apply δi|apply δj)|exact HB.out)⟩⟩
              ·
               replace c67:=Bool.eq_false_iff.mpr c67
               subst c67
               have H1:(laws_FnExactDoneTake.j2 kj34 t403 t402 τ)=some r:=by rw [if_neg (show ¬ (φ=τ) by decide)] at H;exact H
               clear H
               have H:=H1
               clear H1
               have H':=ζa H
               clear H
               obtain ⟨Ao71,co71,eo71⟩:=Kd.R_slice HO411.out
               subst eo71
               obtain ⟨Ao72,co72,eo72⟩:=Kd.R_slice HO_10.out
               subst eo72
               go_wp2_with (first|((with_reducible refine δv (f:=18) rfl ?_);refine goesL_ (some 102) rfl rfl Tryz.func18 (by kernel_rfl) rfl #[.slice Ao71 t408.length co71,.slice Ao72 t383.length co72] rfl (by (try simp only [δd,δe,δf]);first|done|rfl|(simp only [δg,δh];rfl)) ?_;(with_reducible refine (laws_eqPairS.calls kj34 _ _ t408 _ _ t383 φ _ ?side1 ?side2 ?side3 ?side4 A66.out).mono ?_);(case side1=>repeat (first|exact (ζg HO411.out).2.2|(with_reducible refine Kd.C_alloc ?_ _)|(with_reducible refine Kd.C_drewN ?_ _)|(with_reducible refine Kd.C_drew ?_)));(case side2=>exact (ζg HO411.out).2.1);(case side3=>repeat (first|exact (ζg HO_10.out).2.2|(with_reducible refine Kd.C_alloc ?_ _)|(with_reducible refine Kd.C_drewN ?_ _)|(with_reducible refine Kd.C_drew ?_)));(case side4=>exact (ζg HO_10.out).2.1);rintro e w73 ⟨rfl,hb⟩;refine ⟨_,rfl,?_⟩;have n0_:=ζa (ζh (by (with_reducible repeat (first|apply ζd|apply ζc|apply ζe));exact HO_10.out) hb);have n1_:=ζa (ζh (by (with_reducible repeat (first|apply ζd|apply ζc|apply ζe));exact HO_13.out) hb);have n2_:=ζa (ζh (by (with_reducible repeat (first|apply ζd|apply ζc|apply ζe));exact HO407.out) hb);have n3_:=ζa (ζh (by (with_reducible repeat (first|apply ζd|apply ζc|apply ζe));exact HO411.out) hb);have n4_:=ζa (δr (by repeat (first|(with_reducible first|exact HB.out|apply δk|apply δi|apply δj)|exact HB.out)) hb);clear HO_10;clear HO_13;clear HO407;clear HO411;clear HB;have HO_10:=n0_;have HO_13:=n1_;have HO407:=n2_;have HO411:=n3_;have HB:=n4_;clear n0_ n1_ n2_ n3_ n4_;(try clear hb);(try clear hb2);(try clear hk);(try clear hi)))
               go_meet
               case rel=>exact ⟨_,(τ),(by first|rfl|(simp;done)|(simp [*];done)),H',⟨by have:=HJ13.out;have:=HJ34.out;first|omega|exact Nat.le_refl _⟩,⟨by (with_reducible repeat (first|apply ζd|apply ζc|apply ζe));exact Kd.R_mono HO_13.out (fun _ hk=>trivial)⟩,⟨by repeat (first|(with_reducible first|exact HB.out|apply δk|apply δi|apply δj)|exact HB.out)⟩⟩
             case rest =>
              clear HC59
              try clear c1
              try clear c2
              try clear p2
              try clear c3
              try clear c4
              try clear c5
              try clear c5b0
              try clear c5b1
              try clear c6
              try clear c6b0
              try clear c6b1
              try clear c8
              try clear c8b0
              try clear c14
              try clear c16
              try clear c18
              try clear c19
              try clear c20
              try clear c21
              try clear c22
              try clear c23
              try clear c30
              try clear c33
              try clear c40
              try clear c40b0
              try clear c42
              try clear c49
              try clear c52
              try clear c52b0
              try clear c56
              try clear c56b0
              try clear c56b1
              try clear c67
              try clear p2
              obtain ⟨kq,x108_58,rfl,HA,HJ58,HO_13,HB⟩:=hcut
              have hl13_58:=(ζg HO_13.out).1
              rw [hl13_58] at HO_13
              (try simp only [hl13_58])
              cases kq with
              | zero=>exact absurd HA.out (by simp [laws_FnExactDoneTake.j2])
              | succ kj58 =>
               have H:=HA.out
               clear HA
               simp only [laws_FnExactDoneTake.j2] at H
               by_cases c74:x108_58=τ
               ·
                subst c74
                have H1:(some φ)=some r:=by rw [if_pos rfl] at H;exact H
                clear H
                have H:=H1
                clear H1
                obtain rfl:=Option.some.inj H
                go_wp2
                go_ret
                exact ⟨by first|rfl|(simp [errW_none,errW_some] <;> rfl)|(simp [*,errW_none,errW_some] <;> rfl),by repeat (first|(with_reducible first|exact HB.out|apply δk|apply δi|apply δj)|exact HB.out)⟩
               ·
                replace c74:=Bool.eq_false_iff.mpr c74
                subst c74
                have H1:((laws_heldPairS.f kj58 t403 1).bind fun t413=>(if t413<0 then (some φ) else (if t413=t402 then (some τ) else (some φ))))=some r:=by rw [if_neg (show ¬ (φ=τ) by decide)] at H;exact H
                clear H
                have H:=H1
                clear H1
                replace H:=Option.bind_eq_some_iff.mp H
                obtain ⟨t413,A750,H⟩:=H
                replace H:(if t413<0 then (some φ) else (if t413=t402 then (some τ) else (some φ)))=some r:=H
                have A75:=ζa A750
                clear A750
                by_cases c76:t413<0
                ·
                 rw [if_pos c76] at H
                 have c76b0:decide (t413<0)=τ:=decide_eq_true c76
                 clear c76
                 obtain rfl:=Option.some.inj H
                 go_wp2_with (first|((with_reducible refine δv (f:=20) rfl ?_);refine goesL_ (some 111) rfl rfl Tryz.func20 (by kernel_rfl) rfl #[.slice Ao60 t403.length co60,.int .i64 1] rfl (by (try simp only [δd,δe,δf]);first|done|rfl|(simp only [δg,δh];rfl)) ?_;(with_reducible refine (laws_heldPairS.calls kj58 _ _ t403 1 t413 _ ?side1 ?side2 A75.out).mono ?_);(case side1=>repeat (first|exact (ζg HO_13.out).2.2|(with_reducible refine Kd.C_alloc ?_ _)|(with_reducible refine Kd.C_drewN ?_ _)|(with_reducible refine Kd.C_drew ?_)));(case side2=>exact (ζg HO_13.out).2.1);rintro e w77 ⟨rfl,hb⟩;refine ⟨_,rfl,?_⟩;have n0_:=ζa (ζh (by (with_reducible repeat (first|apply ζd|apply ζc|apply ζe));exact HO_13.out) hb);have n1_:=ζa (δr (by repeat (first|(with_reducible first|exact HB.out|apply δk|apply δi|apply δj)|exact HB.out)) hb);clear HO_13;clear HB;have HO_13:=n0_;have HB:=n1_;clear n0_ n1_;(try clear hb);(try clear hb2);(try clear hk);(try clear hi)))
                 go_ret
                 exact ⟨by first|rfl|(simp [errW_none,errW_some] <;> rfl)|(simp [*,errW_none,errW_some] <;> rfl),by repeat (first|(with_reducible first|exact HB.out|apply δk|apply δi|apply δj)|exact HB.out)⟩
                ·
                 rw [if_neg c76] at H
                 have c76b0:decide (t413<0)=φ:=decide_eq_false c76
                 clear c76
                 by_cases c78:t413=t402
                 ·
                  rw [if_pos c78] at H
                  have c78b0:(t413 == t402)=τ:=beq_iff_eq.mpr c78
                  have c78b1:(t413 != t402)=φ:=bne_eq_false_iff_eq.mpr c78
                  clear c78
                  obtain rfl:=Option.some.inj H
                  go_wp2_with (first|((with_reducible refine δv (f:=20) rfl ?_);refine goesL_ (some 111) rfl rfl Tryz.func20 (by kernel_rfl) rfl #[.slice Ao60 t403.length co60,.int .i64 1] rfl (by (try simp only [δd,δe,δf]);first|done|rfl|(simp only [δg,δh];rfl)) ?_;(with_reducible refine (laws_heldPairS.calls kj58 _ _ t403 1 t413 _ ?side1 ?side2 A75.out).mono ?_);(case side1=>repeat (first|exact (ζg HO_13.out).2.2|(with_reducible refine Kd.C_alloc ?_ _)|(with_reducible refine Kd.C_drewN ?_ _)|(with_reducible refine Kd.C_drew ?_)));(case side2=>exact (ζg HO_13.out).2.1);rintro e w79 ⟨rfl,hb⟩;refine ⟨_,rfl,?_⟩;have n0_:=ζa (ζh (by (with_reducible repeat (first|apply ζd|apply ζc|apply ζe));exact HO_13.out) hb);have n1_:=ζa (δr (by repeat (first|(with_reducible first|exact HB.out|apply δk|apply δi|apply δj)|exact HB.out)) hb);clear HO_13;clear HB;have HO_13:=n0_;have HB:=n1_;clear n0_ n1_;(try clear hb);(try clear hb2);(try clear hk);(try clear hi)))
                  go_ret
                  exact ⟨by first|rfl|(simp [errW_none,errW_some] <;> rfl)|(simp [*,errW_none,errW_some] <;> rfl),by repeat (first|(with_reducible first|exact HB.out|apply δk|apply δi|apply δj)|exact HB.out)⟩
                 ·
                  rw [if_neg c78] at H
                  have c78b0:(t413 == t402)=φ:=beq_eq_false_iff_ne.mpr c78
                  have c78b1:(t413 != t402)=τ:=bne_iff_ne.mpr c78
                  obtain rfl:=Option.some.inj H
                  go_wp2_with (first|((with_reducible refine δv (f:=20) rfl ?_);refine goesL_ (some 111) rfl rfl Tryz.func20 (by kernel_rfl) rfl #[.slice Ao60 t403.length co60,.int .i64 1] rfl (by (try simp only [δd,δe,δf]);first|done|rfl|(simp only [δg,δh];rfl)) ?_;(with_reducible refine (laws_heldPairS.calls kj58 _ _ t403 1 t413 _ ?side1 ?side2 A75.out).mono ?_);(case side1=>repeat (first|exact (ζg HO_13.out).2.2|(with_reducible refine Kd.C_alloc ?_ _)|(with_reducible refine Kd.C_drewN ?_ _)|(with_reducible refine Kd.C_drew ?_)));(case side2=>exact (ζg HO_13.out).2.1);rintro e w80 ⟨rfl,hb⟩;refine ⟨_,rfl,?_⟩;have n0_:=ζa (ζh (by (with_reducible repeat (first|apply ζd|apply ζc|apply ζe));exact HO_13.out) hb);have n1_:=ζa (δr (by repeat (first|(with_reducible first|exact HB.out|apply δk|apply δi|apply δj)|exact HB.out)) hb);clear HO_13;clear HB;have HO_13:=n0_;have HB:=n1_;clear n0_ n1_;(try clear hb);(try clear hb2);(try clear hk);(try clear hi)))
                  go_ret
                  exact ⟨by first|rfl|(simp [errW_none,errW_some] <;> rfl)|(simp [*,errW_none,errW_some] <;> rfl),by repeat (first|(with_reducible first|exact HB.out|apply δk|apply δi|apply δj)|exact HB.out)⟩
            ·
             rw [if_neg c56] at H
             have c56b0:(t404 == t402)=φ:=beq_eq_false_iff_ne.mpr c56
             have c56b1:(t404 != t402)=τ:=bne_iff_ne.mpr c56
             obtain rfl:=Option.some.inj H
             obtain ⟨Ao81,co81,eo81⟩:=Kd.R_slice HO_13.out
             subst eo81
             go_wp2_with (first|((with_reducible refine δv (f:=19) rfl ?_);refine goesL_ (some 82) rfl rfl Tryz.func19 (by kernel_rfl) rfl #[.slice Ao81 t390.length co81,.int .i64 1] rfl (by (try simp only [δd,δe,δf]);first|done|rfl|(simp only [δg,δh];rfl)) ?_;(with_reducible refine (laws_markPairS.calls kj34 (fun k_=>some k_=(.slice Ao81 t390.length co81:Value).ownBlock) (.slice Ao81 t390.length co81) t390 1 t402 t403 w _ ?side1 ?side2 A50.out).mono ?_);(case side1=>repeat (first|(with_reducible first|exact HB.out|apply δk|apply δi|apply δj)|exact HB.out));(case side2=>exact Kd.R_tight rfl HO_13.out);rintro e w82 ⟨rfl,hy0,hb,hkp⟩;refine ⟨_,rfl,?_⟩;have n0_:=ζa (Kd.R_mono (ok':=fun k_=>some k_≠(.slice Ao81 t390.length co81:Value).ownBlock) (Kd.R_keptB (HO_10.out) hkp (fun k_ hk_ hs_=>(hk_) hs_)) (fun k_ hk_=>hk_.1));have n1_:=ζa (Kd.R_reok rfl hy0 (fun k_ e_=>HO_13.out.1 k_ e_));have n2_:=ζa (hb);clear HO_10;clear HO_13;clear HB;have HO_10:=n0_;have HO_13:=n1_;have HB:=n2_;clear n0_ n1_ n2_;(try clear hb);(try clear hkp);(try clear hy0))|((with_reducible refine δv (f:=20) rfl ?_);refine goesL_ (some 85) rfl rfl Tryz.func20 (by kernel_rfl) rfl #[.slice Ao81 t403.length co81,.int .i64 1] rfl (by (try simp only [δd,δe,δf]);first|done|(rw [show t403.length=t390.length from (ζg HO_13.out).1.symm] <;> rfl)|rfl|(simp only [δg,δh];rfl)) ?_;(with_reducible refine (laws_heldPairS.calls kj34 _ _ t403 1 t404 _ ?side1 ?side2 A51.out).mono ?_);(case side1=>repeat (first|exact (ζg HO_13.out).2.2|(with_reducible refine Kd.C_alloc ?_ _)|(with_reducible refine Kd.C_drewN ?_ _)|(with_reducible refine Kd.C_drew ?_)));(case side2=>rw [show t403.length=t390.length from (ζg HO_13.out).1.symm];exact (ζg HO_13.out).2.1);rintro e w83 ⟨rfl,hb⟩;refine ⟨_,rfl,?_⟩;have n0_:=ζa (ζh (by (with_reducible repeat (first|apply ζd|apply ζc|apply ζe));exact HO_10.out) hb);have n1_:=ζa (ζh (by (with_reducible repeat (first|apply ζd|apply ζc|apply ζe));exact HO_13.out) hb);have n2_:=ζa (δr (by repeat (first|(with_reducible first|exact HB.out|apply δk|apply δi|apply δj)|exact HB.out)) hb);clear HO_10;clear HO_13;clear HB;have HO_10:=n0_;have HO_13:=n1_;have HB:=n2_;clear n0_ n1_ n2_;(try clear hb);(try clear hb2);(try clear hk);(try clear hi)))
             go_ret
             exact ⟨by first|rfl|(simp [errW_none,errW_some] <;> rfl)|(simp [*,errW_none,errW_some] <;> rfl),by repeat (first|(with_reducible first|exact HB.out|apply δk|apply δi|apply δj)|exact HB.out)⟩
       ·
        replace c33:=Bool.eq_false_iff.mpr c33
        subst c33
        have H1:(some φ)=some r:=by rw [if_neg (show ¬ (φ=τ) by decide)] at H;exact H
        clear H
        have H:=H1
        clear H1
        obtain rfl:=Option.some.inj H
        go_wp2_with (first|((with_reducible refine δv (f:=16) rfl ?_);refine goesL_ (some 61) rfl rfl Tryz.func16 (by kernel_rfl) rfl #[.slice A1 l1.length c1] rfl (by (try simp only [δd,δe,δf]);first|done|rfl|(simp only [δg,δh];rfl)) ?_;(with_reducible refine (laws_toPairS.calls kj13 _ _ l1 t395 _ ?side1 ?side2 A31.out).mono ?_);(case side1=>repeat (first|exact (Kd.C_below HR1.out HB.out)|(with_reducible refine Kd.C_alloc ?_ _)|(with_reducible refine Kd.C_drewN ?_ _)|(with_reducible refine Kd.C_drew ?_)));(case side2=>exact HC1.out);rintro e w84 ⟨v396,rfl,ho0,hb⟩;refine ⟨_,rfl,?_⟩;have n0_:=ζa (Kd.R_elder' (by (with_reducible repeat (first|apply ζd|apply ζc|apply ζe));exact HO_10.out) (Kd.R_base ho0) hb);have n1_:=ζa (Kd.R_elder' (by (with_reducible repeat (first|apply ζd|apply ζc|apply ζe));exact HO_12.out) (Kd.R_base ho0) hb);have n2_:=ζa (Kd.R_elder' (by (with_reducible repeat (first|apply ζd|apply ζc|apply ζe));exact HO_13.out) (Kd.R_base ho0) hb);have n3_:=ζa (Kd.R_lower (Kd.R_new' (Kd.R_new' (Kd.R_new' ho0 (Kd.R_lt (by (with_reducible repeat (first|apply ζd|apply ζc|apply ζe));exact HO_10.out))) (Kd.R_lt (by (with_reducible repeat (first|apply ζd|apply ζc|apply ζe));exact HO_12.out))) (Kd.R_lt (by (with_reducible repeat (first|apply ζd|apply ζc|apply ζe));exact HO_13.out))) (δs (by repeat (first|(with_reducible first|exact HB.out|apply δk|apply δi|apply δj)|exact HB.out))));have n4_:=ζa (δr (by repeat (first|(with_reducible first|exact HB.out|apply δk|apply δi|apply δj)|exact HB.out)) hb);clear HO_10;clear HO_12;clear HO_13;clear HB;have HO_10:=n0_;have HO_12:=n1_;have HO_13:=n2_;have HO397:=n3_;have HB:=n4_;clear n0_ n1_ n2_ n3_ n4_;(try clear hb);(try clear hb2);(try clear hk);(try clear hi);(try clear ho0);obtain ⟨Ao85,co85,eo85⟩:=Kd.R_slice HO397.out;subst eo85)|((with_reducible refine δv (f:=18) rfl ?_);refine goesL_ (some 62) rfl rfl Tryz.func18 (by kernel_rfl) rfl #[.slice Ao20 t387.length co20,.slice Ao85 t395.length co85] rfl (by (try simp only [δd,δe,δf]);first|done|rfl|(simp only [δg,δh];rfl)) ?_;(with_reducible refine (laws_eqPairS.calls kj13 _ _ t387 _ _ t395 φ _ ?side1 ?side2 ?side3 ?side4 A32.out).mono ?_);(case side1=>repeat (first|exact (ζg HO_12.out).2.2|(with_reducible refine Kd.C_alloc ?_ _)|(with_reducible refine Kd.C_drewN ?_ _)|(with_reducible refine Kd.C_drew ?_)));(case side2=>exact (ζg HO_12.out).2.1);(case side3=>repeat (first|exact (ζg HO397.out).2.2|(with_reducible refine Kd.C_alloc ?_ _)|(with_reducible refine Kd.C_drewN ?_ _)|(with_reducible refine Kd.C_drew ?_)));(case side4=>exact (ζg HO397.out).2.1);rintro e w86 ⟨rfl,hb⟩;refine ⟨_,rfl,?_⟩;have n0_:=ζa (ζh (by (with_reducible repeat (first|apply ζd|apply ζc|apply ζe));exact HO_10.out) hb);have n1_:=ζa (ζh (by (with_reducible repeat (first|apply ζd|apply ζc|apply ζe));exact HO_12.out) hb);have n2_:=ζa (ζh (by (with_reducible repeat (first|apply ζd|apply ζc|apply ζe));exact HO_13.out) hb);have n3_:=ζa (ζh (by (with_reducible repeat (first|apply ζd|apply ζc|apply ζe));exact HO397.out) hb);have n4_:=ζa (δr (by repeat (first|(with_reducible first|exact HB.out|apply δk|apply δi|apply δj)|exact HB.out)) hb);clear HO_10;clear HO_12;clear HO_13;clear HO397;clear HB;have HO_10:=n0_;have HO_12:=n1_;have HO_13:=n2_;have HO397:=n3_;have HB:=n4_;clear n0_ n1_ n2_ n3_ n4_;(try clear hb);(try clear hb2);(try clear hk);(try clear hi)))
        go_ret
        exact ⟨by first|rfl|(simp [errW_none,errW_some] <;> rfl)|(simp [*,errW_none,errW_some] <;> rfl),by repeat (first|(with_reducible first|exact HB.out|apply δk|apply δi|apply δj)|exact HB.out)⟩


open List renaming map_toArray → δd, map_cons → δe, map_nil → δf, setIfInBounds_toArray → δa, set_cons_zero → δb, set_cons_succ → δc
open Go.Proofs.YtabmfhnhmoiljaaGreatDoorW.PrintWords renaming gate_dst → δx, below_step → δr, below_drew1 → δj
open Go.Proofs.YtabmfhnhmoiljaaGreatDoorW.PrintWords.Kd renaming R_drew → ζe, R_below → ζh
open Go.Proofs.YtabmfhnhmoiljaaGreatDoorW.PrintLast renaming pure_ → ζk

/-! ### spec_l02Fields: function 136 -/
def spec_l02Fields.l0:Nat→List ByteArray→List Int→Int→Option (List Int)
 | 0,_,_,_=>none
 | k+1,l,out,i=>if i<(l.length:Int) then (if 0≤i then (if out.length+2+(rdOf ByteArray.empty l i).size≤140737488355328 then spec_l02Fields.l0 k l (out ++ [((rdOf ByteArray.empty l i).size:Int) / 256 % 256,((rdOf ByteArray.empty l i).size:Int) % 256] ++ bytesOf (rdOf ByteArray.empty l i)) (ζm (i+1)) else none) else none) else some out
def spec_l02Fields.f (k:Nat) (l0:List ByteArray):Option (List Int):=spec_l02Fields.l0 k l0 [(l0.length:Int) % 256] 0
theorem spec_l02Fields.str_step {P:Program} {ops:Array Oper} {o:Oper} {a:Act} {Q:Exit→Act→World→Prop} {Kc:Act→World→Prop} {w0 W:World} (base:Nat)
  (hw:Region.wanted o (yielded ops a.tmps)=τ) (s x:Operand) (t u e:TypeId)
  (ho:o.op = .call { callee:=.builtin .append,args:=#[s,x],argTypes:=#[t,u] })
  (ht:P.underlying t=some (.slice e)) (hu:P.underlying u=some .string) (hinfo:(P.info? e).map (fun i=>(i.zero,i.size,i.bytes))=some (some (.int .u8 0),1,1))
  (v:Value) (xs:List Int) (y:ByteArray) (hs:a.eval s=v) (hx:a.eval x = .string y)
  (HO:W.ownsRow base e 1 v xs.length (nums .u8 xs)) (HB:Below base w0 W) (hbase:base≤W.heap.size) (hl:xs.length+y.size≤140737488355328)
  (h : ∀ v1 w1,w1.ownsRow base e 1 v1 (xs ++ bytesOf y).length (nums .u8 (xs ++ bytesOf y))→Below base w0 w1→W.grownBy w1 v.ownBlock→Kc (a.put o.dst v1) w1) :
  if Region.wanted o (yielded ops a.tmps)=τ then Oper.wp P o a W Kc Q else Kc (a.put o.dst undef) W:=by
 rw [if_pos hw]
 obtain ⟨i0,hi,hzz⟩:=Option.map_eq_some_iff.1 hinfo
 simp only [Prod.mk.injEq] at hzz
 obtain ⟨hz0,hz1,hz2⟩:=hzz
 obtain ⟨v1,w1,hr,h2,h3,h4⟩:=Lib.run_append_own_string (P:=P) (w:=W) base t u o.type e i0 ht hu hi hz0 hz1 hz2 v xs.length (nums .u8 xs) HO y (by simp only [maxLen];omega) hl hbase
 have hl2:(xs ++ bytesOf y).length=xs.length+y.size:=by rw [List.length_append,bytesOf_length]
 have hc:nums .u8 (xs ++ bytesOf y)=nums .u8 xs ++ Lib.strCells y:=by
  rw [nums_append]
  congr 1
  simp [nums,bytesOf,Lib.strCells]
 unfold Oper.wp execOp
 simp only [ho,resolve,invoke,builtin,Sem.run_bind,Sem.run_pure,Result.andThen_ok,δd,δe,δf,hs,hx,hr]
 exact h v1 w1 (by rw [hl2,hc];exact h2) (HB.grown h3 hbase (own_base HO)) h3
set_option maxHeartbeats 8000000 in
set_option maxRecDepth 100000 in
theorem spec_l02Fields.calls (k:Nat) (A0:Option Addr) (c0:Nat) (l0:List ByteArray) (r:List Int) (w:World) (hr0:Kd.C Kd.string w A0 l0.length l0) (hc0:l0.length≤c0) (h:spec_l02Fields.f k l0=some r) :
  Calls Tryz.prog 136 #[.slice A0 l0.length c0] w fun e w' => ∃ v0_:Value,e = .returned (v0_)∧Kd.R (Kd.int .u8) 5 w' w.heap.size (fun _=>True) v0_ r∧Below w.heap.size w w':=by
 have HR0:=ζa hr0
 clear hr0 hc0
 have HB:=ζa (Below.refl w.heap.size w)
 have H':=ζa (show spec_l02Fields.l0 k l0 [(l0.length:Int) % 256] 0=some r from h)
 clear h
 go_enter Tryz.func136,Tryz.ntmps136
 go_wp2_with (first|((with_reducible refine δx (N:=8) rfl ?_);refine Kd.R_lit (Kd.int .u8) _ 5 ?hg (N:=8) ?hd (xs:=([(l0.length:Int) % 256]:List Int)) (inner:=[.int .u8 ((l0.length:Int) % 256)]) (ok:=fun _=>True) (okp:=fun _=>True) ?hr ?hp (fun _ hk=>hk) trivial (Below.refl _ _) (Nat.le_refl _) (by simp) ?_;(case hd=>rfl);(case hg=>rfl);(case hr=>first|(go_simp;done)|(go_simp;rfl));(case hp=>exact (Reps.one (show Kd.M (Kd.int .u8) _ _ _ ((l0.length:Int) % 256) [.int .u8 ((l0.length:Int) % 256)] from rfl) (Reps.none _ _)));intro v8 w8 ho8 hb8 hg_ hnew_;clear hg_ hnew_;have HO:=ζa ho8;have n1_:=ζa (δr HB.out hb8);clear HB;have HB:=n1_;clear n1_ hb8 ho8))
 go_loopg [3,4] k (fun kq v3 v4 w' => ∃ (out:List Int) (i:Int),v4 = .int .i64 i∧Aside0 (spec_l02Fields.l0 kq l0 out i=some r)∧Aside0 (kq≤k)∧Aside0 (Kd.R (Kd.int .u8) 5 w' w.heap.size (fun _=>True) v3 out)∧Aside0 (Below w.heap.size w w'))
 case atStart=>exact ⟨_,0,rfl,H',⟨Nat.le_refl _⟩,HO,HB⟩
 case round =>
  clear H' HO HB
  obtain ⟨out,i,rfl,HA,HK1,HO,HB⟩:=hrel
  cases gk with
  | zero=>exact absurd HA.out (by simp [spec_l02Fields.l0])
  | succ k1 =>
   have H:=HA.out
   clear HA
   simp only [spec_l02Fields.l0] at H
   by_cases c2:i<(l0.length:Int)
   ·
    rw [if_pos c2] at H
    by_cases c3:0≤i
    ·
     rw [if_pos c3] at H
     by_cases c4:out.length+2+(rdOf ByteArray.empty l0 i).size≤140737488355328
     ·
      rw [if_pos c4] at H
      have HN:=ζa H
      clear H
      obtain ⟨ad,e1,hx0⟩:=Kd.at_string HR0.out i c3 c2
      cases e1
      have hxw:=hx0
      replace hx0:=(HB.out.cell (World.block_lt_of_cell? w _ hx0)).trans hx0
      have c2b0:decide (i<(l0.length:Int))=τ:=decide_eq_true c2
      generalize ht:rdOf ByteArray.empty l0 i=t at *
      go_wp2
      have c3b:decide (0≤i)=τ:=decide_eq_true c3
      have HB1:=ζa (δj HB.out)
      have HO1:=ζa (ζe HO.out)
      clear HB HO
      refine start_ (n:=22) (S:=fun w'=>w'.cell? (ad.add i.toNat)=some (.string t)) (ds:=[]) #[φ,φ,φ,φ,φ,φ,φ,φ,φ,φ,φ,φ,φ,φ,φ,φ,φ,φ,φ,φ,φ,φ] (by kernel_rfl) rfl rfl (show wr.drew.cell? (ad.add i.toNat)=some (.string t) from hx0) (fun hHeld => ?_)
      generalize wr.drew=w13 at HB1 HO1 hHeld ⊢
      refine ζk (i:=0) (N:=some 15) (v:=?_) (a':=?_) #[τ,φ,φ,φ,φ,φ,φ,φ,φ,φ,φ,φ,φ,φ,φ,φ,φ,φ,φ,φ,φ,φ] rfl rfl (by kernel_rfl) (fun _ _ _ h=>h) (Or.inl ⟨by rfl,?_⟩) ?_ ?_
      rotate_left
      · intro w';go_simp;with_reducible rfl
      rotate_left
      · simp only [ζl,δa,δb,δc,i64_w,i32_w];rfl
      refine ζk (i:=1) (N:=some 16) (v:=?_) (a':=?_) #[τ,τ,φ,φ,φ,φ,φ,φ,φ,φ,φ,φ,φ,φ,φ,φ,φ,φ,φ,φ,φ,φ] rfl rfl (by kernel_rfl) (fun _ _ _ h=>h) (Or.inl ⟨by rfl,?_⟩) ?_ ?_
      rotate_left
      · intro w';go_simp;with_reducible rfl
      rotate_left
      · simp only [ζl,δa,δb,δc,i64_w,i32_w];rfl
      refine ζk (i:=2) (N:=some 17) (v:=?_) (a':=?_) #[τ,τ,τ,φ,φ,φ,φ,φ,φ,φ,φ,φ,φ,φ,φ,φ,φ,φ,φ,φ,φ,φ] rfl rfl (by kernel_rfl) (fun _ _ _ h=>h) (Or.inl ⟨by rfl,?_⟩) ?_ ?_
      rotate_left
      · intro w';go_simp;with_reducible rfl
      rotate_left
      · simp only [ζl,δa,δb,δc,i64_w,i32_w];rfl
      refine ζk (i:=3) (N:=some 18) (v:=?_) (a':=?_) #[τ,τ,τ,τ,φ,φ,φ,φ,φ,φ,φ,φ,φ,φ,φ,φ,φ,φ,φ,φ,φ,φ] rfl rfl (by kernel_rfl) (fun _ _ _ h=>h) (Or.inl ⟨by rfl,?_⟩) ?_ ?_
      rotate_left
      · intro w';go_simp;with_reducible rfl
      rotate_left
      · simp only [ζl,δa,δb,δc,i64_w,i32_w];rfl
      refine take_ (i:=4) (N:=some 19) (v:=?_) (a':=?_) #[τ,τ,τ,τ,τ,φ,φ,φ,φ,φ,φ,φ,φ,φ,φ,φ,φ,φ,φ,φ,φ,φ] rfl rfl (by kernel_rfl) (fun _ _ _ h=>h) (Or.inl ⟨by rfl,?_⟩) hHeld ?_ ?_
      rotate_left
      ·
       intro w' s0
       go_simp
       with_reducible rfl
      rotate_left
      · simp only [ζl,δa,δb,δc,i64_w,i32_w];rfl
      refine ζk (i:=5) (N:=some 20) (v:=?_) (a':=?_) #[τ,τ,τ,τ,τ,τ,φ,φ,φ,φ,φ,φ,φ,φ,φ,φ,φ,φ,φ,φ,φ,φ] rfl rfl (by kernel_rfl) (fun _ _ _ h=>h) (Or.inl ⟨by rfl,?_⟩) ?_ ?_
      rotate_left
      · intro w';go_simp;with_reducible rfl
      rotate_left
      · simp only [ζl,δa,δb,δc,i64_w,i32_w];rfl
      refine ζk (i:=6) (N:=some 21) (v:=?_) (a':=?_) #[τ,τ,τ,τ,τ,τ,τ,φ,φ,φ,φ,φ,φ,φ,φ,φ,φ,φ,φ,φ,φ,φ] rfl rfl (by kernel_rfl) (fun _ _ _ h=>h) (Or.inl ⟨by rfl,?_⟩) ?_ ?_
      rotate_left
      · intro w';go_simp;with_reducible rfl
      rotate_left
      · simp only [ζl,δa,δb,δc,i64_w,i32_w];rfl
      refine ζk (i:=7) (N:=some 22) (v:=?_) (a':=?_) #[τ,τ,τ,τ,τ,τ,τ,τ,φ,φ,φ,φ,φ,φ,φ,φ,φ,φ,φ,φ,φ,φ] rfl rfl (by kernel_rfl) (fun _ _ _ h=>h) (Or.inl ⟨by rfl,?_⟩) ?_ ?_
      rotate_left
      · intro w';go_simp;with_reducible rfl
      rotate_left
      · simp only [ζl,δa,δb,δc,i64_w,i32_w];rfl
      refine ζk (i:=8) (N:=some 23) (v:=?_) (a':=?_) #[τ,τ,τ,τ,τ,τ,τ,τ,τ,φ,φ,φ,φ,φ,φ,φ,φ,φ,φ,φ,φ,φ] rfl rfl (by kernel_rfl) (fun _ _ _ h=>h) (Or.inl ⟨by rfl,?_⟩) ?_ ?_
      rotate_left
      · intro w';go_simp;with_reducible rfl
      rotate_left
      · simp only [ζl,δa,δb,δc,i64_w,i32_w];rfl
      refine ζk (i:=9) (N:=some 24) (v:=?_) (a':=?_) #[τ,τ,τ,τ,τ,τ,τ,τ,τ,τ,φ,φ,φ,φ,φ,φ,φ,φ,φ,φ,φ,φ] rfl rfl (by kernel_rfl) (fun _ _ _ h=>h) (Or.inl ⟨by rfl,?_⟩) ?_ ?_
      rotate_left
      · intro w';go_simp;with_reducible rfl
      rotate_left
      · simp only [ζl,δa,δb,δc,i64_w,i32_w];rfl
      refine ζk (i:=10) (N:=some 25) (v:=?_) (a':=?_) #[τ,τ,τ,τ,τ,τ,τ,τ,τ,τ,τ,φ,φ,φ,φ,φ,φ,φ,φ,φ,φ,φ] rfl rfl (by kernel_rfl) (fun _ _ _ h=>h) (Or.inl ⟨by rfl,?_⟩) ?_ ?_
      rotate_left
      · intro w';go_simp;with_reducible rfl
      rotate_left
      · simp only [ζl,δa,δb,δc,i64_w,i32_w];rfl
      refine take_ (i:=11) (N:=some 26) (v:=?_) (a':=?_) #[τ,τ,τ,τ,τ,τ,τ,τ,τ,τ,τ,τ,φ,φ,φ,φ,φ,φ,φ,φ,φ,φ] rfl rfl (by kernel_rfl) (fun _ _ _ h=>h) (Or.inl ⟨by rfl,?_⟩) hHeld ?_ ?_
      rotate_left
      ·
       intro w' s0
       go_simp
       with_reducible rfl
      rotate_left
      · simp only [ζl,δa,δb,δc,i64_w,i32_w];rfl
      refine ζk (i:=12) (N:=some 27) (v:=?_) (a':=?_) #[τ,τ,τ,τ,τ,τ,τ,τ,τ,τ,τ,τ,τ,φ,φ,φ,φ,φ,φ,φ,φ,φ] rfl rfl (by kernel_rfl) (fun _ _ _ h=>h) (Or.inl ⟨by rfl,?_⟩) ?_ ?_
      rotate_left
      · intro w';go_simp;with_reducible rfl
      rotate_left
      · simp only [ζl,δa,δb,δc,i64_w,i32_w];rfl
      refine ζk (i:=13) (N:=some 28) (v:=?_) (a':=?_) #[τ,τ,τ,τ,τ,τ,τ,τ,τ,τ,τ,τ,τ,τ,φ,φ,φ,φ,φ,φ,φ,φ] rfl rfl (by kernel_rfl) (fun _ _ _ h=>h) (Or.inl ⟨by rfl,?_⟩) ?_ ?_
      rotate_left
      · intro w';go_simp;with_reducible rfl
      rotate_left
      · simp only [ζl,δa,δb,δc,i64_w,i32_w];rfl
      refine ζk (i:=16) (N:=some 31) (v:=?_) (a':=?_) #[τ,τ,τ,τ,τ,τ,τ,τ,τ,τ,τ,τ,τ,τ,φ,φ,τ,φ,φ,φ,φ,φ] rfl rfl (by kernel_rfl) (fun _ _ _ h=>h) (Or.inl ⟨by rfl,?_⟩) ?_ ?_
      rotate_left
      · intro w';go_simp;with_reducible rfl
      rotate_left
      · simp only [ζl,δa,δb,δc,i64_w,i32_w];rfl
      refine ζk (i:=17) (N:=some 32) (v:=?_) (a':=?_) #[τ,τ,τ,τ,τ,τ,τ,τ,τ,τ,τ,τ,τ,τ,φ,φ,τ,τ,φ,φ,φ,φ] rfl rfl (by kernel_rfl) (fun _ _ _ h=>h) (Or.inl ⟨by rfl,?_⟩) ?_ ?_
      rotate_left
      · intro w';go_simp;with_reducible rfl
      rotate_left
      · simp only [ζl,δa,δb,δc,i64_w,i32_w];rfl
      refine ζk (i:=18) (N:=some 33) (v:=?_) (a':=?_) #[τ,τ,τ,τ,τ,τ,τ,τ,τ,τ,τ,τ,τ,τ,φ,φ,τ,τ,τ,φ,φ,φ] rfl rfl (by kernel_rfl) (fun _ _ _ h=>h) (Or.inl ⟨by rfl,?_⟩) ?_ ?_
      rotate_left
      · intro w';go_simp;with_reducible rfl
      rotate_left
      · simp only [ζl,δa,δb,δc,i64_w,i32_w];rfl
      refine take_ (i:=19) (N:=some 34) (v:=?_) (a':=?_) #[τ,τ,τ,τ,τ,τ,τ,τ,τ,τ,τ,τ,τ,τ,φ,φ,τ,τ,τ,τ,φ,φ] rfl rfl (by kernel_rfl) (fun _ _ _ h=>h) (Or.inl ⟨by rfl,?_⟩) hHeld ?_ ?_
      rotate_left
      ·
       intro w' s0
       go_simp
       with_reducible rfl
      rotate_left
      · simp only [ζl,δa,δb,δc,i64_w,i32_w];rfl
      have e1:IntKind.u8.wrap (ζm ((t.size:Int) / 256))=(t.size:Int) / 256 % 256:=by rw [IntWalk.wrap64_in _ (by omega)];simp [IntKind.wrap,IntKind.bits,IntKind.signed]
      have e2:IntKind.u8.wrap (t.size:Int)=(t.size:Int) % 256:=by simp [IntKind.wrap,IntKind.bits,IntKind.signed]
      rw [e1,e2]
      generalize (t.size:Int) / 256 % 256=pa at *
      generalize (t.size:Int) % 256=pb at *
      refine one_ (i:=14) (N:=some 29) #[τ,τ,τ,τ,τ,τ,τ,τ,τ,τ,τ,τ,τ,τ,τ,φ,τ,τ,τ,τ,φ,φ] rfl rfl (by kernel_rfl) (by decide) (fun K hK => ?_)
      refine Kd.R_lit_step (Kd.int .u8) _ 5 ?hg (N:=29) ?hd (xs:=([pa,pb]:List Int)) (inner:=[.int .u8 pa,.int .u8 pb]) (ok:=fun _=>True) (okp:=fun _=>False) ?hr ?hp (fun _ hk=>trivial) trivial (Below.refl _ _) (Nat.le_refl _) (by simp) ?_
      case hd=>rfl
      case hg=>rfl
      case hr=>first|(go_simp;done)|(go_simp;rfl)
      case hp=>exact Reps.one (show Kd.M (Kd.int .u8) _ _ _ pa [.int .u8 pa] from rfl) (Reps.one (show Kd.M (Kd.int .u8) _ _ _ pb [.int .u8 pb] from rfl) (Reps.none _ _))
      intro v29 w29 ho29 hb29 hg29 _
      obtain ⟨A2,c29,rfl,_,HR2⟩:=Kd.R_reads ho29
      have HO2:=ζa (ζh HO1.out hb29)
      have HB2:=ζa (δr HB1.out hb29)
      have hs2:w29.cell? (ad.add i.toNat)=some (.string t):=(hb29.cell (World.block_lt_of_cell? w13 _ hHeld)).trans hHeld
      clear HO1 HB1 hHeld hg29
      refine hK.out _ _ hs2 (fun hHeld => ?_)
      clear hK K hs2
      refine norm_ (a':=?_) ?_ ?_
      rotate_left
      ·
       show ζl _ (some 29) _=_
       simp only [ζl,δa,δb,δc,i64_w,i32_w];rfl
      refine one_ (i:=15) (N:=some 30) #[τ,τ,τ,τ,τ,τ,τ,τ,τ,τ,τ,τ,τ,τ,τ,τ,τ,τ,τ,τ,φ,φ] rfl rfl (by kernel_rfl) (by decide) (fun K hK => ?_)
      refine Kd.R_append_rows_step (Kd.int .u8) (w0:=w) w.heap.size (by rfl) (.tmp 15) (.tmp 29) 82 5 (.int .u8 0) 1 rfl Tryz.underlying82 (by kernel_rfl) rfl (by decide) (by decide) u3 out [pa,pb] A2 2 c29 (fun _=>True) (fun _=>False) rfl rfl HO2.out HR2 (fun _ _ h=>h) (fun _ h=>h.elim) (fun _ _=>trivial) HB2.out HB2.out.size (by omega) ?_
      intro v30 w30 ho30 hb30 hg30 _
      have hs3:w30.cell? (ad.add i.toNat)=some (.string t):=(hb30.cell (World.block_lt_of_cell? w _ hxw)).trans hxw
      clear HO2 HB2 hHeld HR2
      refine hK.out _ _ hs3 (fun hHeld => ?_)
      clear hK K hs3
      refine norm_ (a':=?_) ?_ ?_
      rotate_left
      ·
       show ζl _ (some 30) _=_
       simp only [ζl,δa,δb,δc,i64_w,i32_w];rfl
      refine one_ (i:=20) (N:=some 35) #[τ,τ,τ,τ,τ,τ,τ,τ,τ,τ,τ,τ,τ,τ,τ,τ,τ,τ,τ,τ,τ,φ] rfl rfl (by kernel_rfl) (by decide) (fun K hK => ?_)
      have hl3:(out ++ [pa,pb]).length+t.size≤140737488355328:=by rw [List.length_append];exact c4
      refine spec_l02Fields.str_step (w0:=w) w.heap.size (by rfl) (.tmp 30) (.tmp 34) 82 9 5 rfl Tryz.underlying82 Tryz.underlying9 (by kernel_rfl) v30 (out ++ [pa,pb]) t rfl rfl (Kd.own_of_R ho30) hb30 hb30.size hl3 ?_
      intro v35 w35 ho35 hb35 hg35
      have hs4:w35.cell? (ad.add i.toNat)=some (.string t):=(hb35.cell (World.block_lt_of_cell? w _ hxw)).trans hxw
      clear ho30 hb30 hHeld hg35
      refine hK.out _ _ hs4 (fun hHeld => ?_)
      clear hK K hs4
      refine norm_ (a':=?_) ?_ ?_
      rotate_left
      ·
       show ζl _ (some 35) _=_
       simp only [ζl,δa,δb,δc,i64_w,i32_w];rfl
      refine ζk (i:=21) (N:=some 3) (v:=?_) (a':=?_) #[τ,τ,τ,τ,τ,τ,τ,τ,τ,τ,τ,τ,τ,τ,τ,τ,τ,τ,τ,τ,τ,τ] rfl rfl (by kernel_rfl) (fun _ _ _ h=>h) (Or.inl ⟨by rfl,?_⟩) ?_ ?_
      rotate_left
      · intro w';go_simp;with_reducible rfl
      rotate_left
      · simp only [ζl,δa,δb,δc,i64_w,i32_w];rfl
      refine done_ (by kernel_rfl) ?_
      try go_wp2
      go_roundg k1
      case measure=>omega
      case rel=>exact ⟨_,_,rfl,HN,⟨by have:=HK1.out;omega⟩,⟨Kd.R_of_own ho35 (fun _ _=>trivial)⟩,⟨hb35⟩⟩
     · rw [if_neg c4] at H;cases H
    ·
     rw [if_neg c3] at H;cases H
   ·
    rw [if_neg c2] at H
    have c2b0:decide (i<(l0.length:Int))=φ:=decide_eq_false c2
    clear c2
    obtain rfl:=Option.some.inj H
    go_wp2
    go_ret
    exact ⟨_,rfl,HO.out,HB.out⟩


open Go.Proofs.YtabmfhnhmoiljaaGreatDoorW.PrintWords renaming gate_callee → δv, below_step → δr, below_alloc → δk, pw_below_drewN → δi, below_drew1 → δj, gate_dst → δx, below_size → δs

/-! ### spec_l09Data: function 79 -/
def spec_l09Data.f (k:Nat) (a0:ByteArray) (a1:ByteArray) (a2:ByteArray) (a3:Int):Option (ByteArray):=(spec_l00Digits.f k a3).bind fun t135=>((spec_l02Fields.f k (([(⟨#[107]⟩:ByteArray),a0,a1,a2,t135]:List ByteArray))).bind fun t139=>(some (strOfNums t139)))
set_option maxHeartbeats 8000000 in
set_option maxRecDepth 100000 in
theorem spec_l09Data.calls (k:Nat) (a0:ByteArray) (a1:ByteArray) (a2:ByteArray) (a3:Int) (r:ByteArray) (w:World) (h:spec_l09Data.f k a0 a1 a2 a3=some r) :
  Calls Tryz.prog 79 #[.string a0,.string a1,.string a2,.int .i64 a3] w fun e w'=>e = .returned (.string r)∧Below w.heap.size w w':=by
 have HB:=ζa (Below.refl w.heap.size w)
 have H:((spec_l00Digits.f k a3).bind fun t135=>((spec_l02Fields.f k (([(⟨#[107]⟩:ByteArray),a0,a1,a2,t135]:List ByteArray))).bind fun t139=>(some (strOfNums t139))))=some r:=h
 clear h
 replace H:=Option.bind_eq_some_iff.mp H
 obtain ⟨t135,A50,H⟩:=H
 replace H:((spec_l02Fields.f k (([(⟨#[107]⟩:ByteArray),a0,a1,a2,t135]:List ByteArray))).bind fun t139=>(some (strOfNums t139)))=some r:=H
 have A5:=ζa A50
 clear A50
 obtain ⟨y136,hy136⟩ : ∃ y_:List ByteArray,y_=(([(⟨#[107]⟩:ByteArray),a0,a1,a2,t135]:List ByteArray)):=⟨_,rfl⟩
 replace H:((spec_l02Fields.f k y136).bind fun t139=>(some (strOfNums t139)))=some r:=by first|(rw [hy136];with_reducible exact H)|(have H2_:=(Option.bind_some _ _).symm.trans H;rw [hy136];with_reducible exact H2_)|(have H2_:=(Option.bind_some _ _).symm.trans H;with_reducible exact H2_)|with_reducible exact H|(rw [hy136];exact H)|exact H
 have Ny136:=ζa hy136
 clear hy136
 replace H:=Option.bind_eq_some_iff.mp H
 obtain ⟨t139,A60,H⟩:=H
 replace H:(some (strOfNums t139))=some r:=H
 have A6:=ζa A60
 clear A60
 obtain rfl:=Option.some.inj H
 go_enter Tryz.func79,Tryz.ntmps79
 go_wp2_with (first|((with_reducible refine δv (f:=137) rfl ?_);refine goesL_ (some 13) rfl rfl Tryz.func137 (by kernel_rfl) rfl #[.int .i64 a3] rfl (by (try simp only [δd,δe,δf]);first|done|rfl|(simp only [δg,δh];rfl)) ?_;(with_reducible refine (spec_l00Digits.calls k a3 t135 _ A5.out).mono ?_);rintro e w7 ⟨rfl,hb⟩;refine ⟨_,rfl,?_⟩;have n0_:=ζa (δr (by repeat (first|(with_reducible first|exact HB.out|apply δk|apply δi|apply δj)|exact HB.out)) hb);clear HB;have HB:=n0_;clear n0_;(try clear hb);(try clear hb2);(try clear hk);(try clear hi))|((with_reducible refine δx (N:=14) rfl ?_);refine Kd.R_lit Kd.string _ 9 ?hg (N:=14) ?hd (xs:=([(⟨#[107]⟩:ByteArray),a0,a1,a2,t135]:List ByteArray)) (inner:=[.string (⟨#[107]⟩:ByteArray),.string a0,.string a1,.string a2,.string t135]) (ok:=fun _=>True) (okp:=fun _=>True) ?hr ?hp (fun _ hk=>hk) trivial (Below.refl _ _) (Nat.le_refl _) (by simp) ?_;(case hd=>rfl);(case hg=>rfl);(case hr=>first|(go_simp;done)|(go_simp;rfl));(case hp=>exact (Reps.one (show Kd.M Kd.string _ _ _ (⟨#[107]⟩:ByteArray) [.string (⟨#[107]⟩:ByteArray)] from rfl) (Reps.one (show Kd.M Kd.string _ _ _ a0 [.string a0] from rfl) (Reps.one (show Kd.M Kd.string _ _ _ a1 [.string a1] from rfl) (Reps.one (show Kd.M Kd.string _ _ _ a2 [.string a2] from rfl) (Reps.one (show Kd.M Kd.string _ _ _ t135 [.string t135] from rfl) (Reps.none _ _)))))));intro v137 w8 ho9 hb hg_ hnew_;clear hg_ hnew_;(first|rw [← Ny136.out] at ho9|(simp only [Int.reduceToNat] at ho9;rw [← Ny136.out] at ho9));have n0_:=ζa (Kd.R_lower ho9 (δs (by repeat (first|(with_reducible first|exact HB.out|apply δk|apply δi|apply δj)|exact HB.out))));have n1_:=ζa (δr (by repeat (first|(with_reducible first|exact HB.out|apply δk|apply δi|apply δj)|exact HB.out)) hb);clear HB;have HO138:=n0_;have HB:=n1_;clear n0_ n1_;clear hb ho9;obtain ⟨Ao10,co10,eo10⟩:=Kd.R_slice HO138.out;subst eo10)|((with_reducible refine δv (f:=136) rfl ?_);refine goesL_ (some 15) rfl rfl Tryz.func136 (by kernel_rfl) rfl #[.slice Ao10 y136.length co10] rfl (by (try simp only [δd,δe,δf]);first|done|rfl|(simp only [δg,δh];rfl)) ?_;(with_reducible refine (spec_l02Fields.calls k _ _ y136 t139 _ ?side1 ?side2 A6.out).mono ?_);(case side1=>repeat (first|exact (ζg HO138.out).2.2|(with_reducible refine Kd.C_alloc ?_ _)|(with_reducible refine Kd.C_drewN ?_ _)|(with_reducible refine Kd.C_drew ?_)));(case side2=>exact (ζg HO138.out).2.1);rintro e w11 ⟨v140,rfl,ho0,hb⟩;refine ⟨_,rfl,?_⟩;have n0_:=ζa (ζh (by (with_reducible repeat (first|apply ζd|apply ζc|apply ζe));exact HO138.out) hb);have n1_:=ζa (Kd.R_lower ho0 (δs (by repeat (first|(with_reducible first|exact HB.out|apply δk|apply δi|apply δj)|exact HB.out))));have n2_:=ζa (δr (by repeat (first|(with_reducible first|exact HB.out|apply δk|apply δi|apply δj)|exact HB.out)) hb);clear HO138;clear HB;have HO138:=n0_;have HO141:=n1_;have HB:=n2_;clear n0_ n1_ n2_;(try clear hb);(try clear hb2);(try clear hk);(try clear hi);(try clear ho0);have hcv12:=own_string (P:=Tryz.prog) Tryz.underlying82 Tryz.underlying5 Tryz.underlying9 (Kd.own_of_R HO141.out)))
 go_ret
 exact ⟨by first|rfl|(simp [errW_none,errW_some] <;> rfl)|(simp [*,errW_none,errW_some] <;> rfl),by repeat (first|(with_reducible first|exact HB.out|apply δk|apply δi|apply δj)|exact HB.out)⟩


open Go.Proofs.YtabmfhnhmoiljaaGreatDoorW.PrintWords renaming below_step → δr, below_alloc → δk, below_drew1 → δj, pw_below_drewN → δi

/-! ### spec_l09Send: function 43 -/
def spec_l09Send.f (k:Nat) (name:ByteArray) (list:List S51) (id:ByteArray) (maker:ByteArray) (taker:ByteArray) (pay:Int):Option (List S51 × ByteArray × Int) :=
 (spec_l05Name.f k id).bind fun q1=>if q1=τ then ((spec_l08Name.f k maker).bind fun q2=>if q2=τ then ((spec_l08Name.f k taker).bind fun q3=>if q3=τ then ((spec_l01In.f pay 1 1000000000000000000).bind fun q4=>if q4=τ then ((spec_l05Move.f k list taker ((⟨#[116,97,107,101,115]⟩:ByteArray)) name pay).bind fun q5=>if q5.2=0 then ((spec_l09Data.f k id maker taker pay).bind fun q6=>some (q5.1,q6,0)) else (some (list,(⟨#[]⟩:ByteArray),q5.2))) else (some (list,(⟨#[]⟩:ByteArray),4))) else (some (list,(⟨#[]⟩:ByteArray),4))) else (some (list,(⟨#[]⟩:ByteArray),4))) else (some (list,(⟨#[]⟩:ByteArray),4))
set_option maxHeartbeats 4000000 in
set_option maxRecDepth 100000 in
theorem spec_l09Send.calls (k:Nat) (name:ByteArray) (A_list:Option Addr) (c_list:Nat) (list:List S51) (id:ByteArray) (maker:ByteArray) (taker:ByteArray) (pay:Int) (r1:List S51) (r2:ByteArray) (r3:Int) (w:World) (hr0_list:Kd.C k51 w A_list list.length list) (hc0_list:list.length≤c_list) (h:spec_l09Send.f k name list id maker taker pay=some (r1,r2,r3)) :
  Calls Tryz.prog 43 #[.string name,.slice A_list list.length c_list,.string id,.string maker,.string taker,.int .i64 pay] w fun e w' => ∃ v0_:Value,e = .returned (.tuple #[v0_,.string r2,.int .i64 r3])∧Sf w w' (.slice A_list list.length c_list) list v0_ r1∧Below w.heap.size w w':=by
 have HR0_list:=ζa hr0_list
 have HC0_list:=ζa hc0_list
 clear hr0_list hc0_list
 have HB0:=ζa (Below.refl w.heap.size w)
 unfold spec_l09Send.f at h
 have HH:=ζa h
 clear h
 go_enter Tryz.func43,Tryz.ntmps43
 have h:=HH.out
 clear HH
 obtain ⟨b1,h1_,h⟩:=Option.bind_eq_some_iff.mp h
 have HH:=ζa h
 have H1:=ζa h1_
 clear h h1_
 go_wp2_with fail
 refine (spec_l05Name.calls k id b1 _ H1.out).mono ?_
 rintro e w1 ⟨rfl,hd⟩
 have hb:=hd.below
 clear hd
 have m_:=ζa (δr (by repeat (first|exact HB0.out|apply δk|apply δj|apply δi)) hb)
 clear hb
 have HB1:=m_
 clear m_
 have h:=HH.out
 clear HH
 cases b1 with
 | true =>
  rw [if_pos rfl] at h
  have HH:=ζa h
  clear h
  have h:=HH.out
  clear HH
  obtain ⟨b2,h3_,h⟩:=Option.bind_eq_some_iff.mp h
  have HH:=ζa h
  have H3:=ζa h3_
  clear h h3_
  go_wp2_with fail
  refine (spec_l08Name.calls k maker b2 _ H3.out).mono ?_
  rintro e w3 ⟨rfl,hd⟩
  have hb:=hd.below
  clear hd
  have m_:=ζa (δr (by repeat (first|exact HB1.out|apply δk|apply δj|apply δi)) hb)
  clear hb
  have HB3:=m_
  clear m_
  have h:=HH.out
  clear HH
  cases b2 with
  | true =>
   rw [if_pos rfl] at h
   have HH:=ζa h
   clear h
   have h:=HH.out
   clear HH
   obtain ⟨b3,h5_,h⟩:=Option.bind_eq_some_iff.mp h
   have HH:=ζa h
   have H5:=ζa h5_
   clear h h5_
   go_wp2_with fail
   refine (spec_l08Name.calls k taker b3 _ H5.out).mono ?_
   rintro e w5 ⟨rfl,hd⟩
   have hb:=hd.below
   clear hd
   have m_:=ζa (δr (by repeat (first|exact HB3.out|apply δk|apply δj|apply δi)) hb)
   clear hb
   have HB5:=m_
   clear m_
   have h:=HH.out
   clear HH
   cases b3 with
   | true =>
    rw [if_pos rfl] at h
    have HH:=ζa h
    clear h
    have h:=HH.out
    clear HH
    obtain ⟨b4,h7_,h⟩:=Option.bind_eq_some_iff.mp h
    have HH:=ζa h
    have H7:=ζa h7_
    clear h h7_
    go_wp2_with fail
    refine (spec_l01In.calls pay 1 1000000000000000000 b4 _ H7.out).mono ?_
    rintro e w7 ⟨rfl,hd⟩
    have hb:=hd.below
    clear hd
    have m_:=ζa (δr (by repeat (first|exact HB5.out|apply δk|apply δj|apply δi)) hb)
    clear hb
    have HB7:=m_
    clear m_
    have h:=HH.out
    clear HH
    cases b4 with
    | true =>
     rw [if_pos rfl] at h
     have HH:=ζa h
     clear h
     have h:=HH.out
     clear HH
     obtain ⟨⟨o1,c1⟩,h9_,h⟩:=Option.bind_eq_some_iff.mp h
     have HH:=ζa h
     have H9:=ζa h9_
     clear h h9_
     go_wp2_with fail
     refine (spec_l05Move.calls k A_list c_list list taker ((⟨#[116,97,107,101,115]⟩:ByteArray)) name pay o1 c1 _ (by repeat (first|exact Kd.C_below HR0_list.out HB7.out|apply Kd.C_alloc|apply Kd.C_drew|apply Kd.C_drewN)) HC0_list.out H9.out).mono ?_
     rintro e w9 ⟨v9,rfl,ho,hb⟩
     have hsf:=Sf.trans (by exact ⟨Or.inl ⟨rfl,rfl⟩⟩) ho hb (Below.size (show Below w.heap.size w _ from by repeat (first|exact HB7.out|apply δk|apply δj|apply δi)))
     obtain ⟨adr9,cap9,rfl,hl9,hq9⟩:=Sf.reads ho (Kd.C_below HR0_list.out (δr (by repeat (first|exact HB7.out|apply δk|apply δj|apply δi)) hb)) HC0_list.out
     have HC9:=ζa hl9
     have HRn9:=ζa hq9
     have HS9:=ζa hsf
     clear hl9 hq9 ho hsf
     have m_:=ζa (δr (by repeat (first|exact HB7.out|apply δk|apply δj|apply δi)) hb)
     clear hb
     have HB9:=m_
     clear m_
     have h:=HH.out
     clear HH
     by_cases cc10:c1=0
     ·
      rw [if_pos cc10] at h
      have HH:=ζa h
      clear h
      have f10a:(c1 == 0)=τ:=beq_iff_eq.mpr cc10
      have f10b:(c1 != 0)=φ:=bne_eq_false_iff_eq.mpr cc10
      have C10:=ζa cc10
      clear cc10
      have h:=HH.out
      clear HH
      obtain ⟨d1,h11_,h⟩:=Option.bind_eq_some_iff.mp h
      have HH:=ζa h
      have H11:=ζa h11_
      clear h h11_
      go_wp2_with fail
      refine (spec_l09Data.calls k id maker taker pay d1 _ H11.out).mono ?_
      rintro e w11 ⟨rfl,hb⟩
      have m_:=ζa (Kd.C_below (by repeat (first|exact HRn9.out|apply Kd.C_alloc|apply Kd.C_drew|apply Kd.C_drewN)) hb)
      clear HRn9
      have HRn9:=m_
      clear m_
      have m_:=ζa (Sf.below (by repeat (first|exact HS9.out|apply Sf.alloc|apply Sf.drew|apply Sf.drewN)) hb)
      clear HS9
      have HS9:=m_
      clear m_
      have m_:=ζa (δr (by repeat (first|exact HB9.out|apply δk|apply δj|apply δi)) hb)
      clear hb
      have HB11:=m_
      clear m_
      have h:=HH.out
      clear HH
      simp only [Option.some.injEq,Prod.mk.injEq] at h
      obtain ⟨rfl,rfl,rfl⟩:=h
      go_wp2
      go_ret3
      exact ⟨_,rfl,(by repeat (first|exact HS9.out|apply Sf.alloc|apply Sf.drew|apply Sf.drewN)),(by repeat (first|exact HB11.out|apply δk|apply δj|apply δi))⟩
     ·
      rw [if_neg cc10] at h
      have HH:=ζa h
      clear h
      have f10a:(c1 == 0)=φ:=beq_eq_false_iff_ne.mpr cc10
      have f10b:(c1 != 0)=τ:=bne_iff_ne.mpr cc10
      have C10:=ζa cc10
      clear cc10
      have h:=HH.out
      clear HH
      simp only [Option.some.injEq,Prod.mk.injEq] at h
      obtain ⟨rfl,rfl,rfl⟩:=h
      go_wp2
      go_ret3
      exact ⟨_,rfl,⟨Or.inl ⟨rfl,rfl⟩⟩,(by repeat (first|exact HB9.out|apply δk|apply δj|apply δi))⟩
    | false =>
     rw [if_neg (by decide)] at h
     have HH:=ζa h
     clear h
     have h:=HH.out
     clear HH
     simp only [Option.some.injEq,Prod.mk.injEq] at h
     obtain ⟨rfl,rfl,rfl⟩:=h
     go_wp2
     go_ret3
     exact ⟨_,rfl,⟨Or.inl ⟨rfl,rfl⟩⟩,(by repeat (first|exact HB7.out|apply δk|apply δj|apply δi))⟩
   | false =>
    rw [if_neg (by decide)] at h
    have HH:=ζa h
    clear h
    have h:=HH.out
    clear HH
    simp only [Option.some.injEq,Prod.mk.injEq] at h
    obtain ⟨rfl,rfl,rfl⟩:=h
    go_wp2
    go_ret3
    exact ⟨_,rfl,⟨Or.inl ⟨rfl,rfl⟩⟩,(by repeat (first|exact HB5.out|apply δk|apply δj|apply δi))⟩
  | false =>
   rw [if_neg (by decide)] at h
   have HH:=ζa h
   clear h
   have h:=HH.out
   clear HH
   simp only [Option.some.injEq,Prod.mk.injEq] at h
   obtain ⟨rfl,rfl,rfl⟩:=h
   go_wp2
   go_ret3
   exact ⟨_,rfl,⟨Or.inl ⟨rfl,rfl⟩⟩,(by repeat (first|exact HB3.out|apply δk|apply δj|apply δi))⟩
 | false =>
  rw [if_neg (by decide)] at h
  have HH:=ζa h
  clear h
  have h:=HH.out
  clear HH
  simp only [Option.some.injEq,Prod.mk.injEq] at h
  obtain ⟨rfl,rfl,rfl⟩:=h
  go_wp2
  go_ret3
  exact ⟨_,rfl,⟨Or.inl ⟨rfl,rfl⟩⟩,(by repeat (first|exact HB1.out|apply δk|apply δj|apply δi))⟩

end Go.Proofs.YtabmfhnhmoiljaaGreatDoor.Q
