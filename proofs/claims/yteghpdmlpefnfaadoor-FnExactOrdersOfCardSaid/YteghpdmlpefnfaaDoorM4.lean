/- Parts of the proof: what single Go functions compute, each with its walk, and plain laws over these. -/
import Derived.Test.YteghpdmlpefnfaaDoorM0
namespace Go.Proofs.YteghpdmlpefnfaaDoor.Q
open Go.RowKit Go.Proofs.YteghpdmlpefnfaaDoorW.PrintWords Go.Proofs.YteghpdmlpefnfaaDoorW.PrintLast Go.Proofs.YteghpdmlpefnfaaDoorW.PrintMore
open Go.Proofs.YteghpdmlpefnfaaDoorW.PrintWords.Aside0 renaming mk → ζa
open Go.Proofs.YteghpdmlpefnfaaDoorW.PrintWords renaming gate_dst → δx, box_event → δz, below_step → δr, below_size → δs, blk_cell → δl, blk_frozen → δm
open Bool renaming true → τ, false → φ
attribute [local go_sem] max2_int min2_int max_two min_two max_three min_three max_four min_four   -- for this text's walks alone
set_option linter.unusedVariables false
set_option linter.unusedSimpArgs false

/-! ### laws_eqOrder: function 25 -/
def laws_eqOrder.f (a0_0:ByteArray) (a0_1:ByteArray) (a0_2:Int) (a0_3:Int) (a0_4:Int) (a0_5:Bool) (a1_0:ByteArray) (a1_1:ByteArray) (a1_2:Int) (a1_3:Int) (a1_4:Int) (a1_5:Bool):Option (Bool):=if a0_0.toList=a1_0.toList then (if a0_1.toList=a1_1.toList then (if a0_2=a1_2 then (if a0_3=a1_3 then (if a0_4=a1_4 then (if (a0_5 != a1_5)=τ then (some φ) else (some τ)) else (some φ)) else (some φ)) else (some φ)) else (some φ)) else (some φ)
set_option maxHeartbeats 8000000 in
set_option maxRecDepth 100000 in
theorem laws_eqOrder.calls (a0_0:ByteArray) (a0_1:ByteArray) (a0_2:Int) (a0_3:Int) (a0_4:Int) (a0_5:Bool) (a1_0:ByteArray) (a1_1:ByteArray) (a1_2:Int) (a1_3:Int) (a1_4:Int) (a1_5:Bool) (r:Bool) (w:World) (h:laws_eqOrder.f a0_0 a0_1 a0_2 a0_3 a0_4 a0_5 a1_0 a1_1 a1_2 a1_3 a1_4 a1_5=some r) :
  Calls Tryd.prog 25 #[.agg #[.string a0_0,.string a0_1,.int .i64 a0_2,.int .i64 a0_3,.int .i64 a0_4,.bool a0_5],.agg #[.string a1_0,.string a1_1,.int .i64 a1_2,.int .i64 a1_3,.int .i64 a1_4,.bool a1_5]] w fun e w'=>e = .returned (.bool r)∧Below w.heap.size w w':=by
 have hu42:=Tryd.underlying42
 have HB:=ζa (Below.refl w.heap.size w)
 have H:(if a0_0.toList=a1_0.toList then (if a0_1.toList=a1_1.toList then (if a0_2=a1_2 then (if a0_3=a1_3 then (if a0_4=a1_4 then (if (a0_5 != a1_5)=τ then (some φ) else (some τ)) else (some φ)) else (some φ)) else (some φ)) else (some φ)) else (some φ))=some r:=h
 clear h
 by_cases c3:a0_0.toList=a1_0.toList
 ·
  rw [if_pos c3] at H
  have c3b0:(a0_0.toList == a1_0.toList)=τ:=beq_iff_eq.mpr c3
  have c3b1:(a0_0.toList != a1_0.toList)=φ:=bne_eq_false_iff_eq.mpr c3
  clear c3
  by_cases c4:a0_1.toList=a1_1.toList
  ·
   rw [if_pos c4] at H
   have c4b0:(a0_1.toList == a1_1.toList)=τ:=beq_iff_eq.mpr c4
   have c4b1:(a0_1.toList != a1_1.toList)=φ:=bne_eq_false_iff_eq.mpr c4
   clear c4
   by_cases c5:a0_2=a1_2
   ·
    rw [if_pos c5] at H
    have c5b0:(a0_2 == a1_2)=τ:=beq_iff_eq.mpr c5
    have c5b1:(a0_2 != a1_2)=φ:=bne_eq_false_iff_eq.mpr c5
    clear c5
    by_cases c6:a0_3=a1_3
    ·
     rw [if_pos c6] at H
     have c6b0:(a0_3 == a1_3)=τ:=beq_iff_eq.mpr c6
     have c6b1:(a0_3 != a1_3)=φ:=bne_eq_false_iff_eq.mpr c6
     clear c6
     by_cases c7:a0_4=a1_4
     ·
      rw [if_pos c7] at H
      have c7b0:(a0_4 == a1_4)=τ:=beq_iff_eq.mpr c7
      have c7b1:(a0_4 != a1_4)=φ:=bne_eq_false_iff_eq.mpr c7
      clear c7
      by_cases c8:(a0_5 != a1_5)=τ
      ·
       rw [if_pos c8] at H
       have c8b0:(a0_5 != a1_5)=τ:=c8
       (try (have c8b1:decide (a0_5=a1_5)=φ:=by simpa using c8))
       (try (have c8b2:(a0_5 == a1_5)=φ:=by simpa using c8))
       (try (have c8b3 : ¬ (a0_5=a1_5):=by simpa using c8))
       clear c8
       obtain rfl:=Option.some.inj H
       go_enter Tryd.func25,Tryd.ntmps25
       go_wp2_with (first|((with_reducible refine δx (N:=2) rfl ?_);refine δz ?hg (N:=2) ?hd (cs:=#[.string a0_0,.string a0_1,.int .i64 a0_2,.int .i64 a0_3,.int .i64 a0_4,.bool a0_5]) (t:=42) ?hr ?_;(case hd=>rfl);(case hg=>rfl);(case hr=>(go_simp;done));intro gb468 hg w9 hbox hb;have n0_:=ζa (δr (by exact HB.out) hb);have n1_:=ζa (hbox);have n2_:=ζa ((by rw [hg];exact (δs (by exact HB.out)):w.heap.size≤gb468));have n3_:=ζa ((by rw [hg];exact (δs (by exact HB.out)):w.heap.size≤gb468));clear HB;have HB:=n0_;have BK468:=n1_;have GW468:=n2_;have GE468:=n3_;clear n0_ n1_ n2_ n3_;clear hb hbox hg)|((with_reducible refine δx (N:=3) rfl ?_);refine δz ?hg (N:=3) ?hd (cs:=#[.string a1_0,.string a1_1,.int .i64 a1_2,.int .i64 a1_3,.int .i64 a1_4,.bool a1_5]) (t:=42) ?hr ?_;(case hd=>rfl);(case hg=>rfl);(case hr=>(go_simp;done));intro gb469 hg w10 hbox hb;have n0_:=ζa (blk_below (g:=gb468) (o:=.cells #[.string a0_0,.string a0_1,.int .i64 a0_2,.int .i64 a0_3,.int .i64 a0_4,.bool a0_5] 42 (0,0)) (by exact BK468.out) hb);have n1_:=ζa (δr (by exact HB.out) hb);have n2_:=ζa (hbox);have n3_:=ζa ((by rw [hg];exact (δs (by exact HB.out)):w.heap.size≤gb469));have n4_:=ζa ((by rw [hg];exact (δs (by exact HB.out)):w.heap.size≤gb469));have n5_:=ζa ((by rw [hg];exact Nat.ne_of_lt (blk_lt (g:=gb468) (o:=.cells #[.string a0_0,.string a0_1,.int .i64 a0_2,.int .i64 a0_3,.int .i64 a0_4,.bool a0_5] 42 (0,0)) (by exact BK468.out)):gb468≠gb469));have n6_:=ζa ((by rw [hg];exact Nat.ne_of_gt (blk_lt (g:=gb468) (o:=.cells #[.string a0_0,.string a0_1,.int .i64 a0_2,.int .i64 a0_3,.int .i64 a0_4,.bool a0_5] 42 (0,0)) (by exact BK468.out)):gb469≠gb468));clear BK468;clear HB;have BK468:=n0_;have HB:=n1_;have BK469:=n2_;have GW469:=n3_;have GE469:=n4_;have NB468_469:=n5_;have NB469_468:=n6_;clear n0_ n1_ n2_ n3_ n4_ n5_ n6_;clear hb hbox hg;have hnb11:=NB468_469.out;have hnc11:=NB469_468.out;have hcz12_0:w10.cell? ⟨gb468,0,none⟩=some (.string a0_0):=(δl BK468.out 0).trans rfl;have hcz12_1:w10.cell? ⟨gb468,1,none⟩=some (.string a0_1):=(δl BK468.out 1).trans rfl;have hcz12_2:w10.cell? ⟨gb468,2,none⟩=some (.int .i64 a0_2):=(δl BK468.out 2).trans rfl;have hcz12_3:w10.cell? ⟨gb468,3,none⟩=some (.int .i64 a0_3):=(δl BK468.out 3).trans rfl;have hcz12_4:w10.cell? ⟨gb468,4,none⟩=some (.int .i64 a0_4):=(δl BK468.out 4).trans rfl;have hcz12_5:w10.cell? ⟨gb468,5,none⟩=some (.bool a0_5):=(δl BK468.out 5).trans rfl;have hfz12_0:=δm BK468.out 0;have hfz12_1:=δm BK468.out 1;have hfz12_2:=δm BK468.out 2;have hfz12_3:=δm BK468.out 3;have hfz12_4:=δm BK468.out 4;have hfz12_5:=δm BK468.out 5;have hcz13_0:w10.cell? ⟨gb469,0,none⟩=some (.string a1_0):=(δl BK469.out 0).trans rfl;have hcz13_1:w10.cell? ⟨gb469,1,none⟩=some (.string a1_1):=(δl BK469.out 1).trans rfl;have hcz13_2:w10.cell? ⟨gb469,2,none⟩=some (.int .i64 a1_2):=(δl BK469.out 2).trans rfl;have hcz13_3:w10.cell? ⟨gb469,3,none⟩=some (.int .i64 a1_3):=(δl BK469.out 3).trans rfl;have hcz13_4:w10.cell? ⟨gb469,4,none⟩=some (.int .i64 a1_4):=(δl BK469.out 4).trans rfl;have hcz13_5:w10.cell? ⟨gb469,5,none⟩=some (.bool a1_5):=(δl BK469.out 5).trans rfl;have hfz13_0:=δm BK469.out 0;have hfz13_1:=δm BK469.out 1;have hfz13_2:=δm BK469.out 2;have hfz13_3:=δm BK469.out 3;have hfz13_4:=δm BK469.out 4;have hfz13_5:=δm BK469.out 5))
       go_ret
       exact ⟨by rfl,by repeat ((with_reducible exact HB.out))⟩
      ·
       rw [if_neg c8] at H
       have c8b0:(a0_5 != a1_5)=φ:=by simpa using c8
       (try (have c8b1:decide (a0_5=a1_5)=τ:=by simpa using c8))
       (try (have c8b2:(a0_5 == a1_5)=τ:=by simpa using c8))
       clear c8
       obtain rfl:=Option.some.inj H
       go_enter Tryd.func25,Tryd.ntmps25
       go_wp2_with (first|((with_reducible refine δx (N:=2) rfl ?_);refine δz ?hg (N:=2) ?hd (cs:=#[.string a0_0,.string a0_1,.int .i64 a0_2,.int .i64 a0_3,.int .i64 a0_4,.bool a0_5]) (t:=42) ?hr ?_;(case hd=>rfl);(case hg=>rfl);(case hr=>(go_simp;done));intro gb468 hg w14 hbox hb;have n0_:=ζa (δr (by exact HB.out) hb);have n1_:=ζa (hbox);have n2_:=ζa ((by rw [hg];exact (δs (by exact HB.out)):w.heap.size≤gb468));have n3_:=ζa ((by rw [hg];exact (δs (by exact HB.out)):w.heap.size≤gb468));clear HB;have HB:=n0_;have BK468:=n1_;have GW468:=n2_;have GE468:=n3_;clear n0_ n1_ n2_ n3_;clear hb hbox hg)|((with_reducible refine δx (N:=3) rfl ?_);refine δz ?hg (N:=3) ?hd (cs:=#[.string a1_0,.string a1_1,.int .i64 a1_2,.int .i64 a1_3,.int .i64 a1_4,.bool a1_5]) (t:=42) ?hr ?_;(case hd=>rfl);(case hg=>rfl);(case hr=>(go_simp;done));intro gb469 hg w15 hbox hb;have n0_:=ζa (blk_below (g:=gb468) (o:=.cells #[.string a0_0,.string a0_1,.int .i64 a0_2,.int .i64 a0_3,.int .i64 a0_4,.bool a0_5] 42 (0,0)) (by exact BK468.out) hb);have n1_:=ζa (δr (by exact HB.out) hb);have n2_:=ζa (hbox);have n3_:=ζa ((by rw [hg];exact (δs (by exact HB.out)):w.heap.size≤gb469));have n4_:=ζa ((by rw [hg];exact (δs (by exact HB.out)):w.heap.size≤gb469));have n5_:=ζa ((by rw [hg];exact Nat.ne_of_lt (blk_lt (g:=gb468) (o:=.cells #[.string a0_0,.string a0_1,.int .i64 a0_2,.int .i64 a0_3,.int .i64 a0_4,.bool a0_5] 42 (0,0)) (by exact BK468.out)):gb468≠gb469));have n6_:=ζa ((by rw [hg];exact Nat.ne_of_gt (blk_lt (g:=gb468) (o:=.cells #[.string a0_0,.string a0_1,.int .i64 a0_2,.int .i64 a0_3,.int .i64 a0_4,.bool a0_5] 42 (0,0)) (by exact BK468.out)):gb469≠gb468));clear BK468;clear HB;have BK468:=n0_;have HB:=n1_;have BK469:=n2_;have GW469:=n3_;have GE469:=n4_;have NB468_469:=n5_;have NB469_468:=n6_;clear n0_ n1_ n2_ n3_ n4_ n5_ n6_;clear hb hbox hg;have hnb16:=NB468_469.out;have hnc16:=NB469_468.out;have hcz17_0:w15.cell? ⟨gb468,0,none⟩=some (.string a0_0):=(δl BK468.out 0).trans rfl;have hcz17_1:w15.cell? ⟨gb468,1,none⟩=some (.string a0_1):=(δl BK468.out 1).trans rfl;have hcz17_2:w15.cell? ⟨gb468,2,none⟩=some (.int .i64 a0_2):=(δl BK468.out 2).trans rfl;have hcz17_3:w15.cell? ⟨gb468,3,none⟩=some (.int .i64 a0_3):=(δl BK468.out 3).trans rfl;have hcz17_4:w15.cell? ⟨gb468,4,none⟩=some (.int .i64 a0_4):=(δl BK468.out 4).trans rfl;have hcz17_5:w15.cell? ⟨gb468,5,none⟩=some (.bool a0_5):=(δl BK468.out 5).trans rfl;have hfz17_0:=δm BK468.out 0;have hfz17_1:=δm BK468.out 1;have hfz17_2:=δm BK468.out 2;have hfz17_3:=δm BK468.out 3;have hfz17_4:=δm BK468.out 4;have hfz17_5:=δm BK468.out 5;have hcz18_0:w15.cell? ⟨gb469,0,none⟩=some (.string a1_0):=(δl BK469.out 0).trans rfl;have hcz18_1:w15.cell? ⟨gb469,1,none⟩=some (.string a1_1):=(δl BK469.out 1).trans rfl;have hcz18_2:w15.cell? ⟨gb469,2,none⟩=some (.int .i64 a1_2):=(δl BK469.out 2).trans rfl;have hcz18_3:w15.cell? ⟨gb469,3,none⟩=some (.int .i64 a1_3):=(δl BK469.out 3).trans rfl;have hcz18_4:w15.cell? ⟨gb469,4,none⟩=some (.int .i64 a1_4):=(δl BK469.out 4).trans rfl;have hcz18_5:w15.cell? ⟨gb469,5,none⟩=some (.bool a1_5):=(δl BK469.out 5).trans rfl;have hfz18_0:=δm BK469.out 0;have hfz18_1:=δm BK469.out 1;have hfz18_2:=δm BK469.out 2;have hfz18_3:=δm BK469.out 3;have hfz18_4:=δm BK469.out 4;have hfz18_5:=δm BK469.out 5))
       go_ret
       exact ⟨by rfl,by repeat ((with_reducible exact HB.out))⟩
     ·
      rw [if_neg c7] at H
      have c7b0:(a0_4 == a1_4)=φ:=beq_eq_false_iff_ne.mpr c7
      have c7b1:(a0_4 != a1_4)=τ:=bne_iff_ne.mpr c7
      obtain rfl:=Option.some.inj H
      go_enter Tryd.func25,Tryd.ntmps25
      go_wp2_with (first|((with_reducible refine δx (N:=2) rfl ?_);refine δz ?hg (N:=2) ?hd (cs:=#[.string a0_0,.string a0_1,.int .i64 a0_2,.int .i64 a0_3,.int .i64 a0_4,.bool a0_5]) (t:=42) ?hr ?_;(case hd=>rfl);(case hg=>rfl);(case hr=>(go_simp;done));intro gb468 hg w19 hbox hb;have n0_:=ζa (δr (by exact HB.out) hb);have n1_:=ζa (hbox);have n2_:=ζa ((by rw [hg];exact (δs (by exact HB.out)):w.heap.size≤gb468));have n3_:=ζa ((by rw [hg];exact (δs (by exact HB.out)):w.heap.size≤gb468));clear HB;have HB:=n0_;have BK468:=n1_;have GW468:=n2_;have GE468:=n3_;clear n0_ n1_ n2_ n3_;clear hb hbox hg)|((with_reducible refine δx (N:=3) rfl ?_);refine δz ?hg (N:=3) ?hd (cs:=#[.string a1_0,.string a1_1,.int .i64 a1_2,.int .i64 a1_3,.int .i64 a1_4,.bool a1_5]) (t:=42) ?hr ?_;(case hd=>rfl);(case hg=>rfl);(case hr=>(go_simp;done));intro gb469 hg w20 hbox hb;have n0_:=ζa (blk_below (g:=gb468) (o:=.cells #[.string a0_0,.string a0_1,.int .i64 a0_2,.int .i64 a0_3,.int .i64 a0_4,.bool a0_5] 42 (0,0)) (by exact BK468.out) hb);have n1_:=ζa (δr (by exact HB.out) hb);have n2_:=ζa (hbox);have n3_:=ζa ((by rw [hg];exact (δs (by exact HB.out)):w.heap.size≤gb469));have n4_:=ζa ((by rw [hg];exact (δs (by exact HB.out)):w.heap.size≤gb469));have n5_:=ζa ((by rw [hg];exact Nat.ne_of_lt (blk_lt (g:=gb468) (o:=.cells #[.string a0_0,.string a0_1,.int .i64 a0_2,.int .i64 a0_3,.int .i64 a0_4,.bool a0_5] 42 (0,0)) (by exact BK468.out)):gb468≠gb469));have n6_:=ζa ((by rw [hg];exact Nat.ne_of_gt (blk_lt (g:=gb468) (o:=.cells #[.string a0_0,.string a0_1,.int .i64 a0_2,.int .i64 a0_3,.int .i64 a0_4,.bool a0_5] 42 (0,0)) (by exact BK468.out)):gb469≠gb468));clear BK468;clear HB;have BK468:=n0_;have HB:=n1_;have BK469:=n2_;have GW469:=n3_;have GE469:=n4_;have NB468_469:=n5_;have NB469_468:=n6_;clear n0_ n1_ n2_ n3_ n4_ n5_ n6_;clear hb hbox hg;have hnb21:=NB468_469.out;have hnc21:=NB469_468.out;have hcz22_0:w20.cell? ⟨gb468,0,none⟩=some (.string a0_0):=(δl BK468.out 0).trans rfl;have hcz22_1:w20.cell? ⟨gb468,1,none⟩=some (.string a0_1):=(δl BK468.out 1).trans rfl;have hcz22_2:w20.cell? ⟨gb468,2,none⟩=some (.int .i64 a0_2):=(δl BK468.out 2).trans rfl;have hcz22_3:w20.cell? ⟨gb468,3,none⟩=some (.int .i64 a0_3):=(δl BK468.out 3).trans rfl;have hcz22_4:w20.cell? ⟨gb468,4,none⟩=some (.int .i64 a0_4):=(δl BK468.out 4).trans rfl;have hcz22_5:w20.cell? ⟨gb468,5,none⟩=some (.bool a0_5):=(δl BK468.out 5).trans rfl;have hfz22_0:=δm BK468.out 0;have hfz22_1:=δm BK468.out 1;have hfz22_2:=δm BK468.out 2;have hfz22_3:=δm BK468.out 3;have hfz22_4:=δm BK468.out 4;have hfz22_5:=δm BK468.out 5;have hcz23_0:w20.cell? ⟨gb469,0,none⟩=some (.string a1_0):=(δl BK469.out 0).trans rfl;have hcz23_1:w20.cell? ⟨gb469,1,none⟩=some (.string a1_1):=(δl BK469.out 1).trans rfl;have hcz23_2:w20.cell? ⟨gb469,2,none⟩=some (.int .i64 a1_2):=(δl BK469.out 2).trans rfl;have hcz23_3:w20.cell? ⟨gb469,3,none⟩=some (.int .i64 a1_3):=(δl BK469.out 3).trans rfl;have hcz23_4:w20.cell? ⟨gb469,4,none⟩=some (.int .i64 a1_4):=(δl BK469.out 4).trans rfl;have hcz23_5:w20.cell? ⟨gb469,5,none⟩=some (.bool a1_5):=(δl BK469.out 5).trans rfl;have hfz23_0:=δm BK469.out 0;have hfz23_1:=δm BK469.out 1;have hfz23_2:=δm BK469.out 2;have hfz23_3:=δm BK469.out 3;have hfz23_4:=δm BK469.out 4;have hfz23_5:=δm BK469.out 5))
      go_ret
      exact ⟨by rfl,by repeat ((with_reducible exact HB.out))⟩
    ·
     rw [if_neg c6] at H
     have c6b0:(a0_3 == a1_3)=φ:=beq_eq_false_iff_ne.mpr c6
     have c6b1:(a0_3 != a1_3)=τ:=bne_iff_ne.mpr c6
     obtain rfl:=Option.some.inj H
     go_enter Tryd.func25,Tryd.ntmps25
     go_wp2_with (first|((with_reducible refine δx (N:=2) rfl ?_);refine δz ?hg (N:=2) ?hd (cs:=#[.string a0_0,.string a0_1,.int .i64 a0_2,.int .i64 a0_3,.int .i64 a0_4,.bool a0_5]) (t:=42) ?hr ?_;(case hd=>rfl);(case hg=>rfl);(case hr=>(go_simp;done));intro gb468 hg w24 hbox hb;have n0_:=ζa (δr (by exact HB.out) hb);have n1_:=ζa (hbox);have n2_:=ζa ((by rw [hg];exact (δs (by exact HB.out)):w.heap.size≤gb468));have n3_:=ζa ((by rw [hg];exact (δs (by exact HB.out)):w.heap.size≤gb468));clear HB;have HB:=n0_;have BK468:=n1_;have GW468:=n2_;have GE468:=n3_;clear n0_ n1_ n2_ n3_;clear hb hbox hg)|((with_reducible refine δx (N:=3) rfl ?_);refine δz ?hg (N:=3) ?hd (cs:=#[.string a1_0,.string a1_1,.int .i64 a1_2,.int .i64 a1_3,.int .i64 a1_4,.bool a1_5]) (t:=42) ?hr ?_;(case hd=>rfl);(case hg=>rfl);(case hr=>(go_simp;done));intro gb469 hg w25 hbox hb;have n0_:=ζa (blk_below (g:=gb468) (o:=.cells #[.string a0_0,.string a0_1,.int .i64 a0_2,.int .i64 a0_3,.int .i64 a0_4,.bool a0_5] 42 (0,0)) (by exact BK468.out) hb);have n1_:=ζa (δr (by exact HB.out) hb);have n2_:=ζa (hbox);have n3_:=ζa ((by rw [hg];exact (δs (by exact HB.out)):w.heap.size≤gb469));have n4_:=ζa ((by rw [hg];exact (δs (by exact HB.out)):w.heap.size≤gb469));have n5_:=ζa ((by rw [hg];exact Nat.ne_of_lt (blk_lt (g:=gb468) (o:=.cells #[.string a0_0,.string a0_1,.int .i64 a0_2,.int .i64 a0_3,.int .i64 a0_4,.bool a0_5] 42 (0,0)) (by exact BK468.out)):gb468≠gb469));have n6_:=ζa ((by rw [hg];exact Nat.ne_of_gt (blk_lt (g:=gb468) (o:=.cells #[.string a0_0,.string a0_1,.int .i64 a0_2,.int .i64 a0_3,.int .i64 a0_4,.bool a0_5] 42 (0,0)) (by exact BK468.out)):gb469≠gb468));clear BK468;clear HB;have BK468:=n0_;have HB:=n1_;have BK469:=n2_;have GW469:=n3_;have GE469:=n4_;have NB468_469:=n5_;have NB469_468:=n6_;clear n0_ n1_ n2_ n3_ n4_ n5_ n6_;clear hb hbox hg;have hnb26:=NB468_469.out;have hnc26:=NB469_468.out;have hcz27_0:w25.cell? ⟨gb468,0,none⟩=some (.string a0_0):=(δl BK468.out 0).trans rfl;have hcz27_1:w25.cell? ⟨gb468,1,none⟩=some (.string a0_1):=(δl BK468.out 1).trans rfl;have hcz27_2:w25.cell? ⟨gb468,2,none⟩=some (.int .i64 a0_2):=(δl BK468.out 2).trans rfl;have hcz27_3:w25.cell? ⟨gb468,3,none⟩=some (.int .i64 a0_3):=(δl BK468.out 3).trans rfl;have hcz27_4:w25.cell? ⟨gb468,4,none⟩=some (.int .i64 a0_4):=(δl BK468.out 4).trans rfl;have hcz27_5:w25.cell? ⟨gb468,5,none⟩=some (.bool a0_5):=(δl BK468.out 5).trans rfl;have hfz27_0:=δm BK468.out 0;have hfz27_1:=δm BK468.out 1;have hfz27_2:=δm BK468.out 2;have hfz27_3:=δm BK468.out 3;have hfz27_4:=δm BK468.out 4;have hfz27_5:=δm BK468.out 5;have hcz28_0:w25.cell? ⟨gb469,0,none⟩=some (.string a1_0):=(δl BK469.out 0).trans rfl;have hcz28_1:w25.cell? ⟨gb469,1,none⟩=some (.string a1_1):=(δl BK469.out 1).trans rfl;have hcz28_2:w25.cell? ⟨gb469,2,none⟩=some (.int .i64 a1_2):=(δl BK469.out 2).trans rfl;have hcz28_3:w25.cell? ⟨gb469,3,none⟩=some (.int .i64 a1_3):=(δl BK469.out 3).trans rfl;have hcz28_4:w25.cell? ⟨gb469,4,none⟩=some (.int .i64 a1_4):=(δl BK469.out 4).trans rfl;have hcz28_5:w25.cell? ⟨gb469,5,none⟩=some (.bool a1_5):=(δl BK469.out 5).trans rfl;have hfz28_0:=δm BK469.out 0;have hfz28_1:=δm BK469.out 1;have hfz28_2:=δm BK469.out 2;have hfz28_3:=δm BK469.out 3;have hfz28_4:=δm BK469.out 4;have hfz28_5:=δm BK469.out 5))
     go_ret
     exact ⟨by rfl,by repeat ((with_reducible exact HB.out))⟩
   ·
    rw [if_neg c5] at H
    have c5b0:(a0_2 == a1_2)=φ:=beq_eq_false_iff_ne.mpr c5
    have c5b1:(a0_2 != a1_2)=τ:=bne_iff_ne.mpr c5
    obtain rfl:=Option.some.inj H
    go_enter Tryd.func25,Tryd.ntmps25
    go_wp2_with (first|((with_reducible refine δx (N:=2) rfl ?_);refine δz ?hg (N:=2) ?hd (cs:=#[.string a0_0,.string a0_1,.int .i64 a0_2,.int .i64 a0_3,.int .i64 a0_4,.bool a0_5]) (t:=42) ?hr ?_;(case hd=>rfl);(case hg=>rfl);(case hr=>(go_simp;done));intro gb468 hg w29 hbox hb;have n0_:=ζa (δr (by exact HB.out) hb);have n1_:=ζa (hbox);have n2_:=ζa ((by rw [hg];exact (δs (by exact HB.out)):w.heap.size≤gb468));have n3_:=ζa ((by rw [hg];exact (δs (by exact HB.out)):w.heap.size≤gb468));clear HB;have HB:=n0_;have BK468:=n1_;have GW468:=n2_;have GE468:=n3_;clear n0_ n1_ n2_ n3_;clear hb hbox hg)|((with_reducible refine δx (N:=3) rfl ?_);refine δz ?hg (N:=3) ?hd (cs:=#[.string a1_0,.string a1_1,.int .i64 a1_2,.int .i64 a1_3,.int .i64 a1_4,.bool a1_5]) (t:=42) ?hr ?_;(case hd=>rfl);(case hg=>rfl);(case hr=>(go_simp;done));intro gb469 hg w30 hbox hb;have n0_:=ζa (blk_below (g:=gb468) (o:=.cells #[.string a0_0,.string a0_1,.int .i64 a0_2,.int .i64 a0_3,.int .i64 a0_4,.bool a0_5] 42 (0,0)) (by exact BK468.out) hb);have n1_:=ζa (δr (by exact HB.out) hb);have n2_:=ζa (hbox);have n3_:=ζa ((by rw [hg];exact (δs (by exact HB.out)):w.heap.size≤gb469));have n4_:=ζa ((by rw [hg];exact (δs (by exact HB.out)):w.heap.size≤gb469));have n5_:=ζa ((by rw [hg];exact Nat.ne_of_lt (blk_lt (g:=gb468) (o:=.cells #[.string a0_0,.string a0_1,.int .i64 a0_2,.int .i64 a0_3,.int .i64 a0_4,.bool a0_5] 42 (0,0)) (by exact BK468.out)):gb468≠gb469));have n6_:=ζa ((by rw [hg];exact Nat.ne_of_gt (blk_lt (g:=gb468) (o:=.cells #[.string a0_0,.string a0_1,.int .i64 a0_2,.int .i64 a0_3,.int .i64 a0_4,.bool a0_5] 42 (0,0)) (by exact BK468.out)):gb469≠gb468));clear BK468;clear HB;have BK468:=n0_;have HB:=n1_;have BK469:=n2_;have GW469:=n3_;have GE469:=n4_;have NB468_469:=n5_;have NB469_468:=n6_;clear n0_ n1_ n2_ n3_ n4_ n5_ n6_;clear hb hbox hg;have hnb31:=NB468_469.out;have hnc31:=NB469_468.out;have hcz32_0:w30.cell? ⟨gb468,0,none⟩=some (.string a0_0):=(δl BK468.out 0).trans rfl;have hcz32_1:w30.cell? ⟨gb468,1,none⟩=some (.string a0_1):=(δl BK468.out 1).trans rfl;have hcz32_2:w30.cell? ⟨gb468,2,none⟩=some (.int .i64 a0_2):=(δl BK468.out 2).trans rfl;have hcz32_3:w30.cell? ⟨gb468,3,none⟩=some (.int .i64 a0_3):=(δl BK468.out 3).trans rfl;have hcz32_4:w30.cell? ⟨gb468,4,none⟩=some (.int .i64 a0_4):=(δl BK468.out 4).trans rfl;have hcz32_5:w30.cell? ⟨gb468,5,none⟩=some (.bool a0_5):=(δl BK468.out 5).trans rfl;have hfz32_0:=δm BK468.out 0;have hfz32_1:=δm BK468.out 1;have hfz32_2:=δm BK468.out 2;have hfz32_3:=δm BK468.out 3;have hfz32_4:=δm BK468.out 4;have hfz32_5:=δm BK468.out 5;have hcz33_0:w30.cell? ⟨gb469,0,none⟩=some (.string a1_0):=(δl BK469.out 0).trans rfl;have hcz33_1:w30.cell? ⟨gb469,1,none⟩=some (.string a1_1):=(δl BK469.out 1).trans rfl;have hcz33_2:w30.cell? ⟨gb469,2,none⟩=some (.int .i64 a1_2):=(δl BK469.out 2).trans rfl;have hcz33_3:w30.cell? ⟨gb469,3,none⟩=some (.int .i64 a1_3):=(δl BK469.out 3).trans rfl;have hcz33_4:w30.cell? ⟨gb469,4,none⟩=some (.int .i64 a1_4):=(δl BK469.out 4).trans rfl;have hcz33_5:w30.cell? ⟨gb469,5,none⟩=some (.bool a1_5):=(δl BK469.out 5).trans rfl;have hfz33_0:=δm BK469.out 0;have hfz33_1:=δm BK469.out 1;have hfz33_2:=δm BK469.out 2;have hfz33_3:=δm BK469.out 3;have hfz33_4:=δm BK469.out 4;have hfz33_5:=δm BK469.out 5))
    go_ret
    exact ⟨by rfl,by repeat ((with_reducible exact HB.out))⟩
  ·
   rw [if_neg c4] at H
   have c4b0:(a0_1.toList == a1_1.toList)=φ:=beq_eq_false_iff_ne.mpr c4
   have c4b1:(a0_1.toList != a1_1.toList)=τ:=bne_iff_ne.mpr c4
   obtain rfl:=Option.some.inj H
   go_enter Tryd.func25,Tryd.ntmps25
   go_wp2_with (first|((with_reducible refine δx (N:=2) rfl ?_);refine δz ?hg (N:=2) ?hd (cs:=#[.string a0_0,.string a0_1,.int .i64 a0_2,.int .i64 a0_3,.int .i64 a0_4,.bool a0_5]) (t:=42) ?hr ?_;(case hd=>rfl);(case hg=>rfl);(case hr=>(go_simp;done));intro gb468 hg w34 hbox hb;have n0_:=ζa (δr (by exact HB.out) hb);have n1_:=ζa (hbox);have n2_:=ζa ((by rw [hg];exact (δs (by exact HB.out)):w.heap.size≤gb468));have n3_:=ζa ((by rw [hg];exact (δs (by exact HB.out)):w.heap.size≤gb468));clear HB;have HB:=n0_;have BK468:=n1_;have GW468:=n2_;have GE468:=n3_;clear n0_ n1_ n2_ n3_;clear hb hbox hg)|((with_reducible refine δx (N:=3) rfl ?_);refine δz ?hg (N:=3) ?hd (cs:=#[.string a1_0,.string a1_1,.int .i64 a1_2,.int .i64 a1_3,.int .i64 a1_4,.bool a1_5]) (t:=42) ?hr ?_;(case hd=>rfl);(case hg=>rfl);(case hr=>(go_simp;done));intro gb469 hg w35 hbox hb;have n0_:=ζa (blk_below (g:=gb468) (o:=.cells #[.string a0_0,.string a0_1,.int .i64 a0_2,.int .i64 a0_3,.int .i64 a0_4,.bool a0_5] 42 (0,0)) (by exact BK468.out) hb);have n1_:=ζa (δr (by exact HB.out) hb);have n2_:=ζa (hbox);have n3_:=ζa ((by rw [hg];exact (δs (by exact HB.out)):w.heap.size≤gb469));have n4_:=ζa ((by rw [hg];exact (δs (by exact HB.out)):w.heap.size≤gb469));have n5_:=ζa ((by rw [hg];exact Nat.ne_of_lt (blk_lt (g:=gb468) (o:=.cells #[.string a0_0,.string a0_1,.int .i64 a0_2,.int .i64 a0_3,.int .i64 a0_4,.bool a0_5] 42 (0,0)) (by exact BK468.out)):gb468≠gb469));have n6_:=ζa ((by rw [hg];exact Nat.ne_of_gt (blk_lt (g:=gb468) (o:=.cells #[.string a0_0,.string a0_1,.int .i64 a0_2,.int .i64 a0_3,.int .i64 a0_4,.bool a0_5] 42 (0,0)) (by exact BK468.out)):gb469≠gb468));clear BK468;clear HB;have BK468:=n0_;have HB:=n1_;have BK469:=n2_;have GW469:=n3_;have GE469:=n4_;have NB468_469:=n5_;have NB469_468:=n6_;clear n0_ n1_ n2_ n3_ n4_ n5_ n6_;clear hb hbox hg;have hnb36:=NB468_469.out;have hnc36:=NB469_468.out;have hcz37_0:w35.cell? ⟨gb468,0,none⟩=some (.string a0_0):=(δl BK468.out 0).trans rfl;have hcz37_1:w35.cell? ⟨gb468,1,none⟩=some (.string a0_1):=(δl BK468.out 1).trans rfl;have hcz37_2:w35.cell? ⟨gb468,2,none⟩=some (.int .i64 a0_2):=(δl BK468.out 2).trans rfl;have hcz37_3:w35.cell? ⟨gb468,3,none⟩=some (.int .i64 a0_3):=(δl BK468.out 3).trans rfl;have hcz37_4:w35.cell? ⟨gb468,4,none⟩=some (.int .i64 a0_4):=(δl BK468.out 4).trans rfl;have hcz37_5:w35.cell? ⟨gb468,5,none⟩=some (.bool a0_5):=(δl BK468.out 5).trans rfl;have hfz37_0:=δm BK468.out 0;have hfz37_1:=δm BK468.out 1;have hfz37_2:=δm BK468.out 2;have hfz37_3:=δm BK468.out 3;have hfz37_4:=δm BK468.out 4;have hfz37_5:=δm BK468.out 5;have hcz38_0:w35.cell? ⟨gb469,0,none⟩=some (.string a1_0):=(δl BK469.out 0).trans rfl;have hcz38_1:w35.cell? ⟨gb469,1,none⟩=some (.string a1_1):=(δl BK469.out 1).trans rfl;have hcz38_2:w35.cell? ⟨gb469,2,none⟩=some (.int .i64 a1_2):=(δl BK469.out 2).trans rfl;have hcz38_3:w35.cell? ⟨gb469,3,none⟩=some (.int .i64 a1_3):=(δl BK469.out 3).trans rfl;have hcz38_4:w35.cell? ⟨gb469,4,none⟩=some (.int .i64 a1_4):=(δl BK469.out 4).trans rfl;have hcz38_5:w35.cell? ⟨gb469,5,none⟩=some (.bool a1_5):=(δl BK469.out 5).trans rfl;have hfz38_0:=δm BK469.out 0;have hfz38_1:=δm BK469.out 1;have hfz38_2:=δm BK469.out 2;have hfz38_3:=δm BK469.out 3;have hfz38_4:=δm BK469.out 4;have hfz38_5:=δm BK469.out 5))
   go_ret
   exact ⟨by rfl,by repeat ((with_reducible exact HB.out))⟩
 ·
  rw [if_neg c3] at H
  have c3b0:(a0_0.toList == a1_0.toList)=φ:=beq_eq_false_iff_ne.mpr c3
  have c3b1:(a0_0.toList != a1_0.toList)=τ:=bne_iff_ne.mpr c3
  obtain rfl:=Option.some.inj H
  go_enter Tryd.func25,Tryd.ntmps25
  go_wp2_with (first|((with_reducible refine δx (N:=2) rfl ?_);refine δz ?hg (N:=2) ?hd (cs:=#[.string a0_0,.string a0_1,.int .i64 a0_2,.int .i64 a0_3,.int .i64 a0_4,.bool a0_5]) (t:=42) ?hr ?_;(case hd=>rfl);(case hg=>rfl);(case hr=>(go_simp;done));intro gb468 hg w39 hbox hb;have n0_:=ζa (δr (by exact HB.out) hb);have n1_:=ζa (hbox);have n2_:=ζa ((by rw [hg];exact (δs (by exact HB.out)):w.heap.size≤gb468));have n3_:=ζa ((by rw [hg];exact (δs (by exact HB.out)):w.heap.size≤gb468));clear HB;have HB:=n0_;have BK468:=n1_;have GW468:=n2_;have GE468:=n3_;clear n0_ n1_ n2_ n3_;clear hb hbox hg)|((with_reducible refine δx (N:=3) rfl ?_);refine δz ?hg (N:=3) ?hd (cs:=#[.string a1_0,.string a1_1,.int .i64 a1_2,.int .i64 a1_3,.int .i64 a1_4,.bool a1_5]) (t:=42) ?hr ?_;(case hd=>rfl);(case hg=>rfl);(case hr=>(go_simp;done));intro gb469 hg w40 hbox hb;have n0_:=ζa (blk_below (g:=gb468) (o:=.cells #[.string a0_0,.string a0_1,.int .i64 a0_2,.int .i64 a0_3,.int .i64 a0_4,.bool a0_5] 42 (0,0)) (by exact BK468.out) hb);have n1_:=ζa (δr (by exact HB.out) hb);have n2_:=ζa (hbox);have n3_:=ζa ((by rw [hg];exact (δs (by exact HB.out)):w.heap.size≤gb469));have n4_:=ζa ((by rw [hg];exact (δs (by exact HB.out)):w.heap.size≤gb469));have n5_:=ζa ((by rw [hg];exact Nat.ne_of_lt (blk_lt (g:=gb468) (o:=.cells #[.string a0_0,.string a0_1,.int .i64 a0_2,.int .i64 a0_3,.int .i64 a0_4,.bool a0_5] 42 (0,0)) (by exact BK468.out)):gb468≠gb469));have n6_:=ζa ((by rw [hg];exact Nat.ne_of_gt (blk_lt (g:=gb468) (o:=.cells #[.string a0_0,.string a0_1,.int .i64 a0_2,.int .i64 a0_3,.int .i64 a0_4,.bool a0_5] 42 (0,0)) (by exact BK468.out)):gb469≠gb468));clear BK468;clear HB;have BK468:=n0_;have HB:=n1_;have BK469:=n2_;have GW469:=n3_;have GE469:=n4_;have NB468_469:=n5_;have NB469_468:=n6_;clear n0_ n1_ n2_ n3_ n4_ n5_ n6_;clear hb hbox hg;have hnb41:=NB468_469.out;have hnc41:=NB469_468.out;have hcz42_0:w40.cell? ⟨gb468,0,none⟩=some (.string a0_0):=(δl BK468.out 0).trans rfl;have hcz42_1:w40.cell? ⟨gb468,1,none⟩=some (.string a0_1):=(δl BK468.out 1).trans rfl;have hcz42_2:w40.cell? ⟨gb468,2,none⟩=some (.int .i64 a0_2):=(δl BK468.out 2).trans rfl;have hcz42_3:w40.cell? ⟨gb468,3,none⟩=some (.int .i64 a0_3):=(δl BK468.out 3).trans rfl;have hcz42_4:w40.cell? ⟨gb468,4,none⟩=some (.int .i64 a0_4):=(δl BK468.out 4).trans rfl;have hcz42_5:w40.cell? ⟨gb468,5,none⟩=some (.bool a0_5):=(δl BK468.out 5).trans rfl;have hfz42_0:=δm BK468.out 0;have hfz42_1:=δm BK468.out 1;have hfz42_2:=δm BK468.out 2;have hfz42_3:=δm BK468.out 3;have hfz42_4:=δm BK468.out 4;have hfz42_5:=δm BK468.out 5;have hcz43_0:w40.cell? ⟨gb469,0,none⟩=some (.string a1_0):=(δl BK469.out 0).trans rfl;have hcz43_1:w40.cell? ⟨gb469,1,none⟩=some (.string a1_1):=(δl BK469.out 1).trans rfl;have hcz43_2:w40.cell? ⟨gb469,2,none⟩=some (.int .i64 a1_2):=(δl BK469.out 2).trans rfl;have hcz43_3:w40.cell? ⟨gb469,3,none⟩=some (.int .i64 a1_3):=(δl BK469.out 3).trans rfl;have hcz43_4:w40.cell? ⟨gb469,4,none⟩=some (.int .i64 a1_4):=(δl BK469.out 4).trans rfl;have hcz43_5:w40.cell? ⟨gb469,5,none⟩=some (.bool a1_5):=(δl BK469.out 5).trans rfl;have hfz43_0:=δm BK469.out 0;have hfz43_1:=δm BK469.out 1;have hfz43_2:=δm BK469.out 2;have hfz43_3:=δm BK469.out 3;have hfz43_4:=δm BK469.out 4;have hfz43_5:=δm BK469.out 5))
  go_ret
  exact ⟨by rfl,by repeat ((with_reducible exact HB.out))⟩


open Go.RowKit renaming wrap64 → ζm
open Go.Proofs.YteghpdmlpefnfaaDoorW.PrintWords renaming below_drew1 → δj, below_step → δr
open Go.Proofs.YteghpdmlpefnfaaDoorW.PrintLast renaming pure_ → ζk, any_of → ζj
open Go.Act renaming put → ζl
open List renaming setIfInBounds_toArray → δa, set_cons_zero → δb, set_cons_succ → δc, map_toArray → δd, map_cons → δe, map_nil → δf

/-! ### laws_eqOrderS: function 28 -/
def laws_eqOrderS.l0:Nat→List (S42)→List (S42)→Int→Option (Bool)
 | 0,_,_,_=>none
 | k+1,x0,x1,x5=>if x5<(x0.length:Int) then (if 0≤x5 then (if x5<(x1.length:Int) then ((laws_eqOrder.f ((rd_T42 x0 x5).f0) ((rd_T42 x0 x5).f1) ((rd_T42 x0 x5).f2) ((rd_T42 x0 x5).f3) ((rd_T42 x0 x5).f4) ((rd_T42 x0 x5).f5) ((rd_T42 x1 x5).f0) ((rd_T42 x1 x5).f1) ((rd_T42 x1 x5).f2) ((rd_T42 x1 x5).f3) ((rd_T42 x1 x5).f4) ((rd_T42 x1 x5).f5)).bind fun t574=>(if t574=τ then (laws_eqOrderS.l0 k x0 x1 (ζm (x5+1))) else (some φ))) else (none)) else (none)) else (some τ)
def laws_eqOrderS.f (k:Nat) (l0:List (S42)) (l1:List (S42)):Option (Bool):=if (l0.length:Int)=(l1.length:Int) then (laws_eqOrderS.l0 k l0 l1 0) else (some φ)
def laws_eqOrderS.T6:Bool × List (List Nat × List Nat):=(τ,[([],[]),([],[]),([0,1],[0,1]),([2],[2]),([],[]),([],[]),([4,5],[4,5]),([6],[6]),([3,7],[3,7]),([8],[8])])
def laws_eqOrderS.B6:List Nat:=[0,0,3,7,0,0,48,112,255,511]
theorem laws_eqOrderS.tab6:rtab .any (opsOf Tryd.f28 6)=laws_eqOrderS.T6:=by kernel_rfl
theorem laws_eqOrderS.bits6:waitsOk laws_eqOrderS.T6.2 laws_eqOrderS.B6=τ:=by kernel_rfl
set_option maxHeartbeats 8000000 in
set_option maxRecDepth 100000 in
theorem laws_eqOrderS.calls (k:Nat) (A0:Option Addr) (c0:Nat) (l0:List (S42)) (A1:Option Addr) (c1:Nat) (l1:List (S42)) (r:Bool) (w:World) (hr0:Kd.C k42 w A0 l0.length l0) (hc0:l0.length≤c0) (hr1:Kd.C k42 w A1 l1.length l1) (hc1:l1.length≤c1) (h:laws_eqOrderS.f k l0 l1=some r) :
  Calls Tryd.prog 28 #[.slice A0 l0.length c0,.slice A1 l1.length c1] w fun e w'=>e = .returned (.bool r)∧Below w.heap.size w w':=by
 have hu42:=Tryd.underlying42
 have HR0:=ζa hr0
 have HC0:=ζa hc0
 clear hr0 hc0
 have HR1:=ζa hr1
 have HC1:=ζa hc1
 clear hr1 hc1
 have HB:=ζa (Below.refl w.heap.size w)
 have H:(if (l0.length:Int)=(l1.length:Int) then (laws_eqOrderS.l0 k l0 l1 0) else (some φ))=some r:=h
 clear h
 by_cases c3:(l0.length:Int)=(l1.length:Int)
 ·
  rw [if_pos c3] at H
  have c3b0:((l0.length:Int) == (l1.length:Int))=τ:=beq_iff_eq.mpr c3
  have c3b1:((l0.length:Int) != (l1.length:Int))=φ:=bne_eq_false_iff_eq.mpr c3
  have c3b2:(l0.length == l1.length)=τ:=by (simp at c3 ⊢;omega)
  clear c3
  have H':=ζa H
  clear H
  go_enter Tryd.func28,Tryd.ntmps28
  go_wp2
  go_loopg [5] k (fun kq v5 w' => ∃ (x5_1:Int),v5 = .int .i64 x5_1∧Aside0 (laws_eqOrderS.l0 kq l0 l1 x5_1=some r)∧Aside0 (kq≤k)∧Aside0 (Below w.heap.size w w'))
  case atStart=>exact ⟨(0),(by rfl),H',⟨Nat.le_refl _⟩,⟨by repeat ((with_reducible exact HB.out))⟩⟩
  case round =>
   clear H'
   try clear c1
   try clear c2
   try clear p2
   try clear c3
   try clear c3b0
   try clear c3b1
   try clear c3b2
   obtain ⟨x5_1,rfl,HA,HK1,HB⟩:=hrel
   cases gk with
   | zero=>exact absurd HA.out (by simp [laws_eqOrderS.l0])
   | succ k1 =>
    have H:=HA.out
    clear HA
    simp only [laws_eqOrderS.l0] at H
    by_cases c4:x5_1<(l0.length:Int)
    ·
     rw [if_pos c4] at H
     have c4b0:decide (x5_1<(l0.length:Int))=τ:=decide_eq_true c4
     clear c4
     by_cases c5:0≤x5_1
     ·
      rw [if_pos c5] at H
      have c5b0:decide (0≤x5_1)=τ:=decide_eq_true c5
      clear c5
      by_cases c6:x5_1<(l1.length:Int)
      ·
       rw [if_pos c6] at H
       have c6b0:decide (x5_1<(l1.length:Int))=τ:=decide_eq_true c6
       clear c6
       replace H:=Option.bind_eq_some_iff.mp H
       obtain ⟨t574,A70,H⟩:=H
       replace H:(if t574=τ then (laws_eqOrderS.l0 k1 l0 l1 (ζm (x5_1+1))) else (some φ))=some r:=H
       have A7:=ζa A70
       clear A70
       by_cases c8:t574=τ
       ·
        subst c8
        have H1:(laws_eqOrderS.l0 k1 l0 l1 (ζm (x5_1+1)))=some r:=by rw [if_pos rfl] at H;exact H
        clear H
        have H:=H1
        clear H1
        have H':=ζa H
        clear H
        try go_wp2
        have n0_:=ζa (δj HB.out)
        clear HB
        have HB:=n0_
        clear n0_
        have p572:0≤(x5_1:Int):=of_decide_eq_true (by (with_reducible assumption))
        have q572:x5_1<(l0.length:Int):=of_decide_eq_true (by (with_reducible assumption))
        obtain ⟨ad572,e572,hx572_0,hx572_1,hx572_2,hx572_3,hx572_4,hx572_5⟩:=at_T42 HR0.out x5_1 p572 q572
        have hw572_5:=hx572_5
        have hw572_4:=hx572_4
        have hw572_3:=hx572_3
        have hw572_2:=hx572_2
        have hw572_1:=hx572_1
        have hw572_0:=hx572_0
        cases e572
        replace hx572_0:=(HB.out.cell (World.block_lt_of_cell? w _ hx572_0)).trans hx572_0
        replace hx572_1:=(HB.out.cell (World.block_lt_of_cell? w _ hx572_1)).trans hx572_1
        replace hx572_2:=(HB.out.cell (World.block_lt_of_cell? w _ hx572_2)).trans hx572_2
        replace hx572_3:=(HB.out.cell (World.block_lt_of_cell? w _ hx572_3)).trans hx572_3
        replace hx572_4:=(HB.out.cell (World.block_lt_of_cell? w _ hx572_4)).trans hx572_4
        replace hx572_5:=(HB.out.cell (World.block_lt_of_cell? w _ hx572_5)).trans hx572_5
        replace p572:=eq_true p572
        replace q572:=eq_true q572
        have p573:0≤(x5_1:Int):=of_decide_eq_true (by (with_reducible assumption))
        have q573:x5_1<(l1.length:Int):=of_decide_eq_true (by (with_reducible assumption))
        obtain ⟨ad573,e573,hx573_0,hx573_1,hx573_2,hx573_3,hx573_4,hx573_5⟩:=at_T42 HR1.out x5_1 p573 q573
        have hw573_5:=hx573_5
        have hw573_4:=hx573_4
        have hw573_3:=hx573_3
        have hw573_2:=hx573_2
        have hw573_1:=hx573_1
        have hw573_0:=hx573_0
        cases e573
        replace hx573_0:=(HB.out.cell (World.block_lt_of_cell? w _ hx573_0)).trans hx573_0
        replace hx573_1:=(HB.out.cell (World.block_lt_of_cell? w _ hx573_1)).trans hx573_1
        replace hx573_2:=(HB.out.cell (World.block_lt_of_cell? w _ hx573_2)).trans hx573_2
        replace hx573_3:=(HB.out.cell (World.block_lt_of_cell? w _ hx573_3)).trans hx573_3
        replace hx573_4:=(HB.out.cell (World.block_lt_of_cell? w _ hx573_4)).trans hx573_4
        replace hx573_5:=(HB.out.cell (World.block_lt_of_cell? w _ hx573_5)).trans hx573_5
        replace p573:=eq_true p573
        replace q573:=eq_true q573
        refine start_ (n:=10) (S:=fun w'=>w'.cell? (ad572.add ((x5_1).toNat * 6))=some (.string ((rd_T42 l0 x5_1).f0))∧w'.cell? ⟨(ad572.add ((x5_1).toNat * 6)).block,(ad572.add ((x5_1).toNat * 6)).off+1,none⟩=some (.string ((rd_T42 l0 x5_1).f1))∧w'.cell? ⟨(ad572.add ((x5_1).toNat * 6)).block,(ad572.add ((x5_1).toNat * 6)).off+2,none⟩=some (.int .i64 ((rd_T42 l0 x5_1).f2))∧w'.cell? ⟨(ad572.add ((x5_1).toNat * 6)).block,(ad572.add ((x5_1).toNat * 6)).off+3,none⟩=some (.int .i64 ((rd_T42 l0 x5_1).f3))∧w'.cell? ⟨(ad572.add ((x5_1).toNat * 6)).block,(ad572.add ((x5_1).toNat * 6)).off+4,none⟩=some (.int .i64 ((rd_T42 l0 x5_1).f4))∧w'.cell? ⟨(ad572.add ((x5_1).toNat * 6)).block,(ad572.add ((x5_1).toNat * 6)).off+5,none⟩=some (.bool ((rd_T42 l0 x5_1).f5))∧w'.cell? (ad573.add ((x5_1).toNat * 6))=some (.string ((rd_T42 l1 x5_1).f0))∧w'.cell? ⟨(ad573.add ((x5_1).toNat * 6)).block,(ad573.add ((x5_1).toNat * 6)).off+1,none⟩=some (.string ((rd_T42 l1 x5_1).f1))∧w'.cell? ⟨(ad573.add ((x5_1).toNat * 6)).block,(ad573.add ((x5_1).toNat * 6)).off+2,none⟩=some (.int .i64 ((rd_T42 l1 x5_1).f2))∧w'.cell? ⟨(ad573.add ((x5_1).toNat * 6)).block,(ad573.add ((x5_1).toNat * 6)).off+3,none⟩=some (.int .i64 ((rd_T42 l1 x5_1).f3))∧w'.cell? ⟨(ad573.add ((x5_1).toNat * 6)).block,(ad573.add ((x5_1).toNat * 6)).off+4,none⟩=some (.int .i64 ((rd_T42 l1 x5_1).f4))∧w'.cell? ⟨(ad573.add ((x5_1).toNat * 6)).block,(ad573.add ((x5_1).toNat * 6)).off+5,none⟩=some (.bool ((rd_T42 l1 x5_1).f5))) (ds:=[]) #[φ,φ,φ,φ,φ,φ,φ,φ,φ,φ] (by kernel_rfl) rfl rfl ⟨((HB.out.cell (World.block_lt_of_cell? w _ hw572_0)).trans hw572_0),((HB.out.cell (World.block_lt_of_cell? w _ hw572_1)).trans hw572_1),((HB.out.cell (World.block_lt_of_cell? w _ hw572_2)).trans hw572_2),((HB.out.cell (World.block_lt_of_cell? w _ hw572_3)).trans hw572_3),((HB.out.cell (World.block_lt_of_cell? w _ hw572_4)).trans hw572_4),((HB.out.cell (World.block_lt_of_cell? w _ hw572_5)).trans hw572_5),((HB.out.cell (World.block_lt_of_cell? w _ hw573_0)).trans hw573_0),((HB.out.cell (World.block_lt_of_cell? w _ hw573_1)).trans hw573_1),((HB.out.cell (World.block_lt_of_cell? w _ hw573_2)).trans hw573_2),((HB.out.cell (World.block_lt_of_cell? w _ hw573_3)).trans hw573_3),((HB.out.cell (World.block_lt_of_cell? w _ hw573_4)).trans hw573_4),((HB.out.cell (World.block_lt_of_cell? w _ hw573_5)).trans hw573_5)⟩ (fun hHeld => ?_);refine with_tabW laws_eqOrderS.tab6 laws_eqOrderS.bits6 (fun HT_ HW_ => ?_)
        generalize wr.drew=w9 at HB hx572_0 hx572_1 hx572_2 hx572_3 hx572_4 hx572_5 hx573_0 hx573_1 hx573_2 hx573_3 hx573_4 hx573_5 hHeld ⊢
        refine ζk (i:=0) (N:=some 17) (v:=?_) (a':=?_) #[τ,φ,φ,φ,φ,φ,φ,φ,φ,φ] rfl rfl (ζj HT_.out (by kernel_rfl)) (fun _ _ _ h=>h) (Or.inl ⟨by rfl,?_⟩) ?_ ?_
        rotate_left
        · intro w';go_simp;with_reducible rfl
        rotate_left
        · simp only [ζl,δa,δb,δc,i64_w,i32_w];rfl
        refine ζk (i:=1) (N:=some 18) (v:=?_) (a':=?_) #[τ,τ,φ,φ,φ,φ,φ,φ,φ,φ] rfl rfl (ζj HT_.out (by kernel_rfl)) (fun _ _ _ h=>h) (Or.inl ⟨by rfl,?_⟩) ?_ ?_
        rotate_left
        · intro w';go_simp;with_reducible rfl
        rotate_left
        · simp only [ζl,δa,δb,δc,i64_w,i32_w];rfl
        refine ζk (i:=2) (N:=some 19) (v:=?_) (a':=?_) #[τ,τ,τ,φ,φ,φ,φ,φ,φ,φ] rfl rfl (ζj HT_.out (by kernel_rfl)) (fun _ _ _ h=>h) (Or.inl ⟨by rfl,?_⟩) ?_ ?_
        rotate_left
        · intro w';go_simp;with_reducible rfl
        rotate_left
        · simp only [ζl,δa,δb,δc,i64_w,i32_w];rfl
        refine ζk (i:=4) (N:=some 21) (v:=?_) (a':=?_) #[τ,τ,τ,φ,τ,φ,φ,φ,φ,φ] rfl rfl (ζj HT_.out (by kernel_rfl)) (fun _ _ _ h=>h) (Or.inl ⟨by rfl,?_⟩) ?_ ?_
        rotate_left
        · intro w';go_simp;with_reducible rfl
        rotate_left
        · simp only [ζl,δa,δb,δc,i64_w,i32_w];rfl
        refine ζk (i:=5) (N:=some 22) (v:=?_) (a':=?_) #[τ,τ,τ,φ,τ,τ,φ,φ,φ,φ] rfl rfl (ζj HT_.out (by kernel_rfl)) (fun _ _ _ h=>h) (Or.inl ⟨by rfl,?_⟩) ?_ ?_
        rotate_left
        · intro w';go_simp;with_reducible rfl
        rotate_left
        · simp only [ζl,δa,δb,δc,i64_w,i32_w];rfl
        refine ζk (i:=6) (N:=some 23) (v:=?_) (a':=?_) #[τ,τ,τ,φ,τ,τ,τ,φ,φ,φ] rfl rfl (ζj HT_.out (by kernel_rfl)) (fun _ _ _ h=>h) (Or.inl ⟨by rfl,?_⟩) ?_ ?_
        rotate_left
        · intro w';go_simp;with_reducible rfl
        rotate_left
        · simp only [ζl,δa,δb,δc,i64_w,i32_w];rfl
        refine take_ (i:=3) (N:=some 20) (v:=?_) (a':=?_) #[τ,τ,τ,τ,τ,τ,τ,φ,φ,φ] rfl rfl (take_ofW HT_.out HW_.out (by kernel_rfl)) (fun _ _ _ h=>h) (Or.inl ⟨by rfl,?_⟩) hHeld ?_ ?_
        rotate_left
        · rintro w' ⟨s0,s1,s2,s3,s4,s5,s6,s7,s8,s9,s10,s11⟩;go_simp;with_reducible rfl
        rotate_left
        · simp only [ζl,δa,δb,δc,i64_w,i32_w];rfl
        refine take_ (i:=7) (N:=some 24) (v:=?_) (a':=?_) #[τ,τ,τ,τ,τ,τ,τ,τ,φ,φ] rfl rfl (take_ofW HT_.out HW_.out (by kernel_rfl)) (fun _ _ _ h=>h) (Or.inl ⟨by rfl,?_⟩) hHeld ?_ ?_
        rotate_left
        · rintro w' ⟨s0,s1,s2,s3,s4,s5,s6,s7,s8,s9,s10,s11⟩;go_simp;with_reducible rfl
        rotate_left
        · simp only [ζl,δa,δb,δc,i64_w,i32_w];rfl
        refine one_ (i:=8) (N:=some 25) #[τ,τ,τ,τ,τ,τ,τ,τ,τ,φ] rfl rfl (one_of HT_.out (by kernel_rfl)) (by decide) (fun K hK => ?_)
        refine goes_ Tryd.func25 (by kernel_rfl) rfl #[.agg #[.string ((rd_T42 l0 x5_1).f0),.string ((rd_T42 l0 x5_1).f1),.int .i64 ((rd_T42 l0 x5_1).f2),.int .i64 ((rd_T42 l0 x5_1).f3),.int .i64 ((rd_T42 l0 x5_1).f4),.bool ((rd_T42 l0 x5_1).f5)],.agg #[.string ((rd_T42 l1 x5_1).f0),.string ((rd_T42 l1 x5_1).f1),.int .i64 ((rd_T42 l1 x5_1).f2),.int .i64 ((rd_T42 l1 x5_1).f3),.int .i64 ((rd_T42 l1 x5_1).f4),.bool ((rd_T42 l1 x5_1).f5)]] (by rfl) rfl rfl (by (try simp only [δd,δe,δf]);rfl) ?_
        with_reducible refine (laws_eqOrder.calls ((rd_T42 l0 x5_1).f0) ((rd_T42 l0 x5_1).f1) ((rd_T42 l0 x5_1).f2) ((rd_T42 l0 x5_1).f3) ((rd_T42 l0 x5_1).f4) ((rd_T42 l0 x5_1).f5) ((rd_T42 l1 x5_1).f0) ((rd_T42 l1 x5_1).f1) ((rd_T42 l1 x5_1).f2) ((rd_T42 l1 x5_1).f3) ((rd_T42 l1 x5_1).f4) ((rd_T42 l1 x5_1).f5) τ _ A7.out).mono ?_
        rintro e w10 ⟨rfl,hb⟩
        refine ⟨_,rfl,?_⟩
        have n0_:=ζa (δr (by exact HB.out) hb)
        clear HB
        have HB:=n0_
        clear n0_
        (try clear hb)
        (try clear hb2)
        (try clear hk)
        (try clear hi)
        refine hK.out _ _ ⟨((HB.out.cell (World.block_lt_of_cell? w _ hw572_0)).trans hw572_0),((HB.out.cell (World.block_lt_of_cell? w _ hw572_1)).trans hw572_1),((HB.out.cell (World.block_lt_of_cell? w _ hw572_2)).trans hw572_2),((HB.out.cell (World.block_lt_of_cell? w _ hw572_3)).trans hw572_3),((HB.out.cell (World.block_lt_of_cell? w _ hw572_4)).trans hw572_4),((HB.out.cell (World.block_lt_of_cell? w _ hw572_5)).trans hw572_5),((HB.out.cell (World.block_lt_of_cell? w _ hw573_0)).trans hw573_0),((HB.out.cell (World.block_lt_of_cell? w _ hw573_1)).trans hw573_1),((HB.out.cell (World.block_lt_of_cell? w _ hw573_2)).trans hw573_2),((HB.out.cell (World.block_lt_of_cell? w _ hw573_3)).trans hw573_3),((HB.out.cell (World.block_lt_of_cell? w _ hw573_4)).trans hw573_4),((HB.out.cell (World.block_lt_of_cell? w _ hw573_5)).trans hw573_5)⟩ (fun hHeld => ?_)
        clear hK K
        refine norm_ (a':=?_) ?_ ?_
        rotate_left
        ·
         show ζl _ (some 25) _=_
         simp only [ζl,δa,δb,δc,i64_w,i32_w];rfl
        refine ζk (i:=9) (N:=some 26) (v:=?_) (a':=?_) #[τ,τ,τ,τ,τ,τ,τ,τ,τ,τ] rfl rfl (ζj HT_.out (by kernel_rfl)) (fun _ _ _ h=>h) (Or.inl ⟨by rfl,?_⟩) ?_ ?_
        rotate_left
        · intro w';go_simp;with_reducible rfl
        rotate_left
        · simp only [ζl,δa,δb,δc,i64_w,i32_w];rfl
        refine done_ (done_of HT_.out (by kernel_rfl)) ?_
        try go_wp2
        go_roundg k1
        case measure=>have:=HK1.out;omega
        case rel=>exact ⟨(ζm (x5_1+1)),(by rfl),H',⟨by have:=HK1.out;omega⟩,⟨by repeat ((with_reducible exact HB.out))⟩⟩
       ·
        replace c8:=Bool.eq_false_iff.mpr c8
        subst c8
        have H1:(some φ)=some r:=by rw [if_neg (show ¬ (φ=τ) by decide)] at H;exact H
        clear H
        have H:=H1
        clear H1
        obtain rfl:=Option.some.inj H
        try go_wp2
        have n0_:=ζa (δj HB.out)
        clear HB
        have HB:=n0_
        clear n0_
        have p572:0≤(x5_1:Int):=of_decide_eq_true (by (with_reducible assumption))
        have q572:x5_1<(l0.length:Int):=of_decide_eq_true (by (with_reducible assumption))
        obtain ⟨ad572,e572,hx572_0,hx572_1,hx572_2,hx572_3,hx572_4,hx572_5⟩:=at_T42 HR0.out x5_1 p572 q572
        have hw572_5:=hx572_5
        have hw572_4:=hx572_4
        have hw572_3:=hx572_3
        have hw572_2:=hx572_2
        have hw572_1:=hx572_1
        have hw572_0:=hx572_0
        cases e572
        replace hx572_0:=(HB.out.cell (World.block_lt_of_cell? w _ hx572_0)).trans hx572_0
        replace hx572_1:=(HB.out.cell (World.block_lt_of_cell? w _ hx572_1)).trans hx572_1
        replace hx572_2:=(HB.out.cell (World.block_lt_of_cell? w _ hx572_2)).trans hx572_2
        replace hx572_3:=(HB.out.cell (World.block_lt_of_cell? w _ hx572_3)).trans hx572_3
        replace hx572_4:=(HB.out.cell (World.block_lt_of_cell? w _ hx572_4)).trans hx572_4
        replace hx572_5:=(HB.out.cell (World.block_lt_of_cell? w _ hx572_5)).trans hx572_5
        replace p572:=eq_true p572
        replace q572:=eq_true q572
        have p573:0≤(x5_1:Int):=of_decide_eq_true (by (with_reducible assumption))
        have q573:x5_1<(l1.length:Int):=of_decide_eq_true (by (with_reducible assumption))
        obtain ⟨ad573,e573,hx573_0,hx573_1,hx573_2,hx573_3,hx573_4,hx573_5⟩:=at_T42 HR1.out x5_1 p573 q573
        have hw573_5:=hx573_5
        have hw573_4:=hx573_4
        have hw573_3:=hx573_3
        have hw573_2:=hx573_2
        have hw573_1:=hx573_1
        have hw573_0:=hx573_0
        cases e573
        replace hx573_0:=(HB.out.cell (World.block_lt_of_cell? w _ hx573_0)).trans hx573_0
        replace hx573_1:=(HB.out.cell (World.block_lt_of_cell? w _ hx573_1)).trans hx573_1
        replace hx573_2:=(HB.out.cell (World.block_lt_of_cell? w _ hx573_2)).trans hx573_2
        replace hx573_3:=(HB.out.cell (World.block_lt_of_cell? w _ hx573_3)).trans hx573_3
        replace hx573_4:=(HB.out.cell (World.block_lt_of_cell? w _ hx573_4)).trans hx573_4
        replace hx573_5:=(HB.out.cell (World.block_lt_of_cell? w _ hx573_5)).trans hx573_5
        replace p573:=eq_true p573
        replace q573:=eq_true q573
        refine start_ (n:=10) (S:=fun w'=>w'.cell? (ad572.add ((x5_1).toNat * 6))=some (.string ((rd_T42 l0 x5_1).f0))∧w'.cell? ⟨(ad572.add ((x5_1).toNat * 6)).block,(ad572.add ((x5_1).toNat * 6)).off+1,none⟩=some (.string ((rd_T42 l0 x5_1).f1))∧w'.cell? ⟨(ad572.add ((x5_1).toNat * 6)).block,(ad572.add ((x5_1).toNat * 6)).off+2,none⟩=some (.int .i64 ((rd_T42 l0 x5_1).f2))∧w'.cell? ⟨(ad572.add ((x5_1).toNat * 6)).block,(ad572.add ((x5_1).toNat * 6)).off+3,none⟩=some (.int .i64 ((rd_T42 l0 x5_1).f3))∧w'.cell? ⟨(ad572.add ((x5_1).toNat * 6)).block,(ad572.add ((x5_1).toNat * 6)).off+4,none⟩=some (.int .i64 ((rd_T42 l0 x5_1).f4))∧w'.cell? ⟨(ad572.add ((x5_1).toNat * 6)).block,(ad572.add ((x5_1).toNat * 6)).off+5,none⟩=some (.bool ((rd_T42 l0 x5_1).f5))∧w'.cell? (ad573.add ((x5_1).toNat * 6))=some (.string ((rd_T42 l1 x5_1).f0))∧w'.cell? ⟨(ad573.add ((x5_1).toNat * 6)).block,(ad573.add ((x5_1).toNat * 6)).off+1,none⟩=some (.string ((rd_T42 l1 x5_1).f1))∧w'.cell? ⟨(ad573.add ((x5_1).toNat * 6)).block,(ad573.add ((x5_1).toNat * 6)).off+2,none⟩=some (.int .i64 ((rd_T42 l1 x5_1).f2))∧w'.cell? ⟨(ad573.add ((x5_1).toNat * 6)).block,(ad573.add ((x5_1).toNat * 6)).off+3,none⟩=some (.int .i64 ((rd_T42 l1 x5_1).f3))∧w'.cell? ⟨(ad573.add ((x5_1).toNat * 6)).block,(ad573.add ((x5_1).toNat * 6)).off+4,none⟩=some (.int .i64 ((rd_T42 l1 x5_1).f4))∧w'.cell? ⟨(ad573.add ((x5_1).toNat * 6)).block,(ad573.add ((x5_1).toNat * 6)).off+5,none⟩=some (.bool ((rd_T42 l1 x5_1).f5))) (ds:=[]) #[φ,φ,φ,φ,φ,φ,φ,φ,φ,φ] (by kernel_rfl) rfl rfl ⟨((HB.out.cell (World.block_lt_of_cell? w _ hw572_0)).trans hw572_0),((HB.out.cell (World.block_lt_of_cell? w _ hw572_1)).trans hw572_1),((HB.out.cell (World.block_lt_of_cell? w _ hw572_2)).trans hw572_2),((HB.out.cell (World.block_lt_of_cell? w _ hw572_3)).trans hw572_3),((HB.out.cell (World.block_lt_of_cell? w _ hw572_4)).trans hw572_4),((HB.out.cell (World.block_lt_of_cell? w _ hw572_5)).trans hw572_5),((HB.out.cell (World.block_lt_of_cell? w _ hw573_0)).trans hw573_0),((HB.out.cell (World.block_lt_of_cell? w _ hw573_1)).trans hw573_1),((HB.out.cell (World.block_lt_of_cell? w _ hw573_2)).trans hw573_2),((HB.out.cell (World.block_lt_of_cell? w _ hw573_3)).trans hw573_3),((HB.out.cell (World.block_lt_of_cell? w _ hw573_4)).trans hw573_4),((HB.out.cell (World.block_lt_of_cell? w _ hw573_5)).trans hw573_5)⟩ (fun hHeld => ?_);refine with_tabW laws_eqOrderS.tab6 laws_eqOrderS.bits6 (fun HT_ HW_ => ?_)
        generalize wr.drew=w11 at HB hx572_0 hx572_1 hx572_2 hx572_3 hx572_4 hx572_5 hx573_0 hx573_1 hx573_2 hx573_3 hx573_4 hx573_5 hHeld ⊢
        refine ζk (i:=0) (N:=some 17) (v:=?_) (a':=?_) #[τ,φ,φ,φ,φ,φ,φ,φ,φ,φ] rfl rfl (ζj HT_.out (by kernel_rfl)) (fun _ _ _ h=>h) (Or.inl ⟨by rfl,?_⟩) ?_ ?_
        rotate_left
        · intro w';go_simp;with_reducible rfl
        rotate_left
        · simp only [ζl,δa,δb,δc,i64_w,i32_w];rfl
        refine ζk (i:=1) (N:=some 18) (v:=?_) (a':=?_) #[τ,τ,φ,φ,φ,φ,φ,φ,φ,φ] rfl rfl (ζj HT_.out (by kernel_rfl)) (fun _ _ _ h=>h) (Or.inl ⟨by rfl,?_⟩) ?_ ?_
        rotate_left
        · intro w';go_simp;with_reducible rfl
        rotate_left
        · simp only [ζl,δa,δb,δc,i64_w,i32_w];rfl
        refine ζk (i:=2) (N:=some 19) (v:=?_) (a':=?_) #[τ,τ,τ,φ,φ,φ,φ,φ,φ,φ] rfl rfl (ζj HT_.out (by kernel_rfl)) (fun _ _ _ h=>h) (Or.inl ⟨by rfl,?_⟩) ?_ ?_
        rotate_left
        · intro w';go_simp;with_reducible rfl
        rotate_left
        · simp only [ζl,δa,δb,δc,i64_w,i32_w];rfl
        refine ζk (i:=4) (N:=some 21) (v:=?_) (a':=?_) #[τ,τ,τ,φ,τ,φ,φ,φ,φ,φ] rfl rfl (ζj HT_.out (by kernel_rfl)) (fun _ _ _ h=>h) (Or.inl ⟨by rfl,?_⟩) ?_ ?_
        rotate_left
        · intro w';go_simp;with_reducible rfl
        rotate_left
        · simp only [ζl,δa,δb,δc,i64_w,i32_w];rfl
        refine ζk (i:=5) (N:=some 22) (v:=?_) (a':=?_) #[τ,τ,τ,φ,τ,τ,φ,φ,φ,φ] rfl rfl (ζj HT_.out (by kernel_rfl)) (fun _ _ _ h=>h) (Or.inl ⟨by rfl,?_⟩) ?_ ?_
        rotate_left
        · intro w';go_simp;with_reducible rfl
        rotate_left
        · simp only [ζl,δa,δb,δc,i64_w,i32_w];rfl
        refine ζk (i:=6) (N:=some 23) (v:=?_) (a':=?_) #[τ,τ,τ,φ,τ,τ,τ,φ,φ,φ] rfl rfl (ζj HT_.out (by kernel_rfl)) (fun _ _ _ h=>h) (Or.inl ⟨by rfl,?_⟩) ?_ ?_
        rotate_left
        · intro w';go_simp;with_reducible rfl
        rotate_left
        · simp only [ζl,δa,δb,δc,i64_w,i32_w];rfl
        refine take_ (i:=3) (N:=some 20) (v:=?_) (a':=?_) #[τ,τ,τ,τ,τ,τ,τ,φ,φ,φ] rfl rfl (take_ofW HT_.out HW_.out (by kernel_rfl)) (fun _ _ _ h=>h) (Or.inl ⟨by rfl,?_⟩) hHeld ?_ ?_
        rotate_left
        · rintro w' ⟨s0,s1,s2,s3,s4,s5,s6,s7,s8,s9,s10,s11⟩;go_simp;with_reducible rfl
        rotate_left
        · simp only [ζl,δa,δb,δc,i64_w,i32_w];rfl
        refine take_ (i:=7) (N:=some 24) (v:=?_) (a':=?_) #[τ,τ,τ,τ,τ,τ,τ,τ,φ,φ] rfl rfl (take_ofW HT_.out HW_.out (by kernel_rfl)) (fun _ _ _ h=>h) (Or.inl ⟨by rfl,?_⟩) hHeld ?_ ?_
        rotate_left
        · rintro w' ⟨s0,s1,s2,s3,s4,s5,s6,s7,s8,s9,s10,s11⟩;go_simp;with_reducible rfl
        rotate_left
        · simp only [ζl,δa,δb,δc,i64_w,i32_w];rfl
        refine one_ (i:=8) (N:=some 25) #[τ,τ,τ,τ,τ,τ,τ,τ,τ,φ] rfl rfl (one_of HT_.out (by kernel_rfl)) (by decide) (fun K hK => ?_)
        refine goes_ Tryd.func25 (by kernel_rfl) rfl #[.agg #[.string ((rd_T42 l0 x5_1).f0),.string ((rd_T42 l0 x5_1).f1),.int .i64 ((rd_T42 l0 x5_1).f2),.int .i64 ((rd_T42 l0 x5_1).f3),.int .i64 ((rd_T42 l0 x5_1).f4),.bool ((rd_T42 l0 x5_1).f5)],.agg #[.string ((rd_T42 l1 x5_1).f0),.string ((rd_T42 l1 x5_1).f1),.int .i64 ((rd_T42 l1 x5_1).f2),.int .i64 ((rd_T42 l1 x5_1).f3),.int .i64 ((rd_T42 l1 x5_1).f4),.bool ((rd_T42 l1 x5_1).f5)]] (by rfl) rfl rfl (by (try simp only [δd,δe,δf]);rfl) ?_
        with_reducible refine (laws_eqOrder.calls ((rd_T42 l0 x5_1).f0) ((rd_T42 l0 x5_1).f1) ((rd_T42 l0 x5_1).f2) ((rd_T42 l0 x5_1).f3) ((rd_T42 l0 x5_1).f4) ((rd_T42 l0 x5_1).f5) ((rd_T42 l1 x5_1).f0) ((rd_T42 l1 x5_1).f1) ((rd_T42 l1 x5_1).f2) ((rd_T42 l1 x5_1).f3) ((rd_T42 l1 x5_1).f4) ((rd_T42 l1 x5_1).f5) φ _ A7.out).mono ?_
        rintro e w12 ⟨rfl,hb⟩
        refine ⟨_,rfl,?_⟩
        have n0_:=ζa (δr (by exact HB.out) hb)
        clear HB
        have HB:=n0_
        clear n0_
        (try clear hb)
        (try clear hb2)
        (try clear hk)
        (try clear hi)
        refine hK.out _ _ ⟨((HB.out.cell (World.block_lt_of_cell? w _ hw572_0)).trans hw572_0),((HB.out.cell (World.block_lt_of_cell? w _ hw572_1)).trans hw572_1),((HB.out.cell (World.block_lt_of_cell? w _ hw572_2)).trans hw572_2),((HB.out.cell (World.block_lt_of_cell? w _ hw572_3)).trans hw572_3),((HB.out.cell (World.block_lt_of_cell? w _ hw572_4)).trans hw572_4),((HB.out.cell (World.block_lt_of_cell? w _ hw572_5)).trans hw572_5),((HB.out.cell (World.block_lt_of_cell? w _ hw573_0)).trans hw573_0),((HB.out.cell (World.block_lt_of_cell? w _ hw573_1)).trans hw573_1),((HB.out.cell (World.block_lt_of_cell? w _ hw573_2)).trans hw573_2),((HB.out.cell (World.block_lt_of_cell? w _ hw573_3)).trans hw573_3),((HB.out.cell (World.block_lt_of_cell? w _ hw573_4)).trans hw573_4),((HB.out.cell (World.block_lt_of_cell? w _ hw573_5)).trans hw573_5)⟩ (fun hHeld => ?_)
        clear hK K
        refine norm_ (a':=?_) ?_ ?_
        rotate_left
        ·
         show ζl _ (some 25) _=_
         simp only [ζl,δa,δb,δc,i64_w,i32_w];rfl
        refine ζk (i:=9) (N:=some 26) (v:=?_) (a':=?_) #[τ,τ,τ,τ,τ,τ,τ,τ,τ,τ] rfl rfl (ζj HT_.out (by kernel_rfl)) (fun _ _ _ h=>h) (Or.inl ⟨by rfl,?_⟩) ?_ ?_
        rotate_left
        · intro w';go_simp;with_reducible rfl
        rotate_left
        · simp only [ζl,δa,δb,δc,i64_w,i32_w];rfl
        refine done_ (done_of HT_.out (by kernel_rfl)) ?_
        try go_wp2
        go_ret
        exact ⟨by rfl,by repeat ((with_reducible exact HB.out))⟩
      ·
       rw [if_neg c6] at H
       exact absurd H (by simp)
     ·
      rw [if_neg c5] at H
      exact absurd H (by simp)
    ·
     rw [if_neg c4] at H
     have c4b0:decide (x5_1<(l0.length:Int))=φ:=decide_eq_false c4
     clear c4
     obtain rfl:=Option.some.inj H
     go_wp2
     go_ret
     exact ⟨by rfl,by repeat ((with_reducible exact HB.out))⟩
 ·
  rw [if_neg c3] at H
  have c3b0:((l0.length:Int) == (l1.length:Int))=φ:=beq_eq_false_iff_ne.mpr c3
  have c3b1:((l0.length:Int) != (l1.length:Int))=τ:=bne_iff_ne.mpr c3
  have c3b2:(l0.length == l1.length)=φ:=by (simp at c3 ⊢;omega)
  obtain rfl:=Option.some.inj H
  go_enter Tryd.func28,Tryd.ntmps28
  go_wp2
  go_ret
  exact ⟨by rfl,by repeat ((with_reducible exact HB.out))⟩


open Go.Proofs.YteghpdmlpefnfaaDoorW.PrintWords renaming below_alloc → δk, pw_below_drewN → δi, below_drew1 → δj, gate_dst → δx, below_size → δs, below_step → δr

/-! ### laws_markText: function 60 -/
def laws_markText.l0:Nat→Int→ByteArray→Option (ByteArray)
 | 0,_,_=>none
 | k+1,x0,x3=>if x0 > 0 then ((some (([(ζm (48+(Int.tmod x0 10))) % 256]:List Int):List Int)).bind fun y575=>(if (strOfNums y575).size+x3.size≤9223372036854775807 then (laws_markText.l0 k (ζm (Int.tdiv x0 10)) ((strOfNums y575) ++ x3)) else (none))) else (if 1+x3.size≤9223372036854775807 then (some ((⟨#[109]⟩:ByteArray) ++ x3)) else (none))
def laws_markText.f (k:Nat) (a0:Int):Option (ByteArray):=if a0≤0 then (some (⟨#[109,48]⟩:ByteArray)) else (laws_markText.l0 k a0 (⟨#[]⟩:ByteArray))
set_option maxHeartbeats 8000000 in
set_option maxRecDepth 100000 in
theorem laws_markText.calls (k:Nat) (a0:Int) (r:ByteArray) (w:World) (h:laws_markText.f k a0=some r) :
  Calls Tryd.prog 60 #[.int .i64 a0] w fun e w'=>e = .returned (.string r)∧Below w.heap.size w w':=by
 have HB:=ζa (Below.refl w.heap.size w)
 have H:(if a0≤0 then (some (⟨#[109,48]⟩:ByteArray)) else (laws_markText.l0 k a0 (⟨#[]⟩:ByteArray)))=some r:=h
 clear h
 by_cases c2:a0≤0
 ·
  rw [if_pos c2] at H
  have c2b0:decide (a0≤0)=τ:=decide_eq_true c2
  clear c2
  obtain rfl:=Option.some.inj H
  go_enter Tryd.func60,Tryd.ntmps60
  go_wp2
  go_ret
  exact ⟨by first|rfl|(simp [errW_none,errW_some] <;> rfl)|(simp [*,errW_none,errW_some] <;> rfl),by repeat (first|(with_reducible first|exact HB.out|apply δk|apply δi|apply δj)|exact HB.out)⟩
 ·
  rw [if_neg c2] at H
  have c2b0:decide (a0≤0)=φ:=decide_eq_false c2
  clear c2
  have H':=ζa H
  clear H
  go_enter Tryd.func60,Tryd.ntmps60
  go_wp2
  go_loopg [0,3] k (fun kq v0 v3 w' => ∃ (x0_1:Int) (x3_1:ByteArray),v0 = .int .i64 x0_1∧v3 = .string x3_1∧Aside0 (laws_markText.l0 kq x0_1 x3_1=some r)∧Aside0 (kq≤k)∧Aside0 (Below w.heap.size w w'))
  case atStart=>exact ⟨(a0),((⟨#[]⟩:ByteArray)),(by first|rfl|(simp;done)|(simp [*];done)),(by first|rfl|(simp;done)|(simp [*];done)),H',⟨Nat.le_refl _⟩,⟨by repeat (first|(with_reducible first|exact HB.out|apply δk|apply δi|apply δj)|exact HB.out)⟩⟩
  case round =>
   clear H'
   try clear c2
   try clear c2b0
   try clear p2
   obtain ⟨x0_1,x3_1,rfl,rfl,HA,HK1,HB⟩:=hrel
   cases gk with
   | zero=>exact absurd HA.out (by simp [laws_markText.l0])
   | succ k1 =>
    have H:=HA.out
    clear HA
    simp only [laws_markText.l0] at H
    by_cases c3:x0_1 > 0
    ·
     rw [if_pos c3] at H
     have c3b0:decide (0<x0_1)=τ:=decide_eq_true c3
     clear c3
     obtain ⟨y575,hy575⟩ : ∃ y_:List Int,y_=(([(ζm (48+(Int.tmod x0_1 10))) % 256]:List Int)):=⟨_,rfl⟩
     replace H:(if (strOfNums y575).size+x3_1.size≤9223372036854775807 then (laws_markText.l0 k1 (ζm (Int.tdiv x0_1 10)) ((strOfNums y575) ++ x3_1)) else (none))=some r:=by first|(rw [hy575];with_reducible exact H)|(have H2_:=(Option.bind_some _ _).symm.trans H;rw [hy575];with_reducible exact H2_)|(have H2_:=(Option.bind_some _ _).symm.trans H;with_reducible exact H2_)|with_reducible exact H|(rw [hy575];exact H)|exact H
     have Ny575:=ζa hy575
     clear hy575
     by_cases c4:(strOfNums y575).size+x3_1.size≤9223372036854775807
     ·
      rw [if_pos c4] at H
      have c4b0:=eq_true c4
      have c4b1:decide ((strOfNums y575).size+x3_1.size≤9223372036854775807)=τ:=decide_eq_true c4
      try have c4b2:(9223372036854775807<(strOfNums y575).size+x3_1.size)=False:=eq_false (Nat.not_lt.2 c4)
      have H':=ζa H
      clear H
      go_wp2_with (first|((with_reducible refine δx (N:=12) rfl ?_);refine Kd.R_lit (Kd.int .u8) _ 5 ?hg (N:=12) ?hd (xs:=([(ζm (48+(Int.tmod x0_1 10))) % 256]:List Int)) (inner:=[.int .u8 ((ζm (48+(Int.tmod x0_1 10))) % 256)]) (ok:=fun _=>True) (okp:=fun _=>True) ?hr ?hp (fun _ hk=>hk) trivial (Below.refl _ _) (Nat.le_refl _) (by simp) ?_;(case hd=>rfl);(case hg=>rfl);(case hr=>first|(go_simp;done)|(go_simp;rfl));(case hp=>exact (Reps.one (show Kd.M (Kd.int .u8) _ _ _ ((ζm (48+(Int.tmod x0_1 10))) % 256) [.int .u8 ((ζm (48+(Int.tmod x0_1 10))) % 256)] from rfl) (Reps.none _ _)));intro v576 w5 ho6 hb hg_ hnew_;clear hg_ hnew_;(first|rw [← Ny575.out] at ho6|(simp only [Int.reduceToNat] at ho6;rw [← Ny575.out] at ho6));have n0_:=ζa (Kd.R_lower ho6 (δs (by repeat (first|(with_reducible first|exact HB.out|apply δk|apply δi|apply δj)|exact HB.out))));have n1_:=ζa (δr (by repeat (first|(with_reducible first|exact HB.out|apply δk|apply δi|apply δj)|exact HB.out)) hb);clear HB;have HO577:=n0_;have HB:=n1_;clear n0_ n1_;clear hb ho6;have hcv7:=own_string (P:=Tryd.prog) Tryd.underlying25 Tryd.underlying5 Tryd.underlying9 (Kd.own_of_R HO577.out)))
      go_roundg k1
      case measure=>have:=HK1.out;omega
      case rel=>exact ⟨(ζm (Int.tdiv x0_1 10)),((strOfNums y575) ++ x3_1),(by first|rfl|(simp;done)|(simp [*];done)),(by first|rfl|(simp;done)|(simp [*];done)),H',⟨by have:=HK1.out;omega⟩,⟨by repeat (first|(with_reducible first|exact HB.out|apply δk|apply δi|apply δj)|exact HB.out)⟩⟩
     ·
      rw [if_neg c4] at H
      exact absurd H (by simp)
    ·
     rw [if_neg c3] at H
     have c3b0:decide (0<x0_1)=φ:=decide_eq_false c3
     clear c3
     by_cases c8:1+x3_1.size≤9223372036854775807
     ·
      rw [if_pos c8] at H
      have c8b0:=eq_true c8
      have c8b1:decide (1+x3_1.size≤9223372036854775807)=τ:=decide_eq_true c8
      try have c8b2:(9223372036854775807<1+x3_1.size)=False:=eq_false (Nat.not_lt.2 c8)
      obtain rfl:=Option.some.inj H
      go_wp2
      go_ret
      exact ⟨by first|rfl|(simp [errW_none,errW_some] <;> rfl)|(simp [*,errW_none,errW_some] <;> rfl),by repeat (first|(with_reducible first|exact HB.out|apply δk|apply δi|apply δj)|exact HB.out)⟩
     ·
      rw [if_neg c8] at H
      exact absurd H (by simp)


open Go.Proofs.YteghpdmlpefnfaaDoorW.PrintWords renaming gate_callee → δv, below_step → δr, below_set → δq
open List renaming map_toArray → δd, map_cons → δe, map_nil → δf
open Go.Proofs.YteghpdmlpefnfaaDoorW.PrintWords.Kd renaming R_below → ζh

/-! ### laws_markPairS: function 29 -/
def laws_markPairS.l0:Nat→List (S71)→Int→Int→Option (Int × (List (S71)))
 | 0,_,_,_=>none
 | k+1,x0,x1,x5=>if x5<(x0.length:Int) then ((laws_markText.f k x1).bind fun t578=>(if 0≤x5 then ((some (x0.set (x5:Int).toNat (⟨t578,(rd_T71 x0 x5).f1⟩:S71):List (S71))).bind fun y579=>((laws_markText.f k (ζm (x1+1))).bind fun t580=>(laws_markPairS.l0 k (y579.set (x5:Int).toNat (⟨(rd_T71 y579 x5).f0,t580⟩:S71)) (ζm ((ζm (x1+1))+1)) (ζm (x5+1))))) else (none))) else (some (x1,x0))
def laws_markPairS.f (k:Nat) (l0:List (S71)) (a1:Int):Option (Int × (List (S71))):=laws_markPairS.l0 k l0 a1 0
set_option maxHeartbeats 8000000 in
set_option maxRecDepth 100000 in
theorem laws_markPairS.calls (k:Nat) (P0_:Nat→Prop) (u9000_:Value) (l0:List (S71)) (a1:Int) (r1:Int) (r2:List (S71)) (w0 w:World) (hB:Below w0.heap.size w0 w) (ho0:Kd.R k71 71 w w0.heap.size P0_ u9000_ l0) (h:laws_markPairS.f k l0 a1=some (r1,r2)) :
  Calls Tryd.prog 29 #[u9000_,.int .i64 a1] w fun e w'=>e = .returned (.int .i64 r1)∧Kd.R k71 71 w' w0.heap.size (fun k_=>(P0_ k_ ∨ w.heap.size≤k_)) u9000_ r2∧Below w0.heap.size w0 w'∧Kept w w' (fun k_=>P0_ k_):=by
 have HO0:=ζa (show Kd.R k71 71 w w0.heap.size (fun k_=>(P0_ k_ ∨ w.heap.size≤k_)) u9000_ l0 from Kd.R_mono ho0 (fun k_ hk=>(.inl hk)))
 have HK:=ζa (Kept.refl w (fun k_=>P0_ k_))
 have HW0:=ζa hB.size
 have HB:=ζa hB
 clear hB
 have H:(laws_markPairS.l0 k l0 a1 0)=some (r1,r2):=h
 clear h
 have H':=ζa H
 clear H
 go_enter Tryd.func29,Tryd.ntmps29
 go_wp2
 go_loopg [1,5] k (fun kq v1 v5 w' => ∃ (x0_1:List (S71)) (x1_1:Int) (x5_1:Int),v1 = .int .i64 x1_1∧v5 = .int .i64 x5_1∧Aside0 (laws_markPairS.l0 kq x0_1 x1_1 x5_1=some (r1,r2))∧Aside0 (kq≤k)∧Aside0 (Kd.R k71 71 w' w0.heap.size (fun k_=>(P0_ k_ ∨ w.heap.size≤k_)) u9000_ x0_1)∧Aside0 (Kept w w' (fun k_=>P0_ k_))∧Aside0 (Below w0.heap.size w0 w'))
 case atStart=>exact ⟨(l0),(a1),(0),(by rfl),(by rfl),H',⟨Nat.le_refl _⟩,⟨by exact HO0.out⟩,⟨by repeat ((with_reducible exact HK.out))⟩,⟨by repeat ((with_reducible exact HB.out))⟩⟩
 case round =>
  clear H'
  try clear c2
  try clear p2
  obtain ⟨x0_1,x1_1,x5_1,rfl,rfl,HA,HK1,HO_0,HK,HB⟩:=hrel
  cases gk with
  | zero=>exact absurd HA.out (by simp [laws_markPairS.l0])
  | succ k1 =>
   have H:=HA.out
   clear HA
   simp only [laws_markPairS.l0] at H
   by_cases c3:x5_1<(x0_1.length:Int)
   ·
    rw [if_pos c3] at H
    have c3b0:decide (x5_1<(x0_1.length:Int))=τ:=decide_eq_true c3
    clear c3
    replace H:=Option.bind_eq_some_iff.mp H
    obtain ⟨t578,A40,H⟩:=H
    replace H:(if 0≤x5_1 then ((some (x0_1.set (x5_1:Int).toNat (⟨t578,(rd_T71 x0_1 x5_1).f1⟩:S71):List (S71))).bind fun y579=>((laws_markText.f k1 (ζm (x1_1+1))).bind fun t580=>(laws_markPairS.l0 k1 (y579.set (x5_1:Int).toNat (⟨(rd_T71 y579 x5_1).f0,t580⟩:S71)) (ζm ((ζm (x1_1+1))+1)) (ζm (x5_1+1))))) else (none))=some (r1,r2):=H
    have A4:=ζa A40
    clear A40
    by_cases c5:0≤x5_1
    ·
     rw [if_pos c5] at H
     have c5b0:decide (0≤x5_1)=τ:=decide_eq_true c5
     clear c5
     obtain ⟨y579,hy579⟩ : ∃ y_:List (S71),y_=(x0_1.set (x5_1:Int).toNat (⟨t578,(rd_T71 x0_1 x5_1).f1⟩:S71)):=⟨_,rfl⟩
     replace H:((laws_markText.f k1 (ζm (x1_1+1))).bind fun t580=>(laws_markPairS.l0 k1 (y579.set (x5_1:Int).toNat (⟨(rd_T71 y579 x5_1).f0,t580⟩:S71)) (ζm ((ζm (x1_1+1))+1)) (ζm (x5_1+1))))=some (r1,r2):=by (have H2_:=(Option.bind_some _ _).symm.trans H;rw [hy579];with_reducible exact H2_)
     have Ny579:=ζa hy579
     clear hy579
     replace H:=Option.bind_eq_some_iff.mp H
     obtain ⟨t580,A70,H⟩:=H
     replace H:(laws_markPairS.l0 k1 (y579.set (x5_1:Int).toNat (⟨(rd_T71 y579 x5_1).f0,t580⟩:S71)) (ζm ((ζm (x1_1+1))+1)) (ζm (x5_1+1)))=some (r1,r2):=H
     have A7:=ζa A70
     clear A70
     obtain ⟨y581,hy581⟩ : ∃ y_:List (S71),y_=(y579.set (x5_1:Int).toNat (⟨(rd_T71 y579 x5_1).f0,t580⟩:S71)):=⟨_,rfl⟩
     replace H:(laws_markPairS.l0 k1 y581 (ζm ((ζm (x1_1+1))+1)) (ζm (x5_1+1)))=some (r1,r2):=by (rw [hy581];with_reducible exact H)
     have Ny581:=ζa hy581
     clear hy581
     have H':=ζa H
     clear H
     obtain ⟨Ao9,co9,eo9⟩:=Kd.R_slice HO_0.out
     subst eo9
     go_wp2_with (first|((with_reducible refine δv (f:=60) rfl ?_);refine goesL_ (some 15) rfl rfl Tryd.func60 (by kernel_rfl) rfl #[.int .i64 x1_1] rfl (by (try simp only [δd,δe,δf]);rfl) ?_;(with_reducible refine (laws_markText.calls k1 x1_1 t578 _ A4.out).mono ?_);rintro e w10 ⟨rfl,hb⟩;refine ⟨_,rfl,?_⟩;have n0_:=ζa (ζh (by exact HO_0.out) hb);have n1_:=ζa (Kept.below (S:=(fun k_=>P0_ k_)) (by exact HK.out) hb);have n2_:=ζa (δr (by exact HB.out) hb);clear HO_0;clear HK;clear HB;have HO_0:=n0_;have HK:=n1_;have HB:=n2_;clear n0_ n1_ n2_;(try clear hb);(try clear hb2);(try clear hk);(try clear hi);have p6:0≤(x5_1:Int):=of_decide_eq_true (by (with_reducible assumption));have q6:(x5_1:Int)<((x0_1.length:Int):Int):=of_decide_eq_true (by (with_reducible assumption));obtain ⟨go6,co6,eo6,gb6,gl6,cl6,HG6⟩:=Kd.R_form HO_0.out (by omega);(cases eo6);have GB6:=ζa gb6;have GG6:=ζa HG6;clear gb6 gl6 HG6;have HMgo6:=ζa (show (P0_ go6 ∨ w.heap.size≤go6) from (HO_0.out.1 _ rfl));obtain ⟨ce6,hcl6,hM6,hcc6,hfr6⟩:=Kd.R_elem HO_0.out z71 (x5_1:Int) p6 q6;obtain rfl:=k71_openM hM6;have hx6_0:w10.cell? ⟨go6,(x5_1:Int).toNat * 2,none⟩=some (.string ((rd_T71 x0_1 x5_1).f0)):=hcc6 0 _ rfl;have hx6_1:w10.cell? ⟨go6,(x5_1:Int).toNat * 2+1,none⟩=some (.string ((rd_T71 x0_1 x5_1).f1)):=hcc6 1 _ rfl;have hf6_0:w10.frozen? ⟨go6,(x5_1:Int).toNat * 2,none⟩=φ:=hfr6 0;have hf6_1:w10.frozen? ⟨go6,(x5_1:Int).toNat * 2+1,none⟩=φ:=hfr6 1;clear hcl6 hcc6 hfr6 hM6;replace p6:=eq_true p6;replace q6:=eq_true q6;have HX11:=ζa (show Kd.R k71 71 w10 w0.heap.size (fun k_=>(P0_ k_ ∨ w.heap.size≤k_)) (.slice (some ⟨go6,0,none⟩) x0_1.length co9) x0_1 from (by exact HO_0.out));obtain ⟨ce11,hcl11,hM11,hcc11,hfr11⟩:=Kd.R_elem HX11.out z71 (x5_1:Int) (of_decide_eq_true (by (with_reducible assumption))) (by have h_:(x5_1:Int)<((x0_1.length:Int):Int):=of_decide_eq_true (by (with_reducible assumption));exact h_);obtain rfl:=k71_openM hM11;have HP11:=Kd.R_seg HX11.out (x5_1:Int) (of_decide_eq_true (by (with_reducible assumption))) (by have h_:(x5_1:Int)<((x0_1.length:Int):Int):=of_decide_eq_true (by (with_reducible assumption));exact h_) (seg:=[.string t578]) (j:=0) hcl11 hcc11 (show 1≤2 from by decide) (x':=(⟨t578,(rd_T71 x0_1 x5_1).f1⟩:S71)) (k71_mkM _ _ _ (⟨t578,(rd_T71 x0_1 x5_1).f1⟩:S71) ) (fun _ hk=>hk);have hx11_0:=hcc11 0 _ rfl;(try simp only [show (k71).sz=2 from rfl,Nat.mul_one,Nat.add_zero] at hx11_0);have hf11_0:=hfr11 0;(try simp only [show (k71).sz=2 from rfl,Nat.mul_one,Nat.add_zero] at hf11_0);clear hcl11 hcc11 hfr11 hM11)|((with_reducible refine gate_store (t:=9) (p:=17) rfl ?_);refine store_event (t:=9) (p:=17) (v:=?vo_w12) (w1:=(w10.setCell ⟨go6,(x5_1:Int).toNat * 2,none⟩ (.string t578))) ?hg ?ho ?hn ?hr ?_;(case ho=>rfl);(case hg=>rfl);(case hn=>rfl);(case hr=>(go_simp;done));intro w12 hw;have hg:w10.grownBy w12 (some go6):=(by rw [hw];exact HP11.2);have hp_:Kd.R k71 71 w12 w0.heap.size (fun k_=>(P0_ k_ ∨ w.heap.size≤k_)) (.slice (some ⟨go6,0,none⟩) x0_1.length co9) y579:=(by rw [hw,Ny579.out];exact HP11.1);clear HP11;have n0_:=ζa (hp_);have n1_:=ζa ((by rw [hw];exact δq (HB.out) GB6.out:Below w0.heap.size w0 w12));have n2_:=ζa (Kept.of_grown (S:=(fun k_=>P0_ k_)) hg (by exact HK.out) (fun k_ e_=>(HO_0.out.1 k_ e_)));clear HO_0;clear HB;clear HK;have HO_0:=n0_;have HB:=n1_;have HK:=n2_;clear n0_ n1_ n2_;clear hg hw hp_)|((with_reducible refine δv (f:=60) rfl ?_);refine goesL_ (some 23) rfl rfl Tryd.func60 (by kernel_rfl) rfl #[.int .i64 (ζm (x1_1+1))] rfl (by (try simp only [δd,δe,δf]);rfl) ?_;(with_reducible refine (laws_markText.calls k1 (ζm (x1_1+1)) t580 _ A7.out).mono ?_);rintro e w13 ⟨rfl,hb⟩;refine ⟨_,rfl,?_⟩;have n0_:=ζa (ζh (by exact HO_0.out) hb);have n1_:=ζa (Kept.below (S:=(fun k_=>P0_ k_)) (by exact HK.out) hb);have n2_:=ζa (δr (by exact HB.out) hb);clear HO_0;clear HK;clear HB;have HO_0:=n0_;have HK:=n1_;have HB:=n2_;clear n0_ n1_ n2_;(try clear hb);(try clear hb2);(try clear hk);(try clear hi);have p8:0≤(x5_1:Int):=of_decide_eq_true (by (with_reducible assumption));have q8:(x5_1:Int)<((x0_1.length:Int):Int):=of_decide_eq_true (by (with_reducible assumption));obtain ⟨ce8,hcl8,hM8,hcc8,hfr8⟩:=Kd.R_elem HO_0.out z71 (x5_1:Int) p8 q8;obtain rfl:=k71_openM hM8;have hx8_0:w13.cell? ⟨go6,(x5_1:Int).toNat * 2,none⟩=some (.string ((rd_T71 y579 x5_1).f0)):=hcc8 0 _ rfl;have hx8_1:w13.cell? ⟨go6,(x5_1:Int).toNat * 2+1,none⟩=some (.string ((rd_T71 y579 x5_1).f1)):=hcc8 1 _ rfl;have hf8_0:w13.frozen? ⟨go6,(x5_1:Int).toNat * 2,none⟩=φ:=hfr8 0;have hf8_1:w13.frozen? ⟨go6,(x5_1:Int).toNat * 2+1,none⟩=φ:=hfr8 1;clear hcl8 hcc8 hfr8 hM8;replace p8:=eq_true p8;replace q8:=eq_true q8;have HX14:=ζa (show Kd.R k71 71 w13 w0.heap.size (fun k_=>(P0_ k_ ∨ w.heap.size≤k_)) (.slice (some ⟨go6,0,none⟩) x0_1.length co9) y579 from (by exact HO_0.out));obtain ⟨ce14,hcl14,hM14,hcc14,hfr14⟩:=Kd.R_elem HX14.out z71 (x5_1:Int) (of_decide_eq_true (by (with_reducible assumption))) (by have h_:(x5_1:Int)<((x0_1.length:Int):Int):=of_decide_eq_true (by (with_reducible assumption));exact h_);obtain rfl:=k71_openM hM14;have HP14:=Kd.R_seg HX14.out (x5_1:Int) (of_decide_eq_true (by (with_reducible assumption))) (by have h_:(x5_1:Int)<((x0_1.length:Int):Int):=of_decide_eq_true (by (with_reducible assumption));exact h_) (seg:=[.string t580]) (j:=1) hcl14 hcc14 (show 2≤2 from by decide) (x':=(⟨(rd_T71 y579 x5_1).f0,t580⟩:S71)) (k71_mkM _ _ _ (⟨(rd_T71 y579 x5_1).f0,t580⟩:S71) ) (fun _ hk=>hk);have hx14_1:=hcc14 1 _ rfl;(try simp only [show (k71).sz=2 from rfl,Nat.mul_one,Nat.add_zero] at hx14_1);have hf14_1:=hfr14 1;(try simp only [show (k71).sz=2 from rfl,Nat.mul_one,Nat.add_zero] at hf14_1);clear hcl14 hcc14 hfr14 hM14)|((with_reducible refine gate_store (t:=9) (p:=25) rfl ?_);refine store_event (t:=9) (p:=25) (v:=?vo_w15) (w1:=(w13.setCell ⟨go6,(x5_1:Int).toNat * 2+1,none⟩ (.string t580))) ?hg ?ho ?hn ?hr ?_;(case ho=>rfl);(case hg=>rfl);(case hn=>rfl);(case hr=>(go_simp;done));intro w15 hw;have hg:w13.grownBy w15 (some go6):=(by rw [hw];exact HP14.2);have hp_:Kd.R k71 71 w15 w0.heap.size (fun k_=>(P0_ k_ ∨ w.heap.size≤k_)) (.slice (some ⟨go6,0,none⟩) x0_1.length co9) y581:=(by rw [hw,Ny581.out];exact HP14.1);clear HP14;have n0_:=ζa (hp_);have n1_:=ζa ((by rw [hw];exact δq (HB.out) GB6.out:Below w0.heap.size w0 w15));have n2_:=ζa (Kept.of_grown (S:=(fun k_=>P0_ k_)) hg (by exact HK.out) (fun k_ e_=>(HO_0.out.1 k_ e_)));clear HO_0;clear HB;clear HK;have HO_0:=n0_;have HB:=n1_;have HK:=n2_;clear n0_ n1_ n2_;clear hg hw hp_))
     go_roundg k1
     case measure=>have:=HK1.out;omega
     case rel=>exact ⟨(y581),(ζm ((ζm (x1_1+1))+1)),(ζm (x5_1+1)),(by rfl),(by rfl),H',⟨by have:=HK1.out;omega⟩,⟨by exact HO_0.out⟩,⟨by repeat ((with_reducible exact HK.out))⟩,⟨by repeat ((with_reducible exact HB.out))⟩⟩
    ·
     rw [if_neg c5] at H
     exact absurd H (by simp)
   ·
    rw [if_neg c3] at H
    have c3b0:decide (x5_1<(x0_1.length:Int))=φ:=decide_eq_false c3
    clear c3
    simp only [Option.some.injEq,Prod.mk.injEq] at H
    obtain ⟨rfl,rfl⟩:=H
    obtain ⟨Ao16,co16,eo16⟩:=Kd.R_slice HO_0.out
    subst eo16
    go_wp2
    go_ret
    exact ⟨by rfl,by exact HO_0.out,by repeat ((with_reducible exact HB.out)),by repeat ((with_reducible exact HK.out))⟩



/-! ### laws_markOrderS: function 30 -/
def laws_markOrderS.l0:Nat→List (S42)→Int→Int→Option (Int × (List (S42)))
 | 0,_,_,_=>none
 | k+1,x0,x1,x5=>if x5<(x0.length:Int) then ((laws_markText.f k x1).bind fun t582=>(if 0≤x5 then ((some (x0.set (x5:Int).toNat (⟨t582,(rd_T42 x0 x5).f1,(rd_T42 x0 x5).f2,(rd_T42 x0 x5).f3,(rd_T42 x0 x5).f4,(rd_T42 x0 x5).f5⟩:S42):List (S42))).bind fun y583=>((laws_markText.f k (ζm (x1+1))).bind fun t584=>((some (y583.set (x5:Int).toNat (⟨(rd_T42 y583 x5).f0,t584,(rd_T42 y583 x5).f2,(rd_T42 y583 x5).f3,(rd_T42 y583 x5).f4,(rd_T42 y583 x5).f5⟩:S42):List (S42))).bind fun y585=>((some (y585.set (x5:Int).toNat (⟨(rd_T42 y585 x5).f0,(rd_T42 y585 x5).f1,ζm ((ζm (x1+1))+1),(rd_T42 y585 x5).f3,(rd_T42 y585 x5).f4,(rd_T42 y585 x5).f5⟩:S42):List (S42))).bind fun y586=>((some (y586.set (x5:Int).toNat (⟨(rd_T42 y586 x5).f0,(rd_T42 y586 x5).f1,(rd_T42 y586 x5).f2,ζm ((ζm ((ζm (x1+1))+1))+1),(rd_T42 y586 x5).f4,(rd_T42 y586 x5).f5⟩:S42):List (S42))).bind fun y587=>((some (y587.set (x5:Int).toNat (⟨(rd_T42 y587 x5).f0,(rd_T42 y587 x5).f1,(rd_T42 y587 x5).f2,(rd_T42 y587 x5).f3,ζm ((ζm ((ζm ((ζm (x1+1))+1))+1))+1),(rd_T42 y587 x5).f5⟩:S42):List (S42))).bind fun y588=>(laws_markOrderS.l0 k (y588.set (x5:Int).toNat (⟨(rd_T42 y588 x5).f0,(rd_T42 y588 x5).f1,(rd_T42 y588 x5).f2,(rd_T42 y588 x5).f3,(rd_T42 y588 x5).f4,((Int.tmod (ζm ((ζm ((ζm ((ζm ((ζm (x1+1))+1))+1))+1))+1)) 3) == 0)⟩:S42)) (ζm ((ζm ((ζm ((ζm ((ζm ((ζm (x1+1))+1))+1))+1))+1))+1)) (ζm (x5+1))))))))) else (none))) else (some (x1,x0))
def laws_markOrderS.f (k:Nat) (l0:List (S42)) (a1:Int):Option (Int × (List (S42))):=laws_markOrderS.l0 k l0 a1 0
set_option maxHeartbeats 8000000 in
set_option maxRecDepth 100000 in
theorem laws_markOrderS.calls (k:Nat) (P0_:Nat→Prop) (u9000_:Value) (l0:List (S42)) (a1:Int) (r1:Int) (r2:List (S42)) (w0 w:World) (hB:Below w0.heap.size w0 w) (ho0:Kd.R k42 42 w w0.heap.size P0_ u9000_ l0) (h:laws_markOrderS.f k l0 a1=some (r1,r2)) :
  Calls Tryd.prog 30 #[u9000_,.int .i64 a1] w fun e w'=>e = .returned (.int .i64 r1)∧Kd.R k42 42 w' w0.heap.size (fun k_=>(P0_ k_ ∨ w.heap.size≤k_)) u9000_ r2∧Below w0.heap.size w0 w'∧Kept w w' (fun k_=>P0_ k_):=by
 have HO0:=ζa (show Kd.R k42 42 w w0.heap.size (fun k_=>(P0_ k_ ∨ w.heap.size≤k_)) u9000_ l0 from Kd.R_mono ho0 (fun k_ hk=>(.inl hk)))
 have HK:=ζa (Kept.refl w (fun k_=>P0_ k_))
 have HW0:=ζa hB.size
 have HB:=ζa hB
 clear hB
 have H:(laws_markOrderS.l0 k l0 a1 0)=some (r1,r2):=h
 clear h
 have H':=ζa H
 clear H
 go_enter Tryd.func30,Tryd.ntmps30
 go_wp2
 go_loopg [1,5] k (fun kq v1 v5 w' => ∃ (x0_1:List (S42)) (x1_1:Int) (x5_1:Int),v1 = .int .i64 x1_1∧v5 = .int .i64 x5_1∧Aside0 (laws_markOrderS.l0 kq x0_1 x1_1 x5_1=some (r1,r2))∧Aside0 (kq≤k)∧Aside0 (Kd.R k42 42 w' w0.heap.size (fun k_=>(P0_ k_ ∨ w.heap.size≤k_)) u9000_ x0_1)∧Aside0 (Kept w w' (fun k_=>P0_ k_))∧Aside0 (Below w0.heap.size w0 w'))
 case atStart=>exact ⟨(l0),(a1),(0),(by rfl),(by rfl),H',⟨Nat.le_refl _⟩,⟨by exact HO0.out⟩,⟨by repeat ((with_reducible exact HK.out))⟩,⟨by repeat ((with_reducible exact HB.out))⟩⟩
 case round =>
  clear H'
  try clear p2
  obtain ⟨x0_1,x1_1,x5_1,rfl,rfl,HA,HK1,HO_0,HK,HB⟩:=hrel
  cases gk with
  | zero=>exact absurd HA.out (by simp [laws_markOrderS.l0])
  | succ k1 =>
   have H:=HA.out
   clear HA
   simp only [laws_markOrderS.l0] at H
   by_cases c3:x5_1<(x0_1.length:Int)
   ·
    rw [if_pos c3] at H
    have c3b0:decide (x5_1<(x0_1.length:Int))=τ:=decide_eq_true c3
    clear c3
    replace H:=Option.bind_eq_some_iff.mp H
    obtain ⟨t582,A40,H⟩:=H
    replace H:(if 0≤x5_1 then ((some (x0_1.set (x5_1:Int).toNat (⟨t582,(rd_T42 x0_1 x5_1).f1,(rd_T42 x0_1 x5_1).f2,(rd_T42 x0_1 x5_1).f3,(rd_T42 x0_1 x5_1).f4,(rd_T42 x0_1 x5_1).f5⟩:S42):List (S42))).bind fun y583=>((laws_markText.f k1 (ζm (x1_1+1))).bind fun t584=>((some (y583.set (x5_1:Int).toNat (⟨(rd_T42 y583 x5_1).f0,t584,(rd_T42 y583 x5_1).f2,(rd_T42 y583 x5_1).f3,(rd_T42 y583 x5_1).f4,(rd_T42 y583 x5_1).f5⟩:S42):List (S42))).bind fun y585=>((some (y585.set (x5_1:Int).toNat (⟨(rd_T42 y585 x5_1).f0,(rd_T42 y585 x5_1).f1,ζm ((ζm (x1_1+1))+1),(rd_T42 y585 x5_1).f3,(rd_T42 y585 x5_1).f4,(rd_T42 y585 x5_1).f5⟩:S42):List (S42))).bind fun y586=>((some (y586.set (x5_1:Int).toNat (⟨(rd_T42 y586 x5_1).f0,(rd_T42 y586 x5_1).f1,(rd_T42 y586 x5_1).f2,ζm ((ζm ((ζm (x1_1+1))+1))+1),(rd_T42 y586 x5_1).f4,(rd_T42 y586 x5_1).f5⟩:S42):List (S42))).bind fun y587=>((some (y587.set (x5_1:Int).toNat (⟨(rd_T42 y587 x5_1).f0,(rd_T42 y587 x5_1).f1,(rd_T42 y587 x5_1).f2,(rd_T42 y587 x5_1).f3,ζm ((ζm ((ζm ((ζm (x1_1+1))+1))+1))+1),(rd_T42 y587 x5_1).f5⟩:S42):List (S42))).bind fun y588=>(laws_markOrderS.l0 k1 (y588.set (x5_1:Int).toNat (⟨(rd_T42 y588 x5_1).f0,(rd_T42 y588 x5_1).f1,(rd_T42 y588 x5_1).f2,(rd_T42 y588 x5_1).f3,(rd_T42 y588 x5_1).f4,((Int.tmod (ζm ((ζm ((ζm ((ζm ((ζm (x1_1+1))+1))+1))+1))+1)) 3) == 0)⟩:S42)) (ζm ((ζm ((ζm ((ζm ((ζm ((ζm (x1_1+1))+1))+1))+1))+1))+1)) (ζm (x5_1+1))))))))) else (none))=some (r1,r2):=H
    have A4:=ζa A40
    clear A40
    by_cases c5:0≤x5_1
    ·
     rw [if_pos c5] at H
     have c5b0:decide (0≤x5_1)=τ:=decide_eq_true c5
     clear c5
     obtain ⟨y583,hy583⟩ : ∃ y_:List (S42),y_=(x0_1.set (x5_1:Int).toNat (⟨t582,(rd_T42 x0_1 x5_1).f1,(rd_T42 x0_1 x5_1).f2,(rd_T42 x0_1 x5_1).f3,(rd_T42 x0_1 x5_1).f4,(rd_T42 x0_1 x5_1).f5⟩:S42)):=⟨_,rfl⟩
     replace H:((laws_markText.f k1 (ζm (x1_1+1))).bind fun t584=>((some (y583.set (x5_1:Int).toNat (⟨(rd_T42 y583 x5_1).f0,t584,(rd_T42 y583 x5_1).f2,(rd_T42 y583 x5_1).f3,(rd_T42 y583 x5_1).f4,(rd_T42 y583 x5_1).f5⟩:S42):List (S42))).bind fun y585=>((some (y585.set (x5_1:Int).toNat (⟨(rd_T42 y585 x5_1).f0,(rd_T42 y585 x5_1).f1,ζm ((ζm (x1_1+1))+1),(rd_T42 y585 x5_1).f3,(rd_T42 y585 x5_1).f4,(rd_T42 y585 x5_1).f5⟩:S42):List (S42))).bind fun y586=>((some (y586.set (x5_1:Int).toNat (⟨(rd_T42 y586 x5_1).f0,(rd_T42 y586 x5_1).f1,(rd_T42 y586 x5_1).f2,ζm ((ζm ((ζm (x1_1+1))+1))+1),(rd_T42 y586 x5_1).f4,(rd_T42 y586 x5_1).f5⟩:S42):List (S42))).bind fun y587=>((some (y587.set (x5_1:Int).toNat (⟨(rd_T42 y587 x5_1).f0,(rd_T42 y587 x5_1).f1,(rd_T42 y587 x5_1).f2,(rd_T42 y587 x5_1).f3,ζm ((ζm ((ζm ((ζm (x1_1+1))+1))+1))+1),(rd_T42 y587 x5_1).f5⟩:S42):List (S42))).bind fun y588=>(laws_markOrderS.l0 k1 (y588.set (x5_1:Int).toNat (⟨(rd_T42 y588 x5_1).f0,(rd_T42 y588 x5_1).f1,(rd_T42 y588 x5_1).f2,(rd_T42 y588 x5_1).f3,(rd_T42 y588 x5_1).f4,((Int.tmod (ζm ((ζm ((ζm ((ζm ((ζm (x1_1+1))+1))+1))+1))+1)) 3) == 0)⟩:S42)) (ζm ((ζm ((ζm ((ζm ((ζm ((ζm (x1_1+1))+1))+1))+1))+1))+1)) (ζm (x5_1+1))))))))=some (r1,r2):=by (have H2_:=(Option.bind_some _ _).symm.trans H;rw [hy583];with_reducible exact H2_)
     have Ny583:=ζa hy583
     clear hy583
     replace H:=Option.bind_eq_some_iff.mp H
     obtain ⟨t584,A70,H⟩:=H
     replace H:((some (y583.set (x5_1:Int).toNat (⟨(rd_T42 y583 x5_1).f0,t584,(rd_T42 y583 x5_1).f2,(rd_T42 y583 x5_1).f3,(rd_T42 y583 x5_1).f4,(rd_T42 y583 x5_1).f5⟩:S42):List (S42))).bind fun y585=>((some (y585.set (x5_1:Int).toNat (⟨(rd_T42 y585 x5_1).f0,(rd_T42 y585 x5_1).f1,ζm ((ζm (x1_1+1))+1),(rd_T42 y585 x5_1).f3,(rd_T42 y585 x5_1).f4,(rd_T42 y585 x5_1).f5⟩:S42):List (S42))).bind fun y586=>((some (y586.set (x5_1:Int).toNat (⟨(rd_T42 y586 x5_1).f0,(rd_T42 y586 x5_1).f1,(rd_T42 y586 x5_1).f2,ζm ((ζm ((ζm (x1_1+1))+1))+1),(rd_T42 y586 x5_1).f4,(rd_T42 y586 x5_1).f5⟩:S42):List (S42))).bind fun y587=>((some (y587.set (x5_1:Int).toNat (⟨(rd_T42 y587 x5_1).f0,(rd_T42 y587 x5_1).f1,(rd_T42 y587 x5_1).f2,(rd_T42 y587 x5_1).f3,ζm ((ζm ((ζm ((ζm (x1_1+1))+1))+1))+1),(rd_T42 y587 x5_1).f5⟩:S42):List (S42))).bind fun y588=>(laws_markOrderS.l0 k1 (y588.set (x5_1:Int).toNat (⟨(rd_T42 y588 x5_1).f0,(rd_T42 y588 x5_1).f1,(rd_T42 y588 x5_1).f2,(rd_T42 y588 x5_1).f3,(rd_T42 y588 x5_1).f4,((Int.tmod (ζm ((ζm ((ζm ((ζm ((ζm (x1_1+1))+1))+1))+1))+1)) 3) == 0)⟩:S42)) (ζm ((ζm ((ζm ((ζm ((ζm ((ζm (x1_1+1))+1))+1))+1))+1))+1)) (ζm (x5_1+1)))))))=some (r1,r2):=H
     have A7:=ζa A70
     clear A70
     obtain ⟨y585,hy585⟩ : ∃ y_:List (S42),y_=(y583.set (x5_1:Int).toNat (⟨(rd_T42 y583 x5_1).f0,t584,(rd_T42 y583 x5_1).f2,(rd_T42 y583 x5_1).f3,(rd_T42 y583 x5_1).f4,(rd_T42 y583 x5_1).f5⟩:S42)):=⟨_,rfl⟩
     replace H:((some (y585.set (x5_1:Int).toNat (⟨(rd_T42 y585 x5_1).f0,(rd_T42 y585 x5_1).f1,ζm ((ζm (x1_1+1))+1),(rd_T42 y585 x5_1).f3,(rd_T42 y585 x5_1).f4,(rd_T42 y585 x5_1).f5⟩:S42):List (S42))).bind fun y586=>((some (y586.set (x5_1:Int).toNat (⟨(rd_T42 y586 x5_1).f0,(rd_T42 y586 x5_1).f1,(rd_T42 y586 x5_1).f2,ζm ((ζm ((ζm (x1_1+1))+1))+1),(rd_T42 y586 x5_1).f4,(rd_T42 y586 x5_1).f5⟩:S42):List (S42))).bind fun y587=>((some (y587.set (x5_1:Int).toNat (⟨(rd_T42 y587 x5_1).f0,(rd_T42 y587 x5_1).f1,(rd_T42 y587 x5_1).f2,(rd_T42 y587 x5_1).f3,ζm ((ζm ((ζm ((ζm (x1_1+1))+1))+1))+1),(rd_T42 y587 x5_1).f5⟩:S42):List (S42))).bind fun y588=>(laws_markOrderS.l0 k1 (y588.set (x5_1:Int).toNat (⟨(rd_T42 y588 x5_1).f0,(rd_T42 y588 x5_1).f1,(rd_T42 y588 x5_1).f2,(rd_T42 y588 x5_1).f3,(rd_T42 y588 x5_1).f4,((Int.tmod (ζm ((ζm ((ζm ((ζm ((ζm (x1_1+1))+1))+1))+1))+1)) 3) == 0)⟩:S42)) (ζm ((ζm ((ζm ((ζm ((ζm ((ζm (x1_1+1))+1))+1))+1))+1))+1)) (ζm (x5_1+1))))))=some (r1,r2):=by (have H2_:=(Option.bind_some _ _).symm.trans H;rw [hy585];with_reducible exact H2_)
     have Ny585:=ζa hy585
     clear hy585
     obtain ⟨y586,hy586⟩ : ∃ y_:List (S42),y_=(y585.set (x5_1:Int).toNat (⟨(rd_T42 y585 x5_1).f0,(rd_T42 y585 x5_1).f1,ζm ((ζm (x1_1+1))+1),(rd_T42 y585 x5_1).f3,(rd_T42 y585 x5_1).f4,(rd_T42 y585 x5_1).f5⟩:S42)):=⟨_,rfl⟩
     replace H:((some (y586.set (x5_1:Int).toNat (⟨(rd_T42 y586 x5_1).f0,(rd_T42 y586 x5_1).f1,(rd_T42 y586 x5_1).f2,ζm ((ζm ((ζm (x1_1+1))+1))+1),(rd_T42 y586 x5_1).f4,(rd_T42 y586 x5_1).f5⟩:S42):List (S42))).bind fun y587=>((some (y587.set (x5_1:Int).toNat (⟨(rd_T42 y587 x5_1).f0,(rd_T42 y587 x5_1).f1,(rd_T42 y587 x5_1).f2,(rd_T42 y587 x5_1).f3,ζm ((ζm ((ζm ((ζm (x1_1+1))+1))+1))+1),(rd_T42 y587 x5_1).f5⟩:S42):List (S42))).bind fun y588=>(laws_markOrderS.l0 k1 (y588.set (x5_1:Int).toNat (⟨(rd_T42 y588 x5_1).f0,(rd_T42 y588 x5_1).f1,(rd_T42 y588 x5_1).f2,(rd_T42 y588 x5_1).f3,(rd_T42 y588 x5_1).f4,((Int.tmod (ζm ((ζm ((ζm ((ζm ((ζm (x1_1+1))+1))+1))+1))+1)) 3) == 0)⟩:S42)) (ζm ((ζm ((ζm ((ζm ((ζm ((ζm (x1_1+1))+1))+1))+1))+1))+1)) (ζm (x5_1+1)))))=some (r1,r2):=by (have H2_:=(Option.bind_some _ _).symm.trans H;rw [hy586];with_reducible exact H2_)
     have Ny586:=ζa hy586
     clear hy586
     obtain ⟨y587,hy587⟩ : ∃ y_:List (S42),y_=(y586.set (x5_1:Int).toNat (⟨(rd_T42 y586 x5_1).f0,(rd_T42 y586 x5_1).f1,(rd_T42 y586 x5_1).f2,ζm ((ζm ((ζm (x1_1+1))+1))+1),(rd_T42 y586 x5_1).f4,(rd_T42 y586 x5_1).f5⟩:S42)):=⟨_,rfl⟩
     replace H:((some (y587.set (x5_1:Int).toNat (⟨(rd_T42 y587 x5_1).f0,(rd_T42 y587 x5_1).f1,(rd_T42 y587 x5_1).f2,(rd_T42 y587 x5_1).f3,ζm ((ζm ((ζm ((ζm (x1_1+1))+1))+1))+1),(rd_T42 y587 x5_1).f5⟩:S42):List (S42))).bind fun y588=>(laws_markOrderS.l0 k1 (y588.set (x5_1:Int).toNat (⟨(rd_T42 y588 x5_1).f0,(rd_T42 y588 x5_1).f1,(rd_T42 y588 x5_1).f2,(rd_T42 y588 x5_1).f3,(rd_T42 y588 x5_1).f4,((Int.tmod (ζm ((ζm ((ζm ((ζm ((ζm (x1_1+1))+1))+1))+1))+1)) 3) == 0)⟩:S42)) (ζm ((ζm ((ζm ((ζm ((ζm ((ζm (x1_1+1))+1))+1))+1))+1))+1)) (ζm (x5_1+1))))=some (r1,r2):=by (have H2_:=(Option.bind_some _ _).symm.trans H;rw [hy587];with_reducible exact H2_)
     have Ny587:=ζa hy587
     clear hy587
     obtain ⟨y588,hy588⟩ : ∃ y_:List (S42),y_=(y587.set (x5_1:Int).toNat (⟨(rd_T42 y587 x5_1).f0,(rd_T42 y587 x5_1).f1,(rd_T42 y587 x5_1).f2,(rd_T42 y587 x5_1).f3,ζm ((ζm ((ζm ((ζm (x1_1+1))+1))+1))+1),(rd_T42 y587 x5_1).f5⟩:S42)):=⟨_,rfl⟩
     replace H:(laws_markOrderS.l0 k1 (y588.set (x5_1:Int).toNat (⟨(rd_T42 y588 x5_1).f0,(rd_T42 y588 x5_1).f1,(rd_T42 y588 x5_1).f2,(rd_T42 y588 x5_1).f3,(rd_T42 y588 x5_1).f4,((Int.tmod (ζm ((ζm ((ζm ((ζm ((ζm (x1_1+1))+1))+1))+1))+1)) 3) == 0)⟩:S42)) (ζm ((ζm ((ζm ((ζm ((ζm ((ζm (x1_1+1))+1))+1))+1))+1))+1)) (ζm (x5_1+1)))=some (r1,r2):=by (have H2_:=(Option.bind_some _ _).symm.trans H;rw [hy588];with_reducible exact H2_)
     have Ny588:=ζa hy588
     clear hy588
     obtain ⟨y589,hy589⟩ : ∃ y_:List (S42),y_=(y588.set (x5_1:Int).toNat (⟨(rd_T42 y588 x5_1).f0,(rd_T42 y588 x5_1).f1,(rd_T42 y588 x5_1).f2,(rd_T42 y588 x5_1).f3,(rd_T42 y588 x5_1).f4,((Int.tmod (ζm ((ζm ((ζm ((ζm ((ζm (x1_1+1))+1))+1))+1))+1)) 3) == 0)⟩:S42)):=⟨_,rfl⟩
     replace H:(laws_markOrderS.l0 k1 y589 (ζm ((ζm ((ζm ((ζm ((ζm ((ζm (x1_1+1))+1))+1))+1))+1))+1)) (ζm (x5_1+1)))=some (r1,r2):=by (rw [hy589];with_reducible exact H)
     have Ny589:=ζa hy589
     clear hy589
     have H':=ζa H
     clear H
     obtain ⟨Ao13,co13,eo13⟩:=Kd.R_slice HO_0.out
     subst eo13
     go_wp2_with (first|((with_reducible refine δv (f:=60) rfl ?_);refine goesL_ (some 15) rfl rfl Tryd.func60 (by kernel_rfl) rfl #[.int .i64 x1_1] rfl (by (try simp only [δd,δe,δf]);rfl) ?_;(with_reducible refine (laws_markText.calls k1 x1_1 t582 _ A4.out).mono ?_);rintro e w14 ⟨rfl,hb⟩;refine ⟨_,rfl,?_⟩;have n0_:=ζa (ζh (by exact HO_0.out) hb);have n1_:=ζa (Kept.below (S:=(fun k_=>P0_ k_)) (by exact HK.out) hb);have n2_:=ζa (δr (by exact HB.out) hb);clear HO_0;clear HK;clear HB;have HO_0:=n0_;have HK:=n1_;have HB:=n2_;clear n0_ n1_ n2_;(try clear hb);(try clear hb2);(try clear hk);(try clear hi);have p6:0≤(x5_1:Int):=of_decide_eq_true (by (with_reducible assumption));have q6:(x5_1:Int)<((x0_1.length:Int):Int):=of_decide_eq_true (by (with_reducible assumption));obtain ⟨go6,co6,eo6,gb6,gl6,cl6,HG6⟩:=Kd.R_form HO_0.out (by omega);(cases eo6);have GB6:=ζa gb6;have GG6:=ζa HG6;clear gb6 gl6 HG6;have HMgo6:=ζa (show (P0_ go6 ∨ w.heap.size≤go6) from (HO_0.out.1 _ rfl));obtain ⟨ce6,hcl6,hM6,hcc6,hfr6⟩:=Kd.R_elem HO_0.out z42 (x5_1:Int) p6 q6;obtain rfl:=k42_openM hM6;have hx6_0:w14.cell? ⟨go6,(x5_1:Int).toNat * 6,none⟩=some (.string ((rd_T42 x0_1 x5_1).f0)):=hcc6 0 _ rfl;have hx6_1:w14.cell? ⟨go6,(x5_1:Int).toNat * 6+1,none⟩=some (.string ((rd_T42 x0_1 x5_1).f1)):=hcc6 1 _ rfl;have hx6_2:w14.cell? ⟨go6,(x5_1:Int).toNat * 6+2,none⟩=some (.int .i64 ((rd_T42 x0_1 x5_1).f2)):=hcc6 2 _ rfl;have hx6_3:w14.cell? ⟨go6,(x5_1:Int).toNat * 6+3,none⟩=some (.int .i64 ((rd_T42 x0_1 x5_1).f3)):=hcc6 3 _ rfl;have hx6_4:w14.cell? ⟨go6,(x5_1:Int).toNat * 6+4,none⟩=some (.int .i64 ((rd_T42 x0_1 x5_1).f4)):=hcc6 4 _ rfl;have hx6_5:w14.cell? ⟨go6,(x5_1:Int).toNat * 6+5,none⟩=some (.bool ((rd_T42 x0_1 x5_1).f5)):=hcc6 5 _ rfl;have hf6_0:w14.frozen? ⟨go6,(x5_1:Int).toNat * 6,none⟩=φ:=hfr6 0;have hf6_1:w14.frozen? ⟨go6,(x5_1:Int).toNat * 6+1,none⟩=φ:=hfr6 1;have hf6_2:w14.frozen? ⟨go6,(x5_1:Int).toNat * 6+2,none⟩=φ:=hfr6 2;have hf6_3:w14.frozen? ⟨go6,(x5_1:Int).toNat * 6+3,none⟩=φ:=hfr6 3;have hf6_4:w14.frozen? ⟨go6,(x5_1:Int).toNat * 6+4,none⟩=φ:=hfr6 4;have hf6_5:w14.frozen? ⟨go6,(x5_1:Int).toNat * 6+5,none⟩=φ:=hfr6 5;clear hcl6 hcc6 hfr6 hM6;replace p6:=eq_true p6;replace q6:=eq_true q6;have HX15:=ζa (show Kd.R k42 42 w14 w0.heap.size (fun k_=>(P0_ k_ ∨ w.heap.size≤k_)) (.slice (some ⟨go6,0,none⟩) x0_1.length co13) x0_1 from (by exact HO_0.out));obtain ⟨ce15,hcl15,hM15,hcc15,hfr15⟩:=Kd.R_elem HX15.out z42 (x5_1:Int) (of_decide_eq_true (by (with_reducible assumption))) (by have h_:(x5_1:Int)<((x0_1.length:Int):Int):=of_decide_eq_true (by (with_reducible assumption));exact h_);obtain rfl:=k42_openM hM15;have HP15:=Kd.R_seg HX15.out (x5_1:Int) (of_decide_eq_true (by (with_reducible assumption))) (by have h_:(x5_1:Int)<((x0_1.length:Int):Int):=of_decide_eq_true (by (with_reducible assumption));exact h_) (seg:=[.string t582]) (j:=0) hcl15 hcc15 (show 1≤6 from by decide) (x':=(⟨t582,(rd_T42 x0_1 x5_1).f1,(rd_T42 x0_1 x5_1).f2,(rd_T42 x0_1 x5_1).f3,(rd_T42 x0_1 x5_1).f4,(rd_T42 x0_1 x5_1).f5⟩:S42)) (k42_mkM _ _ _ (⟨t582,(rd_T42 x0_1 x5_1).f1,(rd_T42 x0_1 x5_1).f2,(rd_T42 x0_1 x5_1).f3,(rd_T42 x0_1 x5_1).f4,(rd_T42 x0_1 x5_1).f5⟩:S42) ) (fun _ hk=>hk);have hx15_0:=hcc15 0 _ rfl;(try simp only [show (k42).sz=6 from rfl,Nat.mul_one,Nat.add_zero] at hx15_0);have hf15_0:=hfr15 0;(try simp only [show (k42).sz=6 from rfl,Nat.mul_one,Nat.add_zero] at hf15_0);clear hcl15 hcc15 hfr15 hM15)|((with_reducible refine gate_store (t:=9) (p:=17) rfl ?_);refine store_event (t:=9) (p:=17) (v:=?vo_w16) (w1:=(w14.setCell ⟨go6,(x5_1:Int).toNat * 6,none⟩ (.string t582))) ?hg ?ho ?hn ?hr ?_;(case ho=>rfl);(case hg=>rfl);(case hn=>rfl);(case hr=>(go_simp;done));intro w16 hw;have hg:w14.grownBy w16 (some go6):=(by rw [hw];exact HP15.2);have hp_:Kd.R k42 42 w16 w0.heap.size (fun k_=>(P0_ k_ ∨ w.heap.size≤k_)) (.slice (some ⟨go6,0,none⟩) x0_1.length co13) y583:=(by rw [hw,Ny583.out];exact HP15.1);clear HP15;have n0_:=ζa (hp_);have n1_:=ζa ((by rw [hw];exact δq (HB.out) GB6.out:Below w0.heap.size w0 w16));have n2_:=ζa (Kept.of_grown (S:=(fun k_=>P0_ k_)) hg (by exact HK.out) (fun k_ e_=>(HO_0.out.1 k_ e_)));clear HO_0;clear HB;clear HK;have HO_0:=n0_;have HB:=n1_;have HK:=n2_;clear n0_ n1_ n2_;clear hg hw hp_)|((with_reducible refine δv (f:=60) rfl ?_);refine goesL_ (some 23) rfl rfl Tryd.func60 (by kernel_rfl) rfl #[.int .i64 (ζm (x1_1+1))] rfl (by (try simp only [δd,δe,δf]);rfl) ?_;(with_reducible refine (laws_markText.calls k1 (ζm (x1_1+1)) t584 _ A7.out).mono ?_);rintro e w17 ⟨rfl,hb⟩;refine ⟨_,rfl,?_⟩;have n0_:=ζa (ζh (by exact HO_0.out) hb);have n1_:=ζa (Kept.below (S:=(fun k_=>P0_ k_)) (by exact HK.out) hb);have n2_:=ζa (δr (by exact HB.out) hb);clear HO_0;clear HK;clear HB;have HO_0:=n0_;have HK:=n1_;have HB:=n2_;clear n0_ n1_ n2_;(try clear hb);(try clear hb2);(try clear hk);(try clear hi);have p8:0≤(x5_1:Int):=of_decide_eq_true (by (with_reducible assumption));have q8:(x5_1:Int)<((x0_1.length:Int):Int):=of_decide_eq_true (by (with_reducible assumption));obtain ⟨ce8,hcl8,hM8,hcc8,hfr8⟩:=Kd.R_elem HO_0.out z42 (x5_1:Int) p8 q8;obtain rfl:=k42_openM hM8;have hx8_0:w17.cell? ⟨go6,(x5_1:Int).toNat * 6,none⟩=some (.string ((rd_T42 y583 x5_1).f0)):=hcc8 0 _ rfl;have hx8_1:w17.cell? ⟨go6,(x5_1:Int).toNat * 6+1,none⟩=some (.string ((rd_T42 y583 x5_1).f1)):=hcc8 1 _ rfl;have hx8_2:w17.cell? ⟨go6,(x5_1:Int).toNat * 6+2,none⟩=some (.int .i64 ((rd_T42 y583 x5_1).f2)):=hcc8 2 _ rfl;have hx8_3:w17.cell? ⟨go6,(x5_1:Int).toNat * 6+3,none⟩=some (.int .i64 ((rd_T42 y583 x5_1).f3)):=hcc8 3 _ rfl;have hx8_4:w17.cell? ⟨go6,(x5_1:Int).toNat * 6+4,none⟩=some (.int .i64 ((rd_T42 y583 x5_1).f4)):=hcc8 4 _ rfl;have hx8_5:w17.cell? ⟨go6,(x5_1:Int).toNat * 6+5,none⟩=some (.bool ((rd_T42 y583 x5_1).f5)):=hcc8 5 _ rfl;have hf8_0:w17.frozen? ⟨go6,(x5_1:Int).toNat * 6,none⟩=φ:=hfr8 0;have hf8_1:w17.frozen? ⟨go6,(x5_1:Int).toNat * 6+1,none⟩=φ:=hfr8 1;have hf8_2:w17.frozen? ⟨go6,(x5_1:Int).toNat * 6+2,none⟩=φ:=hfr8 2;have hf8_3:w17.frozen? ⟨go6,(x5_1:Int).toNat * 6+3,none⟩=φ:=hfr8 3;have hf8_4:w17.frozen? ⟨go6,(x5_1:Int).toNat * 6+4,none⟩=φ:=hfr8 4;have hf8_5:w17.frozen? ⟨go6,(x5_1:Int).toNat * 6+5,none⟩=φ:=hfr8 5;clear hcl8 hcc8 hfr8 hM8;replace p8:=eq_true p8;replace q8:=eq_true q8;have HX18:=ζa (show Kd.R k42 42 w17 w0.heap.size (fun k_=>(P0_ k_ ∨ w.heap.size≤k_)) (.slice (some ⟨go6,0,none⟩) x0_1.length co13) y583 from (by exact HO_0.out));obtain ⟨ce18,hcl18,hM18,hcc18,hfr18⟩:=Kd.R_elem HX18.out z42 (x5_1:Int) (of_decide_eq_true (by (with_reducible assumption))) (by have h_:(x5_1:Int)<((x0_1.length:Int):Int):=of_decide_eq_true (by (with_reducible assumption));exact h_);obtain rfl:=k42_openM hM18;have HP18:=Kd.R_seg HX18.out (x5_1:Int) (of_decide_eq_true (by (with_reducible assumption))) (by have h_:(x5_1:Int)<((x0_1.length:Int):Int):=of_decide_eq_true (by (with_reducible assumption));exact h_) (seg:=[.string t584]) (j:=1) hcl18 hcc18 (show 2≤6 from by decide) (x':=(⟨(rd_T42 y583 x5_1).f0,t584,(rd_T42 y583 x5_1).f2,(rd_T42 y583 x5_1).f3,(rd_T42 y583 x5_1).f4,(rd_T42 y583 x5_1).f5⟩:S42)) (k42_mkM _ _ _ (⟨(rd_T42 y583 x5_1).f0,t584,(rd_T42 y583 x5_1).f2,(rd_T42 y583 x5_1).f3,(rd_T42 y583 x5_1).f4,(rd_T42 y583 x5_1).f5⟩:S42) ) (fun _ hk=>hk);have hx18_1:=hcc18 1 _ rfl;(try simp only [show (k42).sz=6 from rfl,Nat.mul_one,Nat.add_zero] at hx18_1);have hf18_1:=hfr18 1;(try simp only [show (k42).sz=6 from rfl,Nat.mul_one,Nat.add_zero] at hf18_1);clear hcl18 hcc18 hfr18 hM18)|((with_reducible refine gate_store (t:=9) (p:=25) rfl ?_);refine store_event (t:=9) (p:=25) (v:=?vo_w19) (w1:=(w17.setCell ⟨go6,(x5_1:Int).toNat * 6+1,none⟩ (.string t584))) ?hg ?ho ?hn ?hr ?_;(case ho=>rfl);(case hg=>rfl);(case hn=>rfl);(case hr=>(go_simp;done));intro w19 hw;have hg:w17.grownBy w19 (some go6):=(by rw [hw];exact HP18.2);have hp_:Kd.R k42 42 w19 w0.heap.size (fun k_=>(P0_ k_ ∨ w.heap.size≤k_)) (.slice (some ⟨go6,0,none⟩) x0_1.length co13) y585:=(by rw [hw,Ny585.out];exact HP18.1);clear HP18;have n0_:=ζa (hp_);have n1_:=ζa ((by rw [hw];exact δq (HB.out) GB6.out:Below w0.heap.size w0 w19));have n2_:=ζa (Kept.of_grown (S:=(fun k_=>P0_ k_)) hg (by exact HK.out) (fun k_ e_=>(HO_0.out.1 k_ e_)));clear HO_0;clear HB;clear HK;have HO_0:=n0_;have HB:=n1_;have HK:=n2_;clear n0_ n1_ n2_;clear hg hw hp_;have p9:0≤(x5_1:Int):=of_decide_eq_true (by (with_reducible assumption));have q9:(x5_1:Int)<((x0_1.length:Int):Int):=of_decide_eq_true (by (with_reducible assumption));obtain ⟨ce9,hcl9,hM9,hcc9,hfr9⟩:=Kd.R_elem HO_0.out z42 (x5_1:Int) p9 q9;obtain rfl:=k42_openM hM9;have hx9_0:w19.cell? ⟨go6,(x5_1:Int).toNat * 6,none⟩=some (.string ((rd_T42 y585 x5_1).f0)):=hcc9 0 _ rfl;have hx9_1:w19.cell? ⟨go6,(x5_1:Int).toNat * 6+1,none⟩=some (.string ((rd_T42 y585 x5_1).f1)):=hcc9 1 _ rfl;have hx9_2:w19.cell? ⟨go6,(x5_1:Int).toNat * 6+2,none⟩=some (.int .i64 ((rd_T42 y585 x5_1).f2)):=hcc9 2 _ rfl;have hx9_3:w19.cell? ⟨go6,(x5_1:Int).toNat * 6+3,none⟩=some (.int .i64 ((rd_T42 y585 x5_1).f3)):=hcc9 3 _ rfl;have hx9_4:w19.cell? ⟨go6,(x5_1:Int).toNat * 6+4,none⟩=some (.int .i64 ((rd_T42 y585 x5_1).f4)):=hcc9 4 _ rfl;have hx9_5:w19.cell? ⟨go6,(x5_1:Int).toNat * 6+5,none⟩=some (.bool ((rd_T42 y585 x5_1).f5)):=hcc9 5 _ rfl;have hf9_0:w19.frozen? ⟨go6,(x5_1:Int).toNat * 6,none⟩=φ:=hfr9 0;have hf9_1:w19.frozen? ⟨go6,(x5_1:Int).toNat * 6+1,none⟩=φ:=hfr9 1;have hf9_2:w19.frozen? ⟨go6,(x5_1:Int).toNat * 6+2,none⟩=φ:=hfr9 2;have hf9_3:w19.frozen? ⟨go6,(x5_1:Int).toNat * 6+3,none⟩=φ:=hfr9 3;have hf9_4:w19.frozen? ⟨go6,(x5_1:Int).toNat * 6+4,none⟩=φ:=hfr9 4;have hf9_5:w19.frozen? ⟨go6,(x5_1:Int).toNat * 6+5,none⟩=φ:=hfr9 5;clear hcl9 hcc9 hfr9 hM9;replace p9:=eq_true p9;replace q9:=eq_true q9;have HX20:=ζa (show Kd.R k42 42 w19 w0.heap.size (fun k_=>(P0_ k_ ∨ w.heap.size≤k_)) (.slice (some ⟨go6,0,none⟩) x0_1.length co13) y585 from (by exact HO_0.out));obtain ⟨ce20,hcl20,hM20,hcc20,hfr20⟩:=Kd.R_elem HX20.out z42 (x5_1:Int) (of_decide_eq_true (by (with_reducible assumption))) (by have h_:(x5_1:Int)<((x0_1.length:Int):Int):=of_decide_eq_true (by (with_reducible assumption));exact h_);obtain rfl:=k42_openM hM20;have HP20:=Kd.R_seg HX20.out (x5_1:Int) (of_decide_eq_true (by (with_reducible assumption))) (by have h_:(x5_1:Int)<((x0_1.length:Int):Int):=of_decide_eq_true (by (with_reducible assumption));exact h_) (seg:=[.int .i64 (ζm ((ζm (x1_1+1))+1))]) (j:=2) hcl20 hcc20 (show 3≤6 from by decide) (x':=(⟨(rd_T42 y585 x5_1).f0,(rd_T42 y585 x5_1).f1,ζm ((ζm (x1_1+1))+1),(rd_T42 y585 x5_1).f3,(rd_T42 y585 x5_1).f4,(rd_T42 y585 x5_1).f5⟩:S42)) (k42_mkM _ _ _ (⟨(rd_T42 y585 x5_1).f0,(rd_T42 y585 x5_1).f1,ζm ((ζm (x1_1+1))+1),(rd_T42 y585 x5_1).f3,(rd_T42 y585 x5_1).f4,(rd_T42 y585 x5_1).f5⟩:S42) ) (fun _ hk=>hk);have hx20_2:=hcc20 2 _ rfl;(try simp only [show (k42).sz=6 from rfl,Nat.mul_one,Nat.add_zero] at hx20_2);have hf20_2:=hfr20 2;(try simp only [show (k42).sz=6 from rfl,Nat.mul_one,Nat.add_zero] at hf20_2);clear hcl20 hcc20 hfr20 hM20)|((with_reducible refine gate_store (t:=3) (p:=32) rfl ?_);refine store_event (t:=3) (p:=32) (v:=?vo_w21) (w1:=(w19.setCell ⟨go6,(x5_1:Int).toNat * 6+2,none⟩ (.int .i64 (ζm ((ζm (x1_1+1))+1))))) ?hg ?ho ?hn ?hr ?_;(case ho=>rfl);(case hg=>rfl);(case hn=>rfl);(case hr=>(go_simp;done));intro w21 hw;have hg:w19.grownBy w21 (some go6):=(by rw [hw];exact HP20.2);have hp_:Kd.R k42 42 w21 w0.heap.size (fun k_=>(P0_ k_ ∨ w.heap.size≤k_)) (.slice (some ⟨go6,0,none⟩) x0_1.length co13) y586:=(by rw [hw,Ny586.out];exact HP20.1);clear HP20;have n0_:=ζa (hp_);have n1_:=ζa ((by rw [hw];exact δq (HB.out) GB6.out:Below w0.heap.size w0 w21));have n2_:=ζa (Kept.of_grown (S:=(fun k_=>P0_ k_)) hg (by exact HK.out) (fun k_ e_=>(HO_0.out.1 k_ e_)));clear HO_0;clear HB;clear HK;have HO_0:=n0_;have HB:=n1_;have HK:=n2_;clear n0_ n1_ n2_;clear hg hw hp_;have p10:0≤(x5_1:Int):=of_decide_eq_true (by (with_reducible assumption));have q10:(x5_1:Int)<((x0_1.length:Int):Int):=of_decide_eq_true (by (with_reducible assumption));obtain ⟨ce10,hcl10,hM10,hcc10,hfr10⟩:=Kd.R_elem HO_0.out z42 (x5_1:Int) p10 q10;obtain rfl:=k42_openM hM10;have hx10_0:w21.cell? ⟨go6,(x5_1:Int).toNat * 6,none⟩=some (.string ((rd_T42 y586 x5_1).f0)):=hcc10 0 _ rfl;have hx10_1:w21.cell? ⟨go6,(x5_1:Int).toNat * 6+1,none⟩=some (.string ((rd_T42 y586 x5_1).f1)):=hcc10 1 _ rfl;have hx10_2:w21.cell? ⟨go6,(x5_1:Int).toNat * 6+2,none⟩=some (.int .i64 ((rd_T42 y586 x5_1).f2)):=hcc10 2 _ rfl;have hx10_3:w21.cell? ⟨go6,(x5_1:Int).toNat * 6+3,none⟩=some (.int .i64 ((rd_T42 y586 x5_1).f3)):=hcc10 3 _ rfl;have hx10_4:w21.cell? ⟨go6,(x5_1:Int).toNat * 6+4,none⟩=some (.int .i64 ((rd_T42 y586 x5_1).f4)):=hcc10 4 _ rfl;have hx10_5:w21.cell? ⟨go6,(x5_1:Int).toNat * 6+5,none⟩=some (.bool ((rd_T42 y586 x5_1).f5)):=hcc10 5 _ rfl;have hf10_0:w21.frozen? ⟨go6,(x5_1:Int).toNat * 6,none⟩=φ:=hfr10 0;have hf10_1:w21.frozen? ⟨go6,(x5_1:Int).toNat * 6+1,none⟩=φ:=hfr10 1;have hf10_2:w21.frozen? ⟨go6,(x5_1:Int).toNat * 6+2,none⟩=φ:=hfr10 2;have hf10_3:w21.frozen? ⟨go6,(x5_1:Int).toNat * 6+3,none⟩=φ:=hfr10 3;have hf10_4:w21.frozen? ⟨go6,(x5_1:Int).toNat * 6+4,none⟩=φ:=hfr10 4;have hf10_5:w21.frozen? ⟨go6,(x5_1:Int).toNat * 6+5,none⟩=φ:=hfr10 5;clear hcl10 hcc10 hfr10 hM10;replace p10:=eq_true p10;replace q10:=eq_true q10;have HX22:=ζa (show Kd.R k42 42 w21 w0.heap.size (fun k_=>(P0_ k_ ∨ w.heap.size≤k_)) (.slice (some ⟨go6,0,none⟩) x0_1.length co13) y586 from (by exact HO_0.out));obtain ⟨ce22,hcl22,hM22,hcc22,hfr22⟩:=Kd.R_elem HX22.out z42 (x5_1:Int) (of_decide_eq_true (by (with_reducible assumption))) (by have h_:(x5_1:Int)<((x0_1.length:Int):Int):=of_decide_eq_true (by (with_reducible assumption));exact h_);obtain rfl:=k42_openM hM22;have HP22:=Kd.R_seg HX22.out (x5_1:Int) (of_decide_eq_true (by (with_reducible assumption))) (by have h_:(x5_1:Int)<((x0_1.length:Int):Int):=of_decide_eq_true (by (with_reducible assumption));exact h_) (seg:=[.int .i64 (ζm ((ζm ((ζm (x1_1+1))+1))+1))]) (j:=3) hcl22 hcc22 (show 4≤6 from by decide) (x':=(⟨(rd_T42 y586 x5_1).f0,(rd_T42 y586 x5_1).f1,(rd_T42 y586 x5_1).f2,ζm ((ζm ((ζm (x1_1+1))+1))+1),(rd_T42 y586 x5_1).f4,(rd_T42 y586 x5_1).f5⟩:S42)) (k42_mkM _ _ _ (⟨(rd_T42 y586 x5_1).f0,(rd_T42 y586 x5_1).f1,(rd_T42 y586 x5_1).f2,ζm ((ζm ((ζm (x1_1+1))+1))+1),(rd_T42 y586 x5_1).f4,(rd_T42 y586 x5_1).f5⟩:S42) ) (fun _ hk=>hk);have hx22_3:=hcc22 3 _ rfl;(try simp only [show (k42).sz=6 from rfl,Nat.mul_one,Nat.add_zero] at hx22_3);have hf22_3:=hfr22 3;(try simp only [show (k42).sz=6 from rfl,Nat.mul_one,Nat.add_zero] at hf22_3);clear hcl22 hcc22 hfr22 hM22)|((with_reducible refine gate_store (t:=3) (p:=39) rfl ?_);refine store_event (t:=3) (p:=39) (v:=?vo_w23) (w1:=(w21.setCell ⟨go6,(x5_1:Int).toNat * 6+3,none⟩ (.int .i64 (ζm ((ζm ((ζm (x1_1+1))+1))+1))))) ?hg ?ho ?hn ?hr ?_;(case ho=>rfl);(case hg=>rfl);(case hn=>rfl);(case hr=>(go_simp;done));intro w23 hw;have hg:w21.grownBy w23 (some go6):=(by rw [hw];exact HP22.2);have hp_:Kd.R k42 42 w23 w0.heap.size (fun k_=>(P0_ k_ ∨ w.heap.size≤k_)) (.slice (some ⟨go6,0,none⟩) x0_1.length co13) y587:=(by rw [hw,Ny587.out];exact HP22.1);clear HP22;have n0_:=ζa (hp_);have n1_:=ζa ((by rw [hw];exact δq (HB.out) GB6.out:Below w0.heap.size w0 w23));have n2_:=ζa (Kept.of_grown (S:=(fun k_=>P0_ k_)) hg (by exact HK.out) (fun k_ e_=>(HO_0.out.1 k_ e_)));clear HO_0;clear HB;clear HK;have HO_0:=n0_;have HB:=n1_;have HK:=n2_;clear n0_ n1_ n2_;clear hg hw hp_;have p11:0≤(x5_1:Int):=of_decide_eq_true (by (with_reducible assumption));have q11:(x5_1:Int)<((x0_1.length:Int):Int):=of_decide_eq_true (by (with_reducible assumption));obtain ⟨ce11,hcl11,hM11,hcc11,hfr11⟩:=Kd.R_elem HO_0.out z42 (x5_1:Int) p11 q11;obtain rfl:=k42_openM hM11;have hx11_0:w23.cell? ⟨go6,(x5_1:Int).toNat * 6,none⟩=some (.string ((rd_T42 y587 x5_1).f0)):=hcc11 0 _ rfl;have hx11_1:w23.cell? ⟨go6,(x5_1:Int).toNat * 6+1,none⟩=some (.string ((rd_T42 y587 x5_1).f1)):=hcc11 1 _ rfl;have hx11_2:w23.cell? ⟨go6,(x5_1:Int).toNat * 6+2,none⟩=some (.int .i64 ((rd_T42 y587 x5_1).f2)):=hcc11 2 _ rfl;have hx11_3:w23.cell? ⟨go6,(x5_1:Int).toNat * 6+3,none⟩=some (.int .i64 ((rd_T42 y587 x5_1).f3)):=hcc11 3 _ rfl;have hx11_4:w23.cell? ⟨go6,(x5_1:Int).toNat * 6+4,none⟩=some (.int .i64 ((rd_T42 y587 x5_1).f4)):=hcc11 4 _ rfl;have hx11_5:w23.cell? ⟨go6,(x5_1:Int).toNat * 6+5,none⟩=some (.bool ((rd_T42 y587 x5_1).f5)):=hcc11 5 _ rfl;have hf11_0:w23.frozen? ⟨go6,(x5_1:Int).toNat * 6,none⟩=φ:=hfr11 0;have hf11_1:w23.frozen? ⟨go6,(x5_1:Int).toNat * 6+1,none⟩=φ:=hfr11 1;have hf11_2:w23.frozen? ⟨go6,(x5_1:Int).toNat * 6+2,none⟩=φ:=hfr11 2;have hf11_3:w23.frozen? ⟨go6,(x5_1:Int).toNat * 6+3,none⟩=φ:=hfr11 3;have hf11_4:w23.frozen? ⟨go6,(x5_1:Int).toNat * 6+4,none⟩=φ:=hfr11 4;have hf11_5:w23.frozen? ⟨go6,(x5_1:Int).toNat * 6+5,none⟩=φ:=hfr11 5;clear hcl11 hcc11 hfr11 hM11;replace p11:=eq_true p11;replace q11:=eq_true q11;have HX24:=ζa (show Kd.R k42 42 w23 w0.heap.size (fun k_=>(P0_ k_ ∨ w.heap.size≤k_)) (.slice (some ⟨go6,0,none⟩) x0_1.length co13) y587 from (by exact HO_0.out));obtain ⟨ce24,hcl24,hM24,hcc24,hfr24⟩:=Kd.R_elem HX24.out z42 (x5_1:Int) (of_decide_eq_true (by (with_reducible assumption))) (by have h_:(x5_1:Int)<((x0_1.length:Int):Int):=of_decide_eq_true (by (with_reducible assumption));exact h_);obtain rfl:=k42_openM hM24;have HP24:=Kd.R_seg HX24.out (x5_1:Int) (of_decide_eq_true (by (with_reducible assumption))) (by have h_:(x5_1:Int)<((x0_1.length:Int):Int):=of_decide_eq_true (by (with_reducible assumption));exact h_) (seg:=[.int .i64 (ζm ((ζm ((ζm ((ζm (x1_1+1))+1))+1))+1))]) (j:=4) hcl24 hcc24 (show 5≤6 from by decide) (x':=(⟨(rd_T42 y587 x5_1).f0,(rd_T42 y587 x5_1).f1,(rd_T42 y587 x5_1).f2,(rd_T42 y587 x5_1).f3,ζm ((ζm ((ζm ((ζm (x1_1+1))+1))+1))+1),(rd_T42 y587 x5_1).f5⟩:S42)) (k42_mkM _ _ _ (⟨(rd_T42 y587 x5_1).f0,(rd_T42 y587 x5_1).f1,(rd_T42 y587 x5_1).f2,(rd_T42 y587 x5_1).f3,ζm ((ζm ((ζm ((ζm (x1_1+1))+1))+1))+1),(rd_T42 y587 x5_1).f5⟩:S42) ) (fun _ hk=>hk);have hx24_4:=hcc24 4 _ rfl;(try simp only [show (k42).sz=6 from rfl,Nat.mul_one,Nat.add_zero] at hx24_4);have hf24_4:=hfr24 4;(try simp only [show (k42).sz=6 from rfl,Nat.mul_one,Nat.add_zero] at hf24_4);clear hcl24 hcc24 hfr24 hM24)|((with_reducible refine gate_store (t:=3) (p:=46) rfl ?_);refine store_event (t:=3) (p:=46) (v:=?vo_w25) (w1:=(w23.setCell ⟨go6,(x5_1:Int).toNat * 6+4,none⟩ (.int .i64 (ζm ((ζm ((ζm ((ζm (x1_1+1))+1))+1))+1))))) ?hg ?ho ?hn ?hr ?_;(case ho=>rfl);(case hg=>rfl);(case hn=>rfl);(case hr=>(go_simp;done));intro w25 hw;have hg:w23.grownBy w25 (some go6):=(by rw [hw];exact HP24.2);have hp_:Kd.R k42 42 w25 w0.heap.size (fun k_=>(P0_ k_ ∨ w.heap.size≤k_)) (.slice (some ⟨go6,0,none⟩) x0_1.length co13) y588:=(by rw [hw,Ny588.out];exact HP24.1);clear HP24;have n0_:=ζa (hp_);have n1_:=ζa ((by rw [hw];exact δq (HB.out) GB6.out:Below w0.heap.size w0 w25));have n2_:=ζa (Kept.of_grown (S:=(fun k_=>P0_ k_)) hg (by exact HK.out) (fun k_ e_=>(HO_0.out.1 k_ e_)));clear HO_0;clear HB;clear HK;have HO_0:=n0_;have HB:=n1_;have HK:=n2_;clear n0_ n1_ n2_;clear hg hw hp_;have p12:0≤(x5_1:Int):=of_decide_eq_true (by (with_reducible assumption));have q12:(x5_1:Int)<((x0_1.length:Int):Int):=of_decide_eq_true (by (with_reducible assumption));obtain ⟨ce12,hcl12,hM12,hcc12,hfr12⟩:=Kd.R_elem HO_0.out z42 (x5_1:Int) p12 q12;obtain rfl:=k42_openM hM12;have hx12_0:w25.cell? ⟨go6,(x5_1:Int).toNat * 6,none⟩=some (.string ((rd_T42 y588 x5_1).f0)):=hcc12 0 _ rfl;have hx12_1:w25.cell? ⟨go6,(x5_1:Int).toNat * 6+1,none⟩=some (.string ((rd_T42 y588 x5_1).f1)):=hcc12 1 _ rfl;have hx12_2:w25.cell? ⟨go6,(x5_1:Int).toNat * 6+2,none⟩=some (.int .i64 ((rd_T42 y588 x5_1).f2)):=hcc12 2 _ rfl;have hx12_3:w25.cell? ⟨go6,(x5_1:Int).toNat * 6+3,none⟩=some (.int .i64 ((rd_T42 y588 x5_1).f3)):=hcc12 3 _ rfl;have hx12_4:w25.cell? ⟨go6,(x5_1:Int).toNat * 6+4,none⟩=some (.int .i64 ((rd_T42 y588 x5_1).f4)):=hcc12 4 _ rfl;have hx12_5:w25.cell? ⟨go6,(x5_1:Int).toNat * 6+5,none⟩=some (.bool ((rd_T42 y588 x5_1).f5)):=hcc12 5 _ rfl;have hf12_0:w25.frozen? ⟨go6,(x5_1:Int).toNat * 6,none⟩=φ:=hfr12 0;have hf12_1:w25.frozen? ⟨go6,(x5_1:Int).toNat * 6+1,none⟩=φ:=hfr12 1;have hf12_2:w25.frozen? ⟨go6,(x5_1:Int).toNat * 6+2,none⟩=φ:=hfr12 2;have hf12_3:w25.frozen? ⟨go6,(x5_1:Int).toNat * 6+3,none⟩=φ:=hfr12 3;have hf12_4:w25.frozen? ⟨go6,(x5_1:Int).toNat * 6+4,none⟩=φ:=hfr12 4;have hf12_5:w25.frozen? ⟨go6,(x5_1:Int).toNat * 6+5,none⟩=φ:=hfr12 5;clear hcl12 hcc12 hfr12 hM12;replace p12:=eq_true p12;replace q12:=eq_true q12;have HX26:=ζa (show Kd.R k42 42 w25 w0.heap.size (fun k_=>(P0_ k_ ∨ w.heap.size≤k_)) (.slice (some ⟨go6,0,none⟩) x0_1.length co13) y588 from (by exact HO_0.out));obtain ⟨ce26,hcl26,hM26,hcc26,hfr26⟩:=Kd.R_elem HX26.out z42 (x5_1:Int) (of_decide_eq_true (by (with_reducible assumption))) (by have h_:(x5_1:Int)<((x0_1.length:Int):Int):=of_decide_eq_true (by (with_reducible assumption));exact h_);obtain rfl:=k42_openM hM26;have HP26:=Kd.R_seg HX26.out (x5_1:Int) (of_decide_eq_true (by (with_reducible assumption))) (by have h_:(x5_1:Int)<((x0_1.length:Int):Int):=of_decide_eq_true (by (with_reducible assumption));exact h_) (seg:=[.bool ((Int.tmod (ζm ((ζm ((ζm ((ζm ((ζm (x1_1+1))+1))+1))+1))+1)) 3) == 0)]) (j:=5) hcl26 hcc26 (show 6≤6 from by decide) (x':=(⟨(rd_T42 y588 x5_1).f0,(rd_T42 y588 x5_1).f1,(rd_T42 y588 x5_1).f2,(rd_T42 y588 x5_1).f3,(rd_T42 y588 x5_1).f4,((Int.tmod (ζm ((ζm ((ζm ((ζm ((ζm (x1_1+1))+1))+1))+1))+1)) 3) == 0)⟩:S42)) (k42_mkM _ _ _ (⟨(rd_T42 y588 x5_1).f0,(rd_T42 y588 x5_1).f1,(rd_T42 y588 x5_1).f2,(rd_T42 y588 x5_1).f3,(rd_T42 y588 x5_1).f4,((Int.tmod (ζm ((ζm ((ζm ((ζm ((ζm (x1_1+1))+1))+1))+1))+1)) 3) == 0)⟩:S42) ) (fun _ hk=>hk);have hx26_5:=hcc26 5 _ rfl;(try simp only [show (k42).sz=6 from rfl,Nat.mul_one,Nat.add_zero] at hx26_5);have hf26_5:=hfr26 5;(try simp only [show (k42).sz=6 from rfl,Nat.mul_one,Nat.add_zero] at hf26_5);clear hcl26 hcc26 hfr26 hM26)|((with_reducible refine gate_store (t:=4) (p:=55) rfl ?_);refine store_event (t:=4) (p:=55) (v:=?vo_w27) (w1:=(w25.setCell ⟨go6,(x5_1:Int).toNat * 6+5,none⟩ (.bool ((Int.tmod (ζm ((ζm ((ζm ((ζm ((ζm (x1_1+1))+1))+1))+1))+1)) 3) == 0)))) ?hg ?ho ?hn ?hr ?_;(case ho=>rfl);(case hg=>rfl);(case hn=>rfl);(case hr=>(go_simp;done));intro w27 hw;have hg:w25.grownBy w27 (some go6):=(by rw [hw];exact HP26.2);have hp_:Kd.R k42 42 w27 w0.heap.size (fun k_=>(P0_ k_ ∨ w.heap.size≤k_)) (.slice (some ⟨go6,0,none⟩) x0_1.length co13) y589:=(by rw [hw,Ny589.out];exact HP26.1);clear HP26;have n0_:=ζa (hp_);have n1_:=ζa ((by rw [hw];exact δq (HB.out) GB6.out:Below w0.heap.size w0 w27));have n2_:=ζa (Kept.of_grown (S:=(fun k_=>P0_ k_)) hg (by exact HK.out) (fun k_ e_=>(HO_0.out.1 k_ e_)));clear HO_0;clear HB;clear HK;have HO_0:=n0_;have HB:=n1_;have HK:=n2_;clear n0_ n1_ n2_;clear hg hw hp_))
     go_roundg k1
     case measure=>have:=HK1.out;omega
     case rel=>exact ⟨(y589),(ζm ((ζm ((ζm ((ζm ((ζm ((ζm (x1_1+1))+1))+1))+1))+1))+1)),(ζm (x5_1+1)),(by rfl),(by rfl),H',⟨by have:=HK1.out;omega⟩,⟨by exact HO_0.out⟩,⟨by repeat ((with_reducible exact HK.out))⟩,⟨by repeat ((with_reducible exact HB.out))⟩⟩
    ·
     rw [if_neg c5] at H
     exact absurd H (by simp)
   ·
    rw [if_neg c3] at H
    have c3b0:decide (x5_1<(x0_1.length:Int))=φ:=decide_eq_false c3
    clear c3
    simp only [Option.some.injEq,Prod.mk.injEq] at H
    obtain ⟨rfl,rfl⟩:=H
    obtain ⟨Ao28,co28,eo28⟩:=Kd.R_slice HO_0.out
    subst eo28
    go_wp2
    go_ret
    exact ⟨by rfl,by exact HO_0.out,by repeat ((with_reducible exact HB.out)),by repeat ((with_reducible exact HK.out))⟩



/-! ### laws_heldOrderS: function 31 -/
def laws_heldOrderS.l0:Nat→List (S42)→Int→Int→Option (Int)
 | 0,_,_,_=>none
 | k+1,x0,x1,x5=>if x5<(x0.length:Int) then (if 0≤x5 then ((laws_markText.f k x1).bind fun t591=>(if ((rd_T42 x0 x5).f0).toList=t591.toList then ((laws_markText.f k (ζm (x1+1))).bind fun t593=>(if ((rd_T42 x0 x5).f1).toList=t593.toList then (if ((rd_T42 x0 x5).f2)=(ζm ((ζm (x1+1))+1)) then (if ((rd_T42 x0 x5).f3)=(ζm ((ζm ((ζm (x1+1))+1))+1)) then (if ((rd_T42 x0 x5).f4)=(ζm ((ζm ((ζm ((ζm (x1+1))+1))+1))+1)) then (if (((rd_T42 x0 x5).f5) != ((Int.tmod (ζm ((ζm ((ζm ((ζm ((ζm (x1+1))+1))+1))+1))+1)) 3) == 0))=τ then (some (-1)) else (laws_heldOrderS.l0 k x0 (ζm ((ζm ((ζm ((ζm ((ζm ((ζm (x1+1))+1))+1))+1))+1))+1)) (ζm (x5+1)))) else (some (-1))) else (some (-1))) else (some (-1))) else (some (-1)))) else (some (-1)))) else (none)) else (some x1)
def laws_heldOrderS.f (k:Nat) (l0:List (S42)) (a1:Int):Option (Int):=laws_heldOrderS.l0 k l0 a1 0
def laws_heldOrderS.T4:Bool × List (List Nat × List Nat):=(τ,[([],[]),([],[]),([0,1],[0,1]),([2],[2]),([3],[3]),([],[]),([5],[5]),([4,6],[4,6])])
def laws_heldOrderS.B4:List Nat:=[0,0,3,7,15,0,32,127]
theorem laws_heldOrderS.tab4:rtab .any (opsOf Tryd.f31 4)=laws_heldOrderS.T4:=by kernel_rfl
theorem laws_heldOrderS.bits4:waitsOk laws_heldOrderS.T4.2 laws_heldOrderS.B4=τ:=by kernel_rfl
def laws_heldOrderS.T7:Bool × List (List Nat × List Nat):=(τ,[([],[]),([],[]),([0,1],[0,1]),([2],[2]),([3],[3]),([],[]),([5],[5]),([4,6],[4,6])])
def laws_heldOrderS.B7:List Nat:=[0,0,3,7,15,0,32,127]
theorem laws_heldOrderS.tab7:rtab .any (opsOf Tryd.f31 7)=laws_heldOrderS.T7:=by kernel_rfl
theorem laws_heldOrderS.bits7:waitsOk laws_heldOrderS.T7.2 laws_heldOrderS.B7=τ:=by kernel_rfl
set_option maxHeartbeats 8000000 in
set_option maxRecDepth 100000 in
theorem laws_heldOrderS.calls (k:Nat) (A0:Option Addr) (c0:Nat) (l0:List (S42)) (a1:Int) (r:Int) (w:World) (hr0:Kd.C k42 w A0 l0.length l0) (hc0:l0.length≤c0) (h:laws_heldOrderS.f k l0 a1=some r) :
  Calls Tryd.prog 31 #[.slice A0 l0.length c0,.int .i64 a1] w fun e w'=>e = .returned (.int .i64 r)∧Below w.heap.size w w':=by
 have HR0:=ζa hr0
 have HC0:=ζa hc0
 clear hr0 hc0
 have HB:=ζa (Below.refl w.heap.size w)
 have H:(laws_heldOrderS.l0 k l0 a1 0)=some r:=h
 clear h
 have H':=ζa H
 clear H
 go_enter Tryd.func31,Tryd.ntmps31
 go_wp2
 go_loopg [1,5] k (fun kq v1 v5 w' => ∃ (x1_1:Int) (x5_1:Int),v1 = .int .i64 x1_1∧v5 = .int .i64 x5_1∧Aside0 (laws_heldOrderS.l0 kq l0 x1_1 x5_1=some r)∧Aside0 (kq≤k)∧Aside0 (Below w.heap.size w w'))
 case atStart=>exact ⟨(a1),(0),(by rfl),(by rfl),H',⟨Nat.le_refl _⟩,⟨by repeat ((with_reducible exact HB.out))⟩⟩
 case round =>
  clear H'
  try clear p2
  obtain ⟨x1_1,x5_1,rfl,rfl,HA,HK1,HB⟩:=hrel
  cases gk with
  | zero=>exact absurd HA.out (by simp [laws_heldOrderS.l0])
  | succ k1 =>
   have H:=HA.out
   clear HA
   simp only [laws_heldOrderS.l0] at H
   by_cases c3:x5_1<(l0.length:Int)
   ·
    rw [if_pos c3] at H
    have c3b0:decide (x5_1<(l0.length:Int))=τ:=decide_eq_true c3
    clear c3
    by_cases c4:0≤x5_1
    ·
     rw [if_pos c4] at H
     have c4b0:decide (0≤x5_1)=τ:=decide_eq_true c4
     clear c4
     replace H:=Option.bind_eq_some_iff.mp H
     obtain ⟨t591,A50,H⟩:=H
     replace H:(if ((rd_T42 l0 x5_1).f0).toList=t591.toList then ((laws_markText.f k1 (ζm (x1_1+1))).bind fun t593=>(if ((rd_T42 l0 x5_1).f1).toList=t593.toList then (if ((rd_T42 l0 x5_1).f2)=(ζm ((ζm (x1_1+1))+1)) then (if ((rd_T42 l0 x5_1).f3)=(ζm ((ζm ((ζm (x1_1+1))+1))+1)) then (if ((rd_T42 l0 x5_1).f4)=(ζm ((ζm ((ζm ((ζm (x1_1+1))+1))+1))+1)) then (if (((rd_T42 l0 x5_1).f5) != ((Int.tmod (ζm ((ζm ((ζm ((ζm ((ζm (x1_1+1))+1))+1))+1))+1)) 3) == 0))=τ then (some (-1)) else (laws_heldOrderS.l0 k1 l0 (ζm ((ζm ((ζm ((ζm ((ζm ((ζm (x1_1+1))+1))+1))+1))+1))+1)) (ζm (x5_1+1)))) else (some (-1))) else (some (-1))) else (some (-1))) else (some (-1)))) else (some (-1)))=some r:=H
     have A5:=ζa A50
     clear A50
     by_cases c6:((rd_T42 l0 x5_1).f0).toList=t591.toList
     ·
      rw [if_pos c6] at H
      have c6b0:(((rd_T42 l0 x5_1).f0).toList == t591.toList)=τ:=beq_iff_eq.mpr c6
      have c6b1:(((rd_T42 l0 x5_1).f0).toList != t591.toList)=φ:=bne_eq_false_iff_eq.mpr c6
      clear c6
      replace H:=Option.bind_eq_some_iff.mp H
      obtain ⟨t593,A70,H⟩:=H
      replace H:(if ((rd_T42 l0 x5_1).f1).toList=t593.toList then (if ((rd_T42 l0 x5_1).f2)=(ζm ((ζm (x1_1+1))+1)) then (if ((rd_T42 l0 x5_1).f3)=(ζm ((ζm ((ζm (x1_1+1))+1))+1)) then (if ((rd_T42 l0 x5_1).f4)=(ζm ((ζm ((ζm ((ζm (x1_1+1))+1))+1))+1)) then (if (((rd_T42 l0 x5_1).f5) != ((Int.tmod (ζm ((ζm ((ζm ((ζm ((ζm (x1_1+1))+1))+1))+1))+1)) 3) == 0))=τ then (some (-1)) else (laws_heldOrderS.l0 k1 l0 (ζm ((ζm ((ζm ((ζm ((ζm ((ζm (x1_1+1))+1))+1))+1))+1))+1)) (ζm (x5_1+1)))) else (some (-1))) else (some (-1))) else (some (-1))) else (some (-1)))=some r:=H
      have A7:=ζa A70
      clear A70
      by_cases c8:((rd_T42 l0 x5_1).f1).toList=t593.toList
      ·
       rw [if_pos c8] at H
       have c8b0:(((rd_T42 l0 x5_1).f1).toList == t593.toList)=τ:=beq_iff_eq.mpr c8
       have c8b1:(((rd_T42 l0 x5_1).f1).toList != t593.toList)=φ:=bne_eq_false_iff_eq.mpr c8
       clear c8
       by_cases c9:((rd_T42 l0 x5_1).f2)=(ζm ((ζm (x1_1+1))+1))
       ·
        rw [if_pos c9] at H
        have c9b0:(((rd_T42 l0 x5_1).f2) == (ζm ((ζm (x1_1+1))+1)))=τ:=beq_iff_eq.mpr c9
        have c9b1:(((rd_T42 l0 x5_1).f2) != (ζm ((ζm (x1_1+1))+1)))=φ:=bne_eq_false_iff_eq.mpr c9
        clear c9
        by_cases c10:((rd_T42 l0 x5_1).f3)=(ζm ((ζm ((ζm (x1_1+1))+1))+1))
        ·
         rw [if_pos c10] at H
         have c10b0:(((rd_T42 l0 x5_1).f3) == (ζm ((ζm ((ζm (x1_1+1))+1))+1)))=τ:=beq_iff_eq.mpr c10
         have c10b1:(((rd_T42 l0 x5_1).f3) != (ζm ((ζm ((ζm (x1_1+1))+1))+1)))=φ:=bne_eq_false_iff_eq.mpr c10
         clear c10
         by_cases c11:((rd_T42 l0 x5_1).f4)=(ζm ((ζm ((ζm ((ζm (x1_1+1))+1))+1))+1))
         ·
          rw [if_pos c11] at H
          have c11b0:(((rd_T42 l0 x5_1).f4) == (ζm ((ζm ((ζm ((ζm (x1_1+1))+1))+1))+1)))=τ:=beq_iff_eq.mpr c11
          have c11b1:(((rd_T42 l0 x5_1).f4) != (ζm ((ζm ((ζm ((ζm (x1_1+1))+1))+1))+1)))=φ:=bne_eq_false_iff_eq.mpr c11
          clear c11
          by_cases c12:(((rd_T42 l0 x5_1).f5) != ((Int.tmod (ζm ((ζm ((ζm ((ζm ((ζm (x1_1+1))+1))+1))+1))+1)) 3) == 0))=τ
          ·
           rw [if_pos c12] at H
           have c12b0:(((rd_T42 l0 x5_1).f5) != ((Int.tmod (ζm ((ζm ((ζm ((ζm ((ζm (x1_1+1))+1))+1))+1))+1)) 3) == 0))=τ:=c12
           (try (have c12b1:decide (((rd_T42 l0 x5_1).f5)=((Int.tmod (ζm ((ζm ((ζm ((ζm ((ζm (x1_1+1))+1))+1))+1))+1)) 3) == 0))=φ:=by simpa using c12))
           (try (have c12b2:(((rd_T42 l0 x5_1).f5) == ((Int.tmod (ζm ((ζm ((ζm ((ζm ((ζm (x1_1+1))+1))+1))+1))+1)) 3) == 0))=φ:=by simpa using c12))
           (try (have c12b3 : ¬ (((rd_T42 l0 x5_1).f5)=((Int.tmod (ζm ((ζm ((ζm ((ζm ((ζm (x1_1+1))+1))+1))+1))+1)) 3) == 0)):=by simpa using c12))
           clear c12
           obtain rfl:=Option.some.inj H
           try go_wp2
           have n0_:=ζa (δj HB.out)
           clear HB
           have HB:=n0_
           clear n0_
           have p590:0≤(x5_1:Int):=of_decide_eq_true (by (with_reducible assumption))
           have q590:x5_1<(l0.length:Int):=of_decide_eq_true (by (with_reducible assumption))
           obtain ⟨ad590,e590,hx590_0,hx590_1,hx590_2,hx590_3,hx590_4,hx590_5⟩:=at_T42 HR0.out x5_1 p590 q590
           have hw590_5:=hx590_5
           have hw590_4:=hx590_4
           have hw590_3:=hx590_3
           have hw590_2:=hx590_2
           have hw590_1:=hx590_1
           have hw590_0:=hx590_0
           cases e590
           replace hx590_0:=(HB.out.cell (World.block_lt_of_cell? w _ hx590_0)).trans hx590_0
           replace hx590_1:=(HB.out.cell (World.block_lt_of_cell? w _ hx590_1)).trans hx590_1
           replace hx590_2:=(HB.out.cell (World.block_lt_of_cell? w _ hx590_2)).trans hx590_2
           replace hx590_3:=(HB.out.cell (World.block_lt_of_cell? w _ hx590_3)).trans hx590_3
           replace hx590_4:=(HB.out.cell (World.block_lt_of_cell? w _ hx590_4)).trans hx590_4
           replace hx590_5:=(HB.out.cell (World.block_lt_of_cell? w _ hx590_5)).trans hx590_5
           replace p590:=eq_true p590
           replace q590:=eq_true q590
           refine start_ (n:=8) (S:=fun w'=>w'.cell? (ad590.add ((x5_1).toNat * 6))=some (.string ((rd_T42 l0 x5_1).f0))∧w'.cell? ⟨(ad590.add ((x5_1).toNat * 6)).block,(ad590.add ((x5_1).toNat * 6)).off+1,none⟩=some (.string ((rd_T42 l0 x5_1).f1))∧w'.cell? ⟨(ad590.add ((x5_1).toNat * 6)).block,(ad590.add ((x5_1).toNat * 6)).off+2,none⟩=some (.int .i64 ((rd_T42 l0 x5_1).f2))∧w'.cell? ⟨(ad590.add ((x5_1).toNat * 6)).block,(ad590.add ((x5_1).toNat * 6)).off+3,none⟩=some (.int .i64 ((rd_T42 l0 x5_1).f3))∧w'.cell? ⟨(ad590.add ((x5_1).toNat * 6)).block,(ad590.add ((x5_1).toNat * 6)).off+4,none⟩=some (.int .i64 ((rd_T42 l0 x5_1).f4))∧w'.cell? ⟨(ad590.add ((x5_1).toNat * 6)).block,(ad590.add ((x5_1).toNat * 6)).off+5,none⟩=some (.bool ((rd_T42 l0 x5_1).f5))) (ds:=[]) #[φ,φ,φ,φ,φ,φ,φ,φ] (by kernel_rfl) rfl rfl ⟨((HB.out.cell (World.block_lt_of_cell? w _ hw590_0)).trans hw590_0),((HB.out.cell (World.block_lt_of_cell? w _ hw590_1)).trans hw590_1),((HB.out.cell (World.block_lt_of_cell? w _ hw590_2)).trans hw590_2),((HB.out.cell (World.block_lt_of_cell? w _ hw590_3)).trans hw590_3),((HB.out.cell (World.block_lt_of_cell? w _ hw590_4)).trans hw590_4),((HB.out.cell (World.block_lt_of_cell? w _ hw590_5)).trans hw590_5)⟩ (fun hHeld => ?_);refine with_tabW laws_heldOrderS.tab4 laws_heldOrderS.bits4 (fun HT_ HW_ => ?_)
           generalize wr.drew=w13 at HB hx590_0 hx590_1 hx590_2 hx590_3 hx590_4 hx590_5 hHeld ⊢
           refine ζk (i:=0) (N:=some 12) (v:=?_) (a':=?_) #[τ,φ,φ,φ,φ,φ,φ,φ] rfl rfl (ζj HT_.out (by kernel_rfl)) (fun _ _ _ h=>h) (Or.inl ⟨by rfl,?_⟩) ?_ ?_
           rotate_left
           · intro w';go_simp;with_reducible rfl
           rotate_left
           · simp only [ζl,δa,δb,δc,i64_w,i32_w];rfl
           refine ζk (i:=1) (N:=some 13) (v:=?_) (a':=?_) #[τ,τ,φ,φ,φ,φ,φ,φ] rfl rfl (ζj HT_.out (by kernel_rfl)) (fun _ _ _ h=>h) (Or.inl ⟨by rfl,?_⟩) ?_ ?_
           rotate_left
           · intro w';go_simp;with_reducible rfl
           rotate_left
           · simp only [ζl,δa,δb,δc,i64_w,i32_w];rfl
           refine ζk (i:=2) (N:=some 14) (v:=?_) (a':=?_) #[τ,τ,τ,φ,φ,φ,φ,φ] rfl rfl (ζj HT_.out (by kernel_rfl)) (fun _ _ _ h=>h) (Or.inl ⟨by rfl,?_⟩) ?_ ?_
           rotate_left
           · intro w';go_simp;with_reducible rfl
           rotate_left
           · simp only [ζl,δa,δb,δc,i64_w,i32_w];rfl
           refine ζk (i:=3) (N:=some 15) (v:=?_) (a':=?_) #[τ,τ,τ,τ,φ,φ,φ,φ] rfl rfl (ζj HT_.out (by kernel_rfl)) (fun _ _ _ h=>h) (Or.inl ⟨by rfl,?_⟩) ?_ ?_
           rotate_left
           · intro w';go_simp;with_reducible rfl
           rotate_left
           · simp only [ζl,δa,δb,δc,i64_w,i32_w];rfl
           refine ζk (i:=5) (N:=some 17) (v:=?_) (a':=?_) #[τ,τ,τ,τ,φ,τ,φ,φ] rfl rfl (ζj HT_.out (by kernel_rfl)) (fun _ _ _ h=>h) (Or.inl ⟨by rfl,?_⟩) ?_ ?_
           rotate_left
           · intro w';go_simp;with_reducible rfl
           rotate_left
           · simp only [ζl,δa,δb,δc,i64_w,i32_w];rfl
           refine take_ (i:=4) (N:=some 16) (v:=?_) (a':=?_) #[τ,τ,τ,τ,τ,τ,φ,φ] rfl rfl (take_ofW HT_.out HW_.out (by kernel_rfl)) (fun _ _ _ h=>h) (Or.inl ⟨by rfl,?_⟩) hHeld ?_ ?_
           rotate_left
           · rintro w' ⟨s0,s1,s2,s3,s4,s5⟩;go_simp;with_reducible rfl
           rotate_left
           · simp only [ζl,δa,δb,δc,i64_w,i32_w];rfl
           refine one_ (i:=6) (N:=some 18) #[τ,τ,τ,τ,τ,τ,τ,φ] rfl rfl (one_of HT_.out (by kernel_rfl)) (by decide) (fun K hK => ?_)
           refine goes_ Tryd.func60 (by kernel_rfl) rfl #[.int .i64 x1_1] (by rfl) rfl rfl (by (try simp only [δd,δe,δf]);rfl) ?_
           with_reducible refine (laws_markText.calls k1 x1_1 t591 _ A5.out).mono ?_
           rintro e w14 ⟨rfl,hb⟩
           refine ⟨_,rfl,?_⟩
           have n0_:=ζa (δr (by exact HB.out) hb)
           clear HB
           have HB:=n0_
           clear n0_
           (try clear hb)
           (try clear hb2)
           (try clear hk)
           (try clear hi)
           refine hK.out _ _ ⟨((HB.out.cell (World.block_lt_of_cell? w _ hw590_0)).trans hw590_0),((HB.out.cell (World.block_lt_of_cell? w _ hw590_1)).trans hw590_1),((HB.out.cell (World.block_lt_of_cell? w _ hw590_2)).trans hw590_2),((HB.out.cell (World.block_lt_of_cell? w _ hw590_3)).trans hw590_3),((HB.out.cell (World.block_lt_of_cell? w _ hw590_4)).trans hw590_4),((HB.out.cell (World.block_lt_of_cell? w _ hw590_5)).trans hw590_5)⟩ (fun hHeld => ?_)
           clear hK K
           refine norm_ (a':=?_) ?_ ?_
           rotate_left
           ·
            show ζl _ (some 18) _=_
            simp only [ζl,δa,δb,δc,i64_w,i32_w];rfl
           refine ζk (i:=7) (N:=some 19) (v:=?_) (a':=?_) #[τ,τ,τ,τ,τ,τ,τ,τ] rfl rfl (ζj HT_.out (by kernel_rfl)) (fun _ _ _ h=>h) (Or.inl ⟨by rfl,?_⟩) ?_ ?_
           rotate_left
           · intro w';go_simp;with_reducible rfl
           rotate_left
           · simp only [ζl,δa,δb,δc,i64_w,i32_w];rfl
           refine done_ (done_of HT_.out (by kernel_rfl)) ?_
           try go_wp2
           have n0_:=ζa (δj HB.out)
           clear HB
           have HB:=n0_
           clear n0_
           have p592:0≤(x5_1:Int):=of_decide_eq_true (by (with_reducible assumption))
           have q592:x5_1<(l0.length:Int):=of_decide_eq_true (by (with_reducible assumption))
           obtain ⟨ad592,e592,hx592_0,hx592_1,hx592_2,hx592_3,hx592_4,hx592_5⟩:=at_T42 HR0.out x5_1 p592 q592
           have hw592_5:=hx592_5
           have hw592_4:=hx592_4
           have hw592_3:=hx592_3
           have hw592_2:=hx592_2
           have hw592_1:=hx592_1
           have hw592_0:=hx592_0
           obtain rfl:ad590=ad592:=(by injection e592)
           replace hx592_0:=(HB.out.cell (World.block_lt_of_cell? w _ hx592_0)).trans hx592_0
           replace hx592_1:=(HB.out.cell (World.block_lt_of_cell? w _ hx592_1)).trans hx592_1
           replace hx592_2:=(HB.out.cell (World.block_lt_of_cell? w _ hx592_2)).trans hx592_2
           replace hx592_3:=(HB.out.cell (World.block_lt_of_cell? w _ hx592_3)).trans hx592_3
           replace hx592_4:=(HB.out.cell (World.block_lt_of_cell? w _ hx592_4)).trans hx592_4
           replace hx592_5:=(HB.out.cell (World.block_lt_of_cell? w _ hx592_5)).trans hx592_5
           replace p592:=eq_true p592
           replace q592:=eq_true q592
           refine start_ (n:=8) (S:=fun w'=>w'.cell? (ad590.add ((x5_1).toNat * 6))=some (.string ((rd_T42 l0 x5_1).f0))∧w'.cell? ⟨(ad590.add ((x5_1).toNat * 6)).block,(ad590.add ((x5_1).toNat * 6)).off+1,none⟩=some (.string ((rd_T42 l0 x5_1).f1))∧w'.cell? ⟨(ad590.add ((x5_1).toNat * 6)).block,(ad590.add ((x5_1).toNat * 6)).off+2,none⟩=some (.int .i64 ((rd_T42 l0 x5_1).f2))∧w'.cell? ⟨(ad590.add ((x5_1).toNat * 6)).block,(ad590.add ((x5_1).toNat * 6)).off+3,none⟩=some (.int .i64 ((rd_T42 l0 x5_1).f3))∧w'.cell? ⟨(ad590.add ((x5_1).toNat * 6)).block,(ad590.add ((x5_1).toNat * 6)).off+4,none⟩=some (.int .i64 ((rd_T42 l0 x5_1).f4))∧w'.cell? ⟨(ad590.add ((x5_1).toNat * 6)).block,(ad590.add ((x5_1).toNat * 6)).off+5,none⟩=some (.bool ((rd_T42 l0 x5_1).f5))) (ds:=[]) #[φ,φ,φ,φ,φ,φ,φ,φ] (by kernel_rfl) rfl rfl ⟨((HB.out.cell (World.block_lt_of_cell? w _ hw592_0)).trans hw592_0),((HB.out.cell (World.block_lt_of_cell? w _ hw592_1)).trans hw592_1),((HB.out.cell (World.block_lt_of_cell? w _ hw592_2)).trans hw592_2),((HB.out.cell (World.block_lt_of_cell? w _ hw592_3)).trans hw592_3),((HB.out.cell (World.block_lt_of_cell? w _ hw592_4)).trans hw592_4),((HB.out.cell (World.block_lt_of_cell? w _ hw592_5)).trans hw592_5)⟩ (fun hHeld => ?_);refine with_tabW laws_heldOrderS.tab7 laws_heldOrderS.bits7 (fun HT_ HW_ => ?_)
           generalize w14.drew=w15 at HB hx592_0 hx592_1 hx592_2 hx592_3 hx592_4 hx592_5 hHeld ⊢
           refine ζk (i:=0) (N:=some 22) (v:=?_) (a':=?_) #[τ,φ,φ,φ,φ,φ,φ,φ] rfl rfl (ζj HT_.out (by kernel_rfl)) (fun _ _ _ h=>h) (Or.inl ⟨by rfl,?_⟩) ?_ ?_
           rotate_left
           · intro w';go_simp;with_reducible rfl
           rotate_left
           · simp only [ζl,δa,δb,δc,i64_w,i32_w];rfl
           refine ζk (i:=1) (N:=some 23) (v:=?_) (a':=?_) #[τ,τ,φ,φ,φ,φ,φ,φ] rfl rfl (ζj HT_.out (by kernel_rfl)) (fun _ _ _ h=>h) (Or.inl ⟨by rfl,?_⟩) ?_ ?_
           rotate_left
           · intro w';go_simp;with_reducible rfl
           rotate_left
           · simp only [ζl,δa,δb,δc,i64_w,i32_w];rfl
           refine ζk (i:=2) (N:=some 24) (v:=?_) (a':=?_) #[τ,τ,τ,φ,φ,φ,φ,φ] rfl rfl (ζj HT_.out (by kernel_rfl)) (fun _ _ _ h=>h) (Or.inl ⟨by rfl,?_⟩) ?_ ?_
           rotate_left
           · intro w';go_simp;with_reducible rfl
           rotate_left
           · simp only [ζl,δa,δb,δc,i64_w,i32_w];rfl
           refine ζk (i:=3) (N:=some 25) (v:=?_) (a':=?_) #[τ,τ,τ,τ,φ,φ,φ,φ] rfl rfl (ζj HT_.out (by kernel_rfl)) (fun _ _ _ h=>h) (Or.inl ⟨by rfl,?_⟩) ?_ ?_
           rotate_left
           · intro w';go_simp;with_reducible rfl
           rotate_left
           · simp only [ζl,δa,δb,δc,i64_w,i32_w];rfl
           refine ζk (i:=5) (N:=some 27) (v:=?_) (a':=?_) #[τ,τ,τ,τ,φ,τ,φ,φ] rfl rfl (ζj HT_.out (by kernel_rfl)) (fun _ _ _ h=>h) (Or.inl ⟨by rfl,?_⟩) ?_ ?_
           rotate_left
           · intro w';go_simp;with_reducible rfl
           rotate_left
           · simp only [ζl,δa,δb,δc,i64_w,i32_w];rfl
           refine take_ (i:=4) (N:=some 26) (v:=?_) (a':=?_) #[τ,τ,τ,τ,τ,τ,φ,φ] rfl rfl (take_ofW HT_.out HW_.out (by kernel_rfl)) (fun _ _ _ h=>h) (Or.inl ⟨by rfl,?_⟩) hHeld ?_ ?_
           rotate_left
           · rintro w' ⟨s0,s1,s2,s3,s4,s5⟩;go_simp;with_reducible rfl
           rotate_left
           · simp only [ζl,δa,δb,δc,i64_w,i32_w];rfl
           refine one_ (i:=6) (N:=some 28) #[τ,τ,τ,τ,τ,τ,τ,φ] rfl rfl (one_of HT_.out (by kernel_rfl)) (by decide) (fun K hK => ?_)
           refine goes_ Tryd.func60 (by kernel_rfl) rfl #[.int .i64 (ζm (x1_1+1))] (by rfl) rfl rfl (by (try simp only [δd,δe,δf]);rfl) ?_
           with_reducible refine (laws_markText.calls k1 (ζm (x1_1+1)) t593 _ A7.out).mono ?_
           rintro e w16 ⟨rfl,hb⟩
           refine ⟨_,rfl,?_⟩
           have n0_:=ζa (δr (by exact HB.out) hb)
           clear HB
           have HB:=n0_
           clear n0_
           (try clear hb)
           (try clear hb2)
           (try clear hk)
           (try clear hi)
           refine hK.out _ _ ⟨((HB.out.cell (World.block_lt_of_cell? w _ hw592_0)).trans hw592_0),((HB.out.cell (World.block_lt_of_cell? w _ hw592_1)).trans hw592_1),((HB.out.cell (World.block_lt_of_cell? w _ hw592_2)).trans hw592_2),((HB.out.cell (World.block_lt_of_cell? w _ hw592_3)).trans hw592_3),((HB.out.cell (World.block_lt_of_cell? w _ hw592_4)).trans hw592_4),((HB.out.cell (World.block_lt_of_cell? w _ hw592_5)).trans hw592_5)⟩ (fun hHeld => ?_)
           clear hK K
           refine norm_ (a':=?_) ?_ ?_
           rotate_left
           ·
            show ζl _ (some 28) _=_
            simp only [ζl,δa,δb,δc,i64_w,i32_w];rfl
           refine ζk (i:=7) (N:=some 29) (v:=?_) (a':=?_) #[τ,τ,τ,τ,τ,τ,τ,τ] rfl rfl (ζj HT_.out (by kernel_rfl)) (fun _ _ _ h=>h) (Or.inl ⟨by rfl,?_⟩) ?_ ?_
           rotate_left
           · intro w';go_simp;with_reducible rfl
           rotate_left
           · simp only [ζl,δa,δb,δc,i64_w,i32_w];rfl
           refine done_ (done_of HT_.out (by kernel_rfl)) ?_
           have p594:0≤(x5_1:Int):=of_decide_eq_true (by (with_reducible assumption))
           have q594:x5_1<(l0.length:Int):=of_decide_eq_true (by (with_reducible assumption))
           obtain ⟨ad594,e594,hx594_0,hx594_1,hx594_2,hx594_3,hx594_4,hx594_5⟩:=at_T42 HR0.out x5_1 p594 q594
           obtain rfl:ad590=ad594:=(by injection e594)
           replace hx594_0:=(HB.out.cell (World.block_lt_of_cell? w _ hx594_0)).trans hx594_0
           replace hx594_1:=(HB.out.cell (World.block_lt_of_cell? w _ hx594_1)).trans hx594_1
           replace hx594_2:=(HB.out.cell (World.block_lt_of_cell? w _ hx594_2)).trans hx594_2
           replace hx594_3:=(HB.out.cell (World.block_lt_of_cell? w _ hx594_3)).trans hx594_3
           replace hx594_4:=(HB.out.cell (World.block_lt_of_cell? w _ hx594_4)).trans hx594_4
           replace hx594_5:=(HB.out.cell (World.block_lt_of_cell? w _ hx594_5)).trans hx594_5
           replace p594:=eq_true p594
           replace q594:=eq_true q594
           have p595:0≤(x5_1:Int):=of_decide_eq_true (by (with_reducible assumption))
           have q595:x5_1<(l0.length:Int):=of_decide_eq_true (by (with_reducible assumption))
           obtain ⟨ad595,e595,hx595_0,hx595_1,hx595_2,hx595_3,hx595_4,hx595_5⟩:=at_T42 HR0.out x5_1 p595 q595
           obtain rfl:ad590=ad595:=(by injection e595)
           replace hx595_0:=(HB.out.cell (World.block_lt_of_cell? w _ hx595_0)).trans hx595_0
           replace hx595_1:=(HB.out.cell (World.block_lt_of_cell? w _ hx595_1)).trans hx595_1
           replace hx595_2:=(HB.out.cell (World.block_lt_of_cell? w _ hx595_2)).trans hx595_2
           replace hx595_3:=(HB.out.cell (World.block_lt_of_cell? w _ hx595_3)).trans hx595_3
           replace hx595_4:=(HB.out.cell (World.block_lt_of_cell? w _ hx595_4)).trans hx595_4
           replace hx595_5:=(HB.out.cell (World.block_lt_of_cell? w _ hx595_5)).trans hx595_5
           replace p595:=eq_true p595
           replace q595:=eq_true q595
           have p596:0≤(x5_1:Int):=of_decide_eq_true (by (with_reducible assumption))
           have q596:x5_1<(l0.length:Int):=of_decide_eq_true (by (with_reducible assumption))
           obtain ⟨ad596,e596,hx596_0,hx596_1,hx596_2,hx596_3,hx596_4,hx596_5⟩:=at_T42 HR0.out x5_1 p596 q596
           obtain rfl:ad590=ad596:=(by injection e596)
           replace hx596_0:=(HB.out.cell (World.block_lt_of_cell? w _ hx596_0)).trans hx596_0
           replace hx596_1:=(HB.out.cell (World.block_lt_of_cell? w _ hx596_1)).trans hx596_1
           replace hx596_2:=(HB.out.cell (World.block_lt_of_cell? w _ hx596_2)).trans hx596_2
           replace hx596_3:=(HB.out.cell (World.block_lt_of_cell? w _ hx596_3)).trans hx596_3
           replace hx596_4:=(HB.out.cell (World.block_lt_of_cell? w _ hx596_4)).trans hx596_4
           replace hx596_5:=(HB.out.cell (World.block_lt_of_cell? w _ hx596_5)).trans hx596_5
           replace p596:=eq_true p596
           replace q596:=eq_true q596
           have p597:0≤(x5_1:Int):=of_decide_eq_true (by (with_reducible assumption))
           have q597:x5_1<(l0.length:Int):=of_decide_eq_true (by (with_reducible assumption))
           obtain ⟨ad597,e597,hx597_0,hx597_1,hx597_2,hx597_3,hx597_4,hx597_5⟩:=at_T42 HR0.out x5_1 p597 q597
           obtain rfl:ad590=ad597:=(by injection e597)
           replace hx597_0:=(HB.out.cell (World.block_lt_of_cell? w _ hx597_0)).trans hx597_0
           replace hx597_1:=(HB.out.cell (World.block_lt_of_cell? w _ hx597_1)).trans hx597_1
           replace hx597_2:=(HB.out.cell (World.block_lt_of_cell? w _ hx597_2)).trans hx597_2
           replace hx597_3:=(HB.out.cell (World.block_lt_of_cell? w _ hx597_3)).trans hx597_3
           replace hx597_4:=(HB.out.cell (World.block_lt_of_cell? w _ hx597_4)).trans hx597_4
           replace hx597_5:=(HB.out.cell (World.block_lt_of_cell? w _ hx597_5)).trans hx597_5
           replace p597:=eq_true p597
           replace q597:=eq_true q597
           try go_wp2
           go_ret
           exact ⟨by rfl,by repeat ((with_reducible exact HB.out))⟩
          ·
           rw [if_neg c12] at H
           have c12b0:(((rd_T42 l0 x5_1).f5) != ((Int.tmod (ζm ((ζm ((ζm ((ζm ((ζm (x1_1+1))+1))+1))+1))+1)) 3) == 0))=φ:=by simpa using c12
           (try (have c12b1:decide (((rd_T42 l0 x5_1).f5)=((Int.tmod (ζm ((ζm ((ζm ((ζm ((ζm (x1_1+1))+1))+1))+1))+1)) 3) == 0))=τ:=by simpa using c12))
           (try (have c12b2:(((rd_T42 l0 x5_1).f5) == ((Int.tmod (ζm ((ζm ((ζm ((ζm ((ζm (x1_1+1))+1))+1))+1))+1)) 3) == 0))=τ:=by simpa using c12))
           clear c12
           have H':=ζa H
           clear H
           try go_wp2
           have n0_:=ζa (δj HB.out)
           clear HB
           have HB:=n0_
           clear n0_
           have p590:0≤(x5_1:Int):=of_decide_eq_true (by (with_reducible assumption))
           have q590:x5_1<(l0.length:Int):=of_decide_eq_true (by (with_reducible assumption))
           obtain ⟨ad590,e590,hx590_0,hx590_1,hx590_2,hx590_3,hx590_4,hx590_5⟩:=at_T42 HR0.out x5_1 p590 q590
           have hw590_5:=hx590_5
           have hw590_4:=hx590_4
           have hw590_3:=hx590_3
           have hw590_2:=hx590_2
           have hw590_1:=hx590_1
           have hw590_0:=hx590_0
           cases e590
           replace hx590_0:=(HB.out.cell (World.block_lt_of_cell? w _ hx590_0)).trans hx590_0
           replace hx590_1:=(HB.out.cell (World.block_lt_of_cell? w _ hx590_1)).trans hx590_1
           replace hx590_2:=(HB.out.cell (World.block_lt_of_cell? w _ hx590_2)).trans hx590_2
           replace hx590_3:=(HB.out.cell (World.block_lt_of_cell? w _ hx590_3)).trans hx590_3
           replace hx590_4:=(HB.out.cell (World.block_lt_of_cell? w _ hx590_4)).trans hx590_4
           replace hx590_5:=(HB.out.cell (World.block_lt_of_cell? w _ hx590_5)).trans hx590_5
           replace p590:=eq_true p590
           replace q590:=eq_true q590
           refine start_ (n:=8) (S:=fun w'=>w'.cell? (ad590.add ((x5_1).toNat * 6))=some (.string ((rd_T42 l0 x5_1).f0))∧w'.cell? ⟨(ad590.add ((x5_1).toNat * 6)).block,(ad590.add ((x5_1).toNat * 6)).off+1,none⟩=some (.string ((rd_T42 l0 x5_1).f1))∧w'.cell? ⟨(ad590.add ((x5_1).toNat * 6)).block,(ad590.add ((x5_1).toNat * 6)).off+2,none⟩=some (.int .i64 ((rd_T42 l0 x5_1).f2))∧w'.cell? ⟨(ad590.add ((x5_1).toNat * 6)).block,(ad590.add ((x5_1).toNat * 6)).off+3,none⟩=some (.int .i64 ((rd_T42 l0 x5_1).f3))∧w'.cell? ⟨(ad590.add ((x5_1).toNat * 6)).block,(ad590.add ((x5_1).toNat * 6)).off+4,none⟩=some (.int .i64 ((rd_T42 l0 x5_1).f4))∧w'.cell? ⟨(ad590.add ((x5_1).toNat * 6)).block,(ad590.add ((x5_1).toNat * 6)).off+5,none⟩=some (.bool ((rd_T42 l0 x5_1).f5))) (ds:=[]) #[φ,φ,φ,φ,φ,φ,φ,φ] (by kernel_rfl) rfl rfl ⟨((HB.out.cell (World.block_lt_of_cell? w _ hw590_0)).trans hw590_0),((HB.out.cell (World.block_lt_of_cell? w _ hw590_1)).trans hw590_1),((HB.out.cell (World.block_lt_of_cell? w _ hw590_2)).trans hw590_2),((HB.out.cell (World.block_lt_of_cell? w _ hw590_3)).trans hw590_3),((HB.out.cell (World.block_lt_of_cell? w _ hw590_4)).trans hw590_4),((HB.out.cell (World.block_lt_of_cell? w _ hw590_5)).trans hw590_5)⟩ (fun hHeld => ?_);refine with_tabW laws_heldOrderS.tab4 laws_heldOrderS.bits4 (fun HT_ HW_ => ?_)
           generalize wr.drew=w17 at HB hx590_0 hx590_1 hx590_2 hx590_3 hx590_4 hx590_5 hHeld ⊢
           refine ζk (i:=0) (N:=some 12) (v:=?_) (a':=?_) #[τ,φ,φ,φ,φ,φ,φ,φ] rfl rfl (ζj HT_.out (by kernel_rfl)) (fun _ _ _ h=>h) (Or.inl ⟨by rfl,?_⟩) ?_ ?_
           rotate_left
           · intro w';go_simp;with_reducible rfl
           rotate_left
           · simp only [ζl,δa,δb,δc,i64_w,i32_w];rfl
           refine ζk (i:=1) (N:=some 13) (v:=?_) (a':=?_) #[τ,τ,φ,φ,φ,φ,φ,φ] rfl rfl (ζj HT_.out (by kernel_rfl)) (fun _ _ _ h=>h) (Or.inl ⟨by rfl,?_⟩) ?_ ?_
           rotate_left
           · intro w';go_simp;with_reducible rfl
           rotate_left
           · simp only [ζl,δa,δb,δc,i64_w,i32_w];rfl
           refine ζk (i:=2) (N:=some 14) (v:=?_) (a':=?_) #[τ,τ,τ,φ,φ,φ,φ,φ] rfl rfl (ζj HT_.out (by kernel_rfl)) (fun _ _ _ h=>h) (Or.inl ⟨by rfl,?_⟩) ?_ ?_
           rotate_left
           · intro w';go_simp;with_reducible rfl
           rotate_left
           · simp only [ζl,δa,δb,δc,i64_w,i32_w];rfl
           refine ζk (i:=3) (N:=some 15) (v:=?_) (a':=?_) #[τ,τ,τ,τ,φ,φ,φ,φ] rfl rfl (ζj HT_.out (by kernel_rfl)) (fun _ _ _ h=>h) (Or.inl ⟨by rfl,?_⟩) ?_ ?_
           rotate_left
           · intro w';go_simp;with_reducible rfl
           rotate_left
           · simp only [ζl,δa,δb,δc,i64_w,i32_w];rfl
           refine ζk (i:=5) (N:=some 17) (v:=?_) (a':=?_) #[τ,τ,τ,τ,φ,τ,φ,φ] rfl rfl (ζj HT_.out (by kernel_rfl)) (fun _ _ _ h=>h) (Or.inl ⟨by rfl,?_⟩) ?_ ?_
           rotate_left
           · intro w';go_simp;with_reducible rfl
           rotate_left
           · simp only [ζl,δa,δb,δc,i64_w,i32_w];rfl
           refine take_ (i:=4) (N:=some 16) (v:=?_) (a':=?_) #[τ,τ,τ,τ,τ,τ,φ,φ] rfl rfl (take_ofW HT_.out HW_.out (by kernel_rfl)) (fun _ _ _ h=>h) (Or.inl ⟨by rfl,?_⟩) hHeld ?_ ?_
           rotate_left
           · rintro w' ⟨s0,s1,s2,s3,s4,s5⟩;go_simp;with_reducible rfl
           rotate_left
           · simp only [ζl,δa,δb,δc,i64_w,i32_w];rfl
           refine one_ (i:=6) (N:=some 18) #[τ,τ,τ,τ,τ,τ,τ,φ] rfl rfl (one_of HT_.out (by kernel_rfl)) (by decide) (fun K hK => ?_)
           refine goes_ Tryd.func60 (by kernel_rfl) rfl #[.int .i64 x1_1] (by rfl) rfl rfl (by (try simp only [δd,δe,δf]);rfl) ?_
           with_reducible refine (laws_markText.calls k1 x1_1 t591 _ A5.out).mono ?_
           rintro e w18 ⟨rfl,hb⟩
           refine ⟨_,rfl,?_⟩
           have n0_:=ζa (δr (by exact HB.out) hb)
           clear HB
           have HB:=n0_
           clear n0_
           (try clear hb)
           (try clear hb2)
           (try clear hk)
           (try clear hi)
           refine hK.out _ _ ⟨((HB.out.cell (World.block_lt_of_cell? w _ hw590_0)).trans hw590_0),((HB.out.cell (World.block_lt_of_cell? w _ hw590_1)).trans hw590_1),((HB.out.cell (World.block_lt_of_cell? w _ hw590_2)).trans hw590_2),((HB.out.cell (World.block_lt_of_cell? w _ hw590_3)).trans hw590_3),((HB.out.cell (World.block_lt_of_cell? w _ hw590_4)).trans hw590_4),((HB.out.cell (World.block_lt_of_cell? w _ hw590_5)).trans hw590_5)⟩ (fun hHeld => ?_)
           clear hK K
           refine norm_ (a':=?_) ?_ ?_
           rotate_left
           ·
            show ζl _ (some 18) _=_
            simp only [ζl,δa,δb,δc,i64_w,i32_w];rfl
           refine ζk (i:=7) (N:=some 19) (v:=?_) (a':=?_) #[τ,τ,τ,τ,τ,τ,τ,τ] rfl rfl (ζj HT_.out (by kernel_rfl)) (fun _ _ _ h=>h) (Or.inl ⟨by rfl,?_⟩) ?_ ?_
           rotate_left
           · intro w';go_simp;with_reducible rfl
           rotate_left
           · simp only [ζl,δa,δb,δc,i64_w,i32_w];rfl
           refine done_ (done_of HT_.out (by kernel_rfl)) ?_
           try go_wp2
           have n0_:=ζa (δj HB.out)
           clear HB
           have HB:=n0_
           clear n0_
           have p592:0≤(x5_1:Int):=of_decide_eq_true (by (with_reducible assumption))
           have q592:x5_1<(l0.length:Int):=of_decide_eq_true (by (with_reducible assumption))
           obtain ⟨ad592,e592,hx592_0,hx592_1,hx592_2,hx592_3,hx592_4,hx592_5⟩:=at_T42 HR0.out x5_1 p592 q592
           have hw592_5:=hx592_5
           have hw592_4:=hx592_4
           have hw592_3:=hx592_3
           have hw592_2:=hx592_2
           have hw592_1:=hx592_1
           have hw592_0:=hx592_0
           obtain rfl:ad590=ad592:=(by injection e592)
           replace hx592_0:=(HB.out.cell (World.block_lt_of_cell? w _ hx592_0)).trans hx592_0
           replace hx592_1:=(HB.out.cell (World.block_lt_of_cell? w _ hx592_1)).trans hx592_1
           replace hx592_2:=(HB.out.cell (World.block_lt_of_cell? w _ hx592_2)).trans hx592_2
           replace hx592_3:=(HB.out.cell (World.block_lt_of_cell? w _ hx592_3)).trans hx592_3
           replace hx592_4:=(HB.out.cell (World.block_lt_of_cell? w _ hx592_4)).trans hx592_4
           replace hx592_5:=(HB.out.cell (World.block_lt_of_cell? w _ hx592_5)).trans hx592_5
           replace p592:=eq_true p592
           replace q592:=eq_true q592
           refine start_ (n:=8) (S:=fun w'=>w'.cell? (ad590.add ((x5_1).toNat * 6))=some (.string ((rd_T42 l0 x5_1).f0))∧w'.cell? ⟨(ad590.add ((x5_1).toNat * 6)).block,(ad590.add ((x5_1).toNat * 6)).off+1,none⟩=some (.string ((rd_T42 l0 x5_1).f1))∧w'.cell? ⟨(ad590.add ((x5_1).toNat * 6)).block,(ad590.add ((x5_1).toNat * 6)).off+2,none⟩=some (.int .i64 ((rd_T42 l0 x5_1).f2))∧w'.cell? ⟨(ad590.add ((x5_1).toNat * 6)).block,(ad590.add ((x5_1).toNat * 6)).off+3,none⟩=some (.int .i64 ((rd_T42 l0 x5_1).f3))∧w'.cell? ⟨(ad590.add ((x5_1).toNat * 6)).block,(ad590.add ((x5_1).toNat * 6)).off+4,none⟩=some (.int .i64 ((rd_T42 l0 x5_1).f4))∧w'.cell? ⟨(ad590.add ((x5_1).toNat * 6)).block,(ad590.add ((x5_1).toNat * 6)).off+5,none⟩=some (.bool ((rd_T42 l0 x5_1).f5))) (ds:=[]) #[φ,φ,φ,φ,φ,φ,φ,φ] (by kernel_rfl) rfl rfl ⟨((HB.out.cell (World.block_lt_of_cell? w _ hw592_0)).trans hw592_0),((HB.out.cell (World.block_lt_of_cell? w _ hw592_1)).trans hw592_1),((HB.out.cell (World.block_lt_of_cell? w _ hw592_2)).trans hw592_2),((HB.out.cell (World.block_lt_of_cell? w _ hw592_3)).trans hw592_3),((HB.out.cell (World.block_lt_of_cell? w _ hw592_4)).trans hw592_4),((HB.out.cell (World.block_lt_of_cell? w _ hw592_5)).trans hw592_5)⟩ (fun hHeld => ?_);refine with_tabW laws_heldOrderS.tab7 laws_heldOrderS.bits7 (fun HT_ HW_ => ?_)
           generalize w18.drew=w19 at HB hx592_0 hx592_1 hx592_2 hx592_3 hx592_4 hx592_5 hHeld ⊢
           refine ζk (i:=0) (N:=some 22) (v:=?_) (a':=?_) #[τ,φ,φ,φ,φ,φ,φ,φ] rfl rfl (ζj HT_.out (by kernel_rfl)) (fun _ _ _ h=>h) (Or.inl ⟨by rfl,?_⟩) ?_ ?_
           rotate_left
           · intro w';go_simp;with_reducible rfl
           rotate_left
           · simp only [ζl,δa,δb,δc,i64_w,i32_w];rfl
           refine ζk (i:=1) (N:=some 23) (v:=?_) (a':=?_) #[τ,τ,φ,φ,φ,φ,φ,φ] rfl rfl (ζj HT_.out (by kernel_rfl)) (fun _ _ _ h=>h) (Or.inl ⟨by rfl,?_⟩) ?_ ?_
           rotate_left
           · intro w';go_simp;with_reducible rfl
           rotate_left
           · simp only [ζl,δa,δb,δc,i64_w,i32_w];rfl
           refine ζk (i:=2) (N:=some 24) (v:=?_) (a':=?_) #[τ,τ,τ,φ,φ,φ,φ,φ] rfl rfl (ζj HT_.out (by kernel_rfl)) (fun _ _ _ h=>h) (Or.inl ⟨by rfl,?_⟩) ?_ ?_
           rotate_left
           · intro w';go_simp;with_reducible rfl
           rotate_left
           · simp only [ζl,δa,δb,δc,i64_w,i32_w];rfl
           refine ζk (i:=3) (N:=some 25) (v:=?_) (a':=?_) #[τ,τ,τ,τ,φ,φ,φ,φ] rfl rfl (ζj HT_.out (by kernel_rfl)) (fun _ _ _ h=>h) (Or.inl ⟨by rfl,?_⟩) ?_ ?_
           rotate_left
           · intro w';go_simp;with_reducible rfl
           rotate_left
           · simp only [ζl,δa,δb,δc,i64_w,i32_w];rfl
           refine ζk (i:=5) (N:=some 27) (v:=?_) (a':=?_) #[τ,τ,τ,τ,φ,τ,φ,φ] rfl rfl (ζj HT_.out (by kernel_rfl)) (fun _ _ _ h=>h) (Or.inl ⟨by rfl,?_⟩) ?_ ?_
           rotate_left
           · intro w';go_simp;with_reducible rfl
           rotate_left
           · simp only [ζl,δa,δb,δc,i64_w,i32_w];rfl
           refine take_ (i:=4) (N:=some 26) (v:=?_) (a':=?_) #[τ,τ,τ,τ,τ,τ,φ,φ] rfl rfl (take_ofW HT_.out HW_.out (by kernel_rfl)) (fun _ _ _ h=>h) (Or.inl ⟨by rfl,?_⟩) hHeld ?_ ?_
           rotate_left
           · rintro w' ⟨s0,s1,s2,s3,s4,s5⟩;go_simp;with_reducible rfl
           rotate_left
           · simp only [ζl,δa,δb,δc,i64_w,i32_w];rfl
           refine one_ (i:=6) (N:=some 28) #[τ,τ,τ,τ,τ,τ,τ,φ] rfl rfl (one_of HT_.out (by kernel_rfl)) (by decide) (fun K hK => ?_)
           refine goes_ Tryd.func60 (by kernel_rfl) rfl #[.int .i64 (ζm (x1_1+1))] (by rfl) rfl rfl (by (try simp only [δd,δe,δf]);rfl) ?_
           with_reducible refine (laws_markText.calls k1 (ζm (x1_1+1)) t593 _ A7.out).mono ?_
           rintro e w20 ⟨rfl,hb⟩
           refine ⟨_,rfl,?_⟩
           have n0_:=ζa (δr (by exact HB.out) hb)
           clear HB
           have HB:=n0_
           clear n0_
           (try clear hb)
           (try clear hb2)
           (try clear hk)
           (try clear hi)
           refine hK.out _ _ ⟨((HB.out.cell (World.block_lt_of_cell? w _ hw592_0)).trans hw592_0),((HB.out.cell (World.block_lt_of_cell? w _ hw592_1)).trans hw592_1),((HB.out.cell (World.block_lt_of_cell? w _ hw592_2)).trans hw592_2),((HB.out.cell (World.block_lt_of_cell? w _ hw592_3)).trans hw592_3),((HB.out.cell (World.block_lt_of_cell? w _ hw592_4)).trans hw592_4),((HB.out.cell (World.block_lt_of_cell? w _ hw592_5)).trans hw592_5)⟩ (fun hHeld => ?_)
           clear hK K
           refine norm_ (a':=?_) ?_ ?_
           rotate_left
           ·
            show ζl _ (some 28) _=_
            simp only [ζl,δa,δb,δc,i64_w,i32_w];rfl
           refine ζk (i:=7) (N:=some 29) (v:=?_) (a':=?_) #[τ,τ,τ,τ,τ,τ,τ,τ] rfl rfl (ζj HT_.out (by kernel_rfl)) (fun _ _ _ h=>h) (Or.inl ⟨by rfl,?_⟩) ?_ ?_
           rotate_left
           · intro w';go_simp;with_reducible rfl
           rotate_left
           · simp only [ζl,δa,δb,δc,i64_w,i32_w];rfl
           refine done_ (done_of HT_.out (by kernel_rfl)) ?_
           have p594:0≤(x5_1:Int):=of_decide_eq_true (by (with_reducible assumption))
           have q594:x5_1<(l0.length:Int):=of_decide_eq_true (by (with_reducible assumption))
           obtain ⟨ad594,e594,hx594_0,hx594_1,hx594_2,hx594_3,hx594_4,hx594_5⟩:=at_T42 HR0.out x5_1 p594 q594
           obtain rfl:ad590=ad594:=(by injection e594)
           replace hx594_0:=(HB.out.cell (World.block_lt_of_cell? w _ hx594_0)).trans hx594_0
           replace hx594_1:=(HB.out.cell (World.block_lt_of_cell? w _ hx594_1)).trans hx594_1
           replace hx594_2:=(HB.out.cell (World.block_lt_of_cell? w _ hx594_2)).trans hx594_2
           replace hx594_3:=(HB.out.cell (World.block_lt_of_cell? w _ hx594_3)).trans hx594_3
           replace hx594_4:=(HB.out.cell (World.block_lt_of_cell? w _ hx594_4)).trans hx594_4
           replace hx594_5:=(HB.out.cell (World.block_lt_of_cell? w _ hx594_5)).trans hx594_5
           replace p594:=eq_true p594
           replace q594:=eq_true q594
           have p595:0≤(x5_1:Int):=of_decide_eq_true (by (with_reducible assumption))
           have q595:x5_1<(l0.length:Int):=of_decide_eq_true (by (with_reducible assumption))
           obtain ⟨ad595,e595,hx595_0,hx595_1,hx595_2,hx595_3,hx595_4,hx595_5⟩:=at_T42 HR0.out x5_1 p595 q595
           obtain rfl:ad590=ad595:=(by injection e595)
           replace hx595_0:=(HB.out.cell (World.block_lt_of_cell? w _ hx595_0)).trans hx595_0
           replace hx595_1:=(HB.out.cell (World.block_lt_of_cell? w _ hx595_1)).trans hx595_1
           replace hx595_2:=(HB.out.cell (World.block_lt_of_cell? w _ hx595_2)).trans hx595_2
           replace hx595_3:=(HB.out.cell (World.block_lt_of_cell? w _ hx595_3)).trans hx595_3
           replace hx595_4:=(HB.out.cell (World.block_lt_of_cell? w _ hx595_4)).trans hx595_4
           replace hx595_5:=(HB.out.cell (World.block_lt_of_cell? w _ hx595_5)).trans hx595_5
           replace p595:=eq_true p595
           replace q595:=eq_true q595
           have p596:0≤(x5_1:Int):=of_decide_eq_true (by (with_reducible assumption))
           have q596:x5_1<(l0.length:Int):=of_decide_eq_true (by (with_reducible assumption))
           obtain ⟨ad596,e596,hx596_0,hx596_1,hx596_2,hx596_3,hx596_4,hx596_5⟩:=at_T42 HR0.out x5_1 p596 q596
           obtain rfl:ad590=ad596:=(by injection e596)
           replace hx596_0:=(HB.out.cell (World.block_lt_of_cell? w _ hx596_0)).trans hx596_0
           replace hx596_1:=(HB.out.cell (World.block_lt_of_cell? w _ hx596_1)).trans hx596_1
           replace hx596_2:=(HB.out.cell (World.block_lt_of_cell? w _ hx596_2)).trans hx596_2
           replace hx596_3:=(HB.out.cell (World.block_lt_of_cell? w _ hx596_3)).trans hx596_3
           replace hx596_4:=(HB.out.cell (World.block_lt_of_cell? w _ hx596_4)).trans hx596_4
           replace hx596_5:=(HB.out.cell (World.block_lt_of_cell? w _ hx596_5)).trans hx596_5
           replace p596:=eq_true p596
           replace q596:=eq_true q596
           have p597:0≤(x5_1:Int):=of_decide_eq_true (by (with_reducible assumption))
           have q597:x5_1<(l0.length:Int):=of_decide_eq_true (by (with_reducible assumption))
           obtain ⟨ad597,e597,hx597_0,hx597_1,hx597_2,hx597_3,hx597_4,hx597_5⟩:=at_T42 HR0.out x5_1 p597 q597
           obtain rfl:ad590=ad597:=(by injection e597)
           replace hx597_0:=(HB.out.cell (World.block_lt_of_cell? w _ hx597_0)).trans hx597_0
           replace hx597_1:=(HB.out.cell (World.block_lt_of_cell? w _ hx597_1)).trans hx597_1
           replace hx597_2:=(HB.out.cell (World.block_lt_of_cell? w _ hx597_2)).trans hx597_2
           replace hx597_3:=(HB.out.cell (World.block_lt_of_cell? w _ hx597_3)).trans hx597_3
           replace hx597_4:=(HB.out.cell (World.block_lt_of_cell? w _ hx597_4)).trans hx597_4
           replace hx597_5:=(HB.out.cell (World.block_lt_of_cell? w _ hx597_5)).trans hx597_5
           replace p597:=eq_true p597
           replace q597:=eq_true q597
           try go_wp2
           go_roundg k1
           case measure=>have:=HK1.out;omega
           case rel=>exact ⟨(ζm ((ζm ((ζm ((ζm ((ζm ((ζm (x1_1+1))+1))+1))+1))+1))+1)),(ζm (x5_1+1)),(by rfl),(by rfl),H',⟨by have:=HK1.out;omega⟩,⟨by repeat ((with_reducible exact HB.out))⟩⟩
         ·
          rw [if_neg c11] at H
          have c11b0:(((rd_T42 l0 x5_1).f4) == (ζm ((ζm ((ζm ((ζm (x1_1+1))+1))+1))+1)))=φ:=beq_eq_false_iff_ne.mpr c11
          have c11b1:(((rd_T42 l0 x5_1).f4) != (ζm ((ζm ((ζm ((ζm (x1_1+1))+1))+1))+1)))=τ:=bne_iff_ne.mpr c11
          obtain rfl:=Option.some.inj H
          try go_wp2
          have n0_:=ζa (δj HB.out)
          clear HB
          have HB:=n0_
          clear n0_
          have p590:0≤(x5_1:Int):=of_decide_eq_true (by (with_reducible assumption))
          have q590:x5_1<(l0.length:Int):=of_decide_eq_true (by (with_reducible assumption))
          obtain ⟨ad590,e590,hx590_0,hx590_1,hx590_2,hx590_3,hx590_4,hx590_5⟩:=at_T42 HR0.out x5_1 p590 q590
          have hw590_5:=hx590_5
          have hw590_4:=hx590_4
          have hw590_3:=hx590_3
          have hw590_2:=hx590_2
          have hw590_1:=hx590_1
          have hw590_0:=hx590_0
          cases e590
          replace hx590_0:=(HB.out.cell (World.block_lt_of_cell? w _ hx590_0)).trans hx590_0
          replace hx590_1:=(HB.out.cell (World.block_lt_of_cell? w _ hx590_1)).trans hx590_1
          replace hx590_2:=(HB.out.cell (World.block_lt_of_cell? w _ hx590_2)).trans hx590_2
          replace hx590_3:=(HB.out.cell (World.block_lt_of_cell? w _ hx590_3)).trans hx590_3
          replace hx590_4:=(HB.out.cell (World.block_lt_of_cell? w _ hx590_4)).trans hx590_4
          replace hx590_5:=(HB.out.cell (World.block_lt_of_cell? w _ hx590_5)).trans hx590_5
          replace p590:=eq_true p590
          replace q590:=eq_true q590
          refine start_ (n:=8) (S:=fun w'=>w'.cell? (ad590.add ((x5_1).toNat * 6))=some (.string ((rd_T42 l0 x5_1).f0))∧w'.cell? ⟨(ad590.add ((x5_1).toNat * 6)).block,(ad590.add ((x5_1).toNat * 6)).off+1,none⟩=some (.string ((rd_T42 l0 x5_1).f1))∧w'.cell? ⟨(ad590.add ((x5_1).toNat * 6)).block,(ad590.add ((x5_1).toNat * 6)).off+2,none⟩=some (.int .i64 ((rd_T42 l0 x5_1).f2))∧w'.cell? ⟨(ad590.add ((x5_1).toNat * 6)).block,(ad590.add ((x5_1).toNat * 6)).off+3,none⟩=some (.int .i64 ((rd_T42 l0 x5_1).f3))∧w'.cell? ⟨(ad590.add ((x5_1).toNat * 6)).block,(ad590.add ((x5_1).toNat * 6)).off+4,none⟩=some (.int .i64 ((rd_T42 l0 x5_1).f4))∧w'.cell? ⟨(ad590.add ((x5_1).toNat * 6)).block,(ad590.add ((x5_1).toNat * 6)).off+5,none⟩=some (.bool ((rd_T42 l0 x5_1).f5))) (ds:=[]) #[φ,φ,φ,φ,φ,φ,φ,φ] (by kernel_rfl) rfl rfl ⟨((HB.out.cell (World.block_lt_of_cell? w _ hw590_0)).trans hw590_0),((HB.out.cell (World.block_lt_of_cell? w _ hw590_1)).trans hw590_1),((HB.out.cell (World.block_lt_of_cell? w _ hw590_2)).trans hw590_2),((HB.out.cell (World.block_lt_of_cell? w _ hw590_3)).trans hw590_3),((HB.out.cell (World.block_lt_of_cell? w _ hw590_4)).trans hw590_4),((HB.out.cell (World.block_lt_of_cell? w _ hw590_5)).trans hw590_5)⟩ (fun hHeld => ?_);refine with_tabW laws_heldOrderS.tab4 laws_heldOrderS.bits4 (fun HT_ HW_ => ?_)
          generalize wr.drew=w21 at HB hx590_0 hx590_1 hx590_2 hx590_3 hx590_4 hx590_5 hHeld ⊢
          refine ζk (i:=0) (N:=some 12) (v:=?_) (a':=?_) #[τ,φ,φ,φ,φ,φ,φ,φ] rfl rfl (ζj HT_.out (by kernel_rfl)) (fun _ _ _ h=>h) (Or.inl ⟨by rfl,?_⟩) ?_ ?_
          rotate_left
          · intro w';go_simp;with_reducible rfl
          rotate_left
          · simp only [ζl,δa,δb,δc,i64_w,i32_w];rfl
          refine ζk (i:=1) (N:=some 13) (v:=?_) (a':=?_) #[τ,τ,φ,φ,φ,φ,φ,φ] rfl rfl (ζj HT_.out (by kernel_rfl)) (fun _ _ _ h=>h) (Or.inl ⟨by rfl,?_⟩) ?_ ?_
          rotate_left
          · intro w';go_simp;with_reducible rfl
          rotate_left
          · simp only [ζl,δa,δb,δc,i64_w,i32_w];rfl
          refine ζk (i:=2) (N:=some 14) (v:=?_) (a':=?_) #[τ,τ,τ,φ,φ,φ,φ,φ] rfl rfl (ζj HT_.out (by kernel_rfl)) (fun _ _ _ h=>h) (Or.inl ⟨by rfl,?_⟩) ?_ ?_
          rotate_left
          · intro w';go_simp;with_reducible rfl
          rotate_left
          · simp only [ζl,δa,δb,δc,i64_w,i32_w];rfl
          refine ζk (i:=3) (N:=some 15) (v:=?_) (a':=?_) #[τ,τ,τ,τ,φ,φ,φ,φ] rfl rfl (ζj HT_.out (by kernel_rfl)) (fun _ _ _ h=>h) (Or.inl ⟨by rfl,?_⟩) ?_ ?_
          rotate_left
          · intro w';go_simp;with_reducible rfl
          rotate_left
          · simp only [ζl,δa,δb,δc,i64_w,i32_w];rfl
          refine ζk (i:=5) (N:=some 17) (v:=?_) (a':=?_) #[τ,τ,τ,τ,φ,τ,φ,φ] rfl rfl (ζj HT_.out (by kernel_rfl)) (fun _ _ _ h=>h) (Or.inl ⟨by rfl,?_⟩) ?_ ?_
          rotate_left
          · intro w';go_simp;with_reducible rfl
          rotate_left
          · simp only [ζl,δa,δb,δc,i64_w,i32_w];rfl
          refine take_ (i:=4) (N:=some 16) (v:=?_) (a':=?_) #[τ,τ,τ,τ,τ,τ,φ,φ] rfl rfl (take_ofW HT_.out HW_.out (by kernel_rfl)) (fun _ _ _ h=>h) (Or.inl ⟨by rfl,?_⟩) hHeld ?_ ?_
          rotate_left
          · rintro w' ⟨s0,s1,s2,s3,s4,s5⟩;go_simp;with_reducible rfl
          rotate_left
          · simp only [ζl,δa,δb,δc,i64_w,i32_w];rfl
          refine one_ (i:=6) (N:=some 18) #[τ,τ,τ,τ,τ,τ,τ,φ] rfl rfl (one_of HT_.out (by kernel_rfl)) (by decide) (fun K hK => ?_)
          refine goes_ Tryd.func60 (by kernel_rfl) rfl #[.int .i64 x1_1] (by rfl) rfl rfl (by (try simp only [δd,δe,δf]);rfl) ?_
          with_reducible refine (laws_markText.calls k1 x1_1 t591 _ A5.out).mono ?_
          rintro e w22 ⟨rfl,hb⟩
          refine ⟨_,rfl,?_⟩
          have n0_:=ζa (δr (by exact HB.out) hb)
          clear HB
          have HB:=n0_
          clear n0_
          (try clear hb)
          (try clear hb2)
          (try clear hk)
          (try clear hi)
          refine hK.out _ _ ⟨((HB.out.cell (World.block_lt_of_cell? w _ hw590_0)).trans hw590_0),((HB.out.cell (World.block_lt_of_cell? w _ hw590_1)).trans hw590_1),((HB.out.cell (World.block_lt_of_cell? w _ hw590_2)).trans hw590_2),((HB.out.cell (World.block_lt_of_cell? w _ hw590_3)).trans hw590_3),((HB.out.cell (World.block_lt_of_cell? w _ hw590_4)).trans hw590_4),((HB.out.cell (World.block_lt_of_cell? w _ hw590_5)).trans hw590_5)⟩ (fun hHeld => ?_)
          clear hK K
          refine norm_ (a':=?_) ?_ ?_
          rotate_left
          ·
           show ζl _ (some 18) _=_
           simp only [ζl,δa,δb,δc,i64_w,i32_w];rfl
          refine ζk (i:=7) (N:=some 19) (v:=?_) (a':=?_) #[τ,τ,τ,τ,τ,τ,τ,τ] rfl rfl (ζj HT_.out (by kernel_rfl)) (fun _ _ _ h=>h) (Or.inl ⟨by rfl,?_⟩) ?_ ?_
          rotate_left
          · intro w';go_simp;with_reducible rfl
          rotate_left
          · simp only [ζl,δa,δb,δc,i64_w,i32_w];rfl
          refine done_ (done_of HT_.out (by kernel_rfl)) ?_
          try go_wp2
          have n0_:=ζa (δj HB.out)
          clear HB
          have HB:=n0_
          clear n0_
          have p592:0≤(x5_1:Int):=of_decide_eq_true (by (with_reducible assumption))
          have q592:x5_1<(l0.length:Int):=of_decide_eq_true (by (with_reducible assumption))
          obtain ⟨ad592,e592,hx592_0,hx592_1,hx592_2,hx592_3,hx592_4,hx592_5⟩:=at_T42 HR0.out x5_1 p592 q592
          have hw592_5:=hx592_5
          have hw592_4:=hx592_4
          have hw592_3:=hx592_3
          have hw592_2:=hx592_2
          have hw592_1:=hx592_1
          have hw592_0:=hx592_0
          obtain rfl:ad590=ad592:=(by injection e592)
          replace hx592_0:=(HB.out.cell (World.block_lt_of_cell? w _ hx592_0)).trans hx592_0
          replace hx592_1:=(HB.out.cell (World.block_lt_of_cell? w _ hx592_1)).trans hx592_1
          replace hx592_2:=(HB.out.cell (World.block_lt_of_cell? w _ hx592_2)).trans hx592_2
          replace hx592_3:=(HB.out.cell (World.block_lt_of_cell? w _ hx592_3)).trans hx592_3
          replace hx592_4:=(HB.out.cell (World.block_lt_of_cell? w _ hx592_4)).trans hx592_4
          replace hx592_5:=(HB.out.cell (World.block_lt_of_cell? w _ hx592_5)).trans hx592_5
          replace p592:=eq_true p592
          replace q592:=eq_true q592
          refine start_ (n:=8) (S:=fun w'=>w'.cell? (ad590.add ((x5_1).toNat * 6))=some (.string ((rd_T42 l0 x5_1).f0))∧w'.cell? ⟨(ad590.add ((x5_1).toNat * 6)).block,(ad590.add ((x5_1).toNat * 6)).off+1,none⟩=some (.string ((rd_T42 l0 x5_1).f1))∧w'.cell? ⟨(ad590.add ((x5_1).toNat * 6)).block,(ad590.add ((x5_1).toNat * 6)).off+2,none⟩=some (.int .i64 ((rd_T42 l0 x5_1).f2))∧w'.cell? ⟨(ad590.add ((x5_1).toNat * 6)).block,(ad590.add ((x5_1).toNat * 6)).off+3,none⟩=some (.int .i64 ((rd_T42 l0 x5_1).f3))∧w'.cell? ⟨(ad590.add ((x5_1).toNat * 6)).block,(ad590.add ((x5_1).toNat * 6)).off+4,none⟩=some (.int .i64 ((rd_T42 l0 x5_1).f4))∧w'.cell? ⟨(ad590.add ((x5_1).toNat * 6)).block,(ad590.add ((x5_1).toNat * 6)).off+5,none⟩=some (.bool ((rd_T42 l0 x5_1).f5))) (ds:=[]) #[φ,φ,φ,φ,φ,φ,φ,φ] (by kernel_rfl) rfl rfl ⟨((HB.out.cell (World.block_lt_of_cell? w _ hw592_0)).trans hw592_0),((HB.out.cell (World.block_lt_of_cell? w _ hw592_1)).trans hw592_1),((HB.out.cell (World.block_lt_of_cell? w _ hw592_2)).trans hw592_2),((HB.out.cell (World.block_lt_of_cell? w _ hw592_3)).trans hw592_3),((HB.out.cell (World.block_lt_of_cell? w _ hw592_4)).trans hw592_4),((HB.out.cell (World.block_lt_of_cell? w _ hw592_5)).trans hw592_5)⟩ (fun hHeld => ?_);refine with_tabW laws_heldOrderS.tab7 laws_heldOrderS.bits7 (fun HT_ HW_ => ?_)
          generalize w22.drew=w23 at HB hx592_0 hx592_1 hx592_2 hx592_3 hx592_4 hx592_5 hHeld ⊢
          refine ζk (i:=0) (N:=some 22) (v:=?_) (a':=?_) #[τ,φ,φ,φ,φ,φ,φ,φ] rfl rfl (ζj HT_.out (by kernel_rfl)) (fun _ _ _ h=>h) (Or.inl ⟨by rfl,?_⟩) ?_ ?_
          rotate_left
          · intro w';go_simp;with_reducible rfl
          rotate_left
          · simp only [ζl,δa,δb,δc,i64_w,i32_w];rfl
          refine ζk (i:=1) (N:=some 23) (v:=?_) (a':=?_) #[τ,τ,φ,φ,φ,φ,φ,φ] rfl rfl (ζj HT_.out (by kernel_rfl)) (fun _ _ _ h=>h) (Or.inl ⟨by rfl,?_⟩) ?_ ?_
          rotate_left
          · intro w';go_simp;with_reducible rfl
          rotate_left
          · simp only [ζl,δa,δb,δc,i64_w,i32_w];rfl
          refine ζk (i:=2) (N:=some 24) (v:=?_) (a':=?_) #[τ,τ,τ,φ,φ,φ,φ,φ] rfl rfl (ζj HT_.out (by kernel_rfl)) (fun _ _ _ h=>h) (Or.inl ⟨by rfl,?_⟩) ?_ ?_
          rotate_left
          · intro w';go_simp;with_reducible rfl
          rotate_left
          · simp only [ζl,δa,δb,δc,i64_w,i32_w];rfl
          refine ζk (i:=3) (N:=some 25) (v:=?_) (a':=?_) #[τ,τ,τ,τ,φ,φ,φ,φ] rfl rfl (ζj HT_.out (by kernel_rfl)) (fun _ _ _ h=>h) (Or.inl ⟨by rfl,?_⟩) ?_ ?_
          rotate_left
          · intro w';go_simp;with_reducible rfl
          rotate_left
          · simp only [ζl,δa,δb,δc,i64_w,i32_w];rfl
          refine ζk (i:=5) (N:=some 27) (v:=?_) (a':=?_) #[τ,τ,τ,τ,φ,τ,φ,φ] rfl rfl (ζj HT_.out (by kernel_rfl)) (fun _ _ _ h=>h) (Or.inl ⟨by rfl,?_⟩) ?_ ?_
          rotate_left
          · intro w';go_simp;with_reducible rfl
          rotate_left
          · simp only [ζl,δa,δb,δc,i64_w,i32_w];rfl
          refine take_ (i:=4) (N:=some 26) (v:=?_) (a':=?_) #[τ,τ,τ,τ,τ,τ,φ,φ] rfl rfl (take_ofW HT_.out HW_.out (by kernel_rfl)) (fun _ _ _ h=>h) (Or.inl ⟨by rfl,?_⟩) hHeld ?_ ?_
          rotate_left
          · rintro w' ⟨s0,s1,s2,s3,s4,s5⟩;go_simp;with_reducible rfl
          rotate_left
          · simp only [ζl,δa,δb,δc,i64_w,i32_w];rfl
          refine one_ (i:=6) (N:=some 28) #[τ,τ,τ,τ,τ,τ,τ,φ] rfl rfl (one_of HT_.out (by kernel_rfl)) (by decide) (fun K hK => ?_)
          refine goes_ Tryd.func60 (by kernel_rfl) rfl #[.int .i64 (ζm (x1_1+1))] (by rfl) rfl rfl (by (try simp only [δd,δe,δf]);rfl) ?_
          with_reducible refine (laws_markText.calls k1 (ζm (x1_1+1)) t593 _ A7.out).mono ?_
          rintro e w24 ⟨rfl,hb⟩
          refine ⟨_,rfl,?_⟩
          have n0_:=ζa (δr (by exact HB.out) hb)
          clear HB
          have HB:=n0_
          clear n0_
          (try clear hb)
          (try clear hb2)
          (try clear hk)
          (try clear hi)
          refine hK.out _ _ ⟨((HB.out.cell (World.block_lt_of_cell? w _ hw592_0)).trans hw592_0),((HB.out.cell (World.block_lt_of_cell? w _ hw592_1)).trans hw592_1),((HB.out.cell (World.block_lt_of_cell? w _ hw592_2)).trans hw592_2),((HB.out.cell (World.block_lt_of_cell? w _ hw592_3)).trans hw592_3),((HB.out.cell (World.block_lt_of_cell? w _ hw592_4)).trans hw592_4),((HB.out.cell (World.block_lt_of_cell? w _ hw592_5)).trans hw592_5)⟩ (fun hHeld => ?_)
          clear hK K
          refine norm_ (a':=?_) ?_ ?_
          rotate_left
          ·
           show ζl _ (some 28) _=_
           simp only [ζl,δa,δb,δc,i64_w,i32_w];rfl
          refine ζk (i:=7) (N:=some 29) (v:=?_) (a':=?_) #[τ,τ,τ,τ,τ,τ,τ,τ] rfl rfl (ζj HT_.out (by kernel_rfl)) (fun _ _ _ h=>h) (Or.inl ⟨by rfl,?_⟩) ?_ ?_
          rotate_left
          · intro w';go_simp;with_reducible rfl
          rotate_left
          · simp only [ζl,δa,δb,δc,i64_w,i32_w];rfl
          refine done_ (done_of HT_.out (by kernel_rfl)) ?_
          have p594:0≤(x5_1:Int):=of_decide_eq_true (by (with_reducible assumption))
          have q594:x5_1<(l0.length:Int):=of_decide_eq_true (by (with_reducible assumption))
          obtain ⟨ad594,e594,hx594_0,hx594_1,hx594_2,hx594_3,hx594_4,hx594_5⟩:=at_T42 HR0.out x5_1 p594 q594
          obtain rfl:ad590=ad594:=(by injection e594)
          replace hx594_0:=(HB.out.cell (World.block_lt_of_cell? w _ hx594_0)).trans hx594_0
          replace hx594_1:=(HB.out.cell (World.block_lt_of_cell? w _ hx594_1)).trans hx594_1
          replace hx594_2:=(HB.out.cell (World.block_lt_of_cell? w _ hx594_2)).trans hx594_2
          replace hx594_3:=(HB.out.cell (World.block_lt_of_cell? w _ hx594_3)).trans hx594_3
          replace hx594_4:=(HB.out.cell (World.block_lt_of_cell? w _ hx594_4)).trans hx594_4
          replace hx594_5:=(HB.out.cell (World.block_lt_of_cell? w _ hx594_5)).trans hx594_5
          replace p594:=eq_true p594
          replace q594:=eq_true q594
          have p595:0≤(x5_1:Int):=of_decide_eq_true (by (with_reducible assumption))
          have q595:x5_1<(l0.length:Int):=of_decide_eq_true (by (with_reducible assumption))
          obtain ⟨ad595,e595,hx595_0,hx595_1,hx595_2,hx595_3,hx595_4,hx595_5⟩:=at_T42 HR0.out x5_1 p595 q595
          obtain rfl:ad590=ad595:=(by injection e595)
          replace hx595_0:=(HB.out.cell (World.block_lt_of_cell? w _ hx595_0)).trans hx595_0
          replace hx595_1:=(HB.out.cell (World.block_lt_of_cell? w _ hx595_1)).trans hx595_1
          replace hx595_2:=(HB.out.cell (World.block_lt_of_cell? w _ hx595_2)).trans hx595_2
          replace hx595_3:=(HB.out.cell (World.block_lt_of_cell? w _ hx595_3)).trans hx595_3
          replace hx595_4:=(HB.out.cell (World.block_lt_of_cell? w _ hx595_4)).trans hx595_4
          replace hx595_5:=(HB.out.cell (World.block_lt_of_cell? w _ hx595_5)).trans hx595_5
          replace p595:=eq_true p595
          replace q595:=eq_true q595
          have p596:0≤(x5_1:Int):=of_decide_eq_true (by (with_reducible assumption))
          have q596:x5_1<(l0.length:Int):=of_decide_eq_true (by (with_reducible assumption))
          obtain ⟨ad596,e596,hx596_0,hx596_1,hx596_2,hx596_3,hx596_4,hx596_5⟩:=at_T42 HR0.out x5_1 p596 q596
          obtain rfl:ad590=ad596:=(by injection e596)
          replace hx596_0:=(HB.out.cell (World.block_lt_of_cell? w _ hx596_0)).trans hx596_0
          replace hx596_1:=(HB.out.cell (World.block_lt_of_cell? w _ hx596_1)).trans hx596_1
          replace hx596_2:=(HB.out.cell (World.block_lt_of_cell? w _ hx596_2)).trans hx596_2
          replace hx596_3:=(HB.out.cell (World.block_lt_of_cell? w _ hx596_3)).trans hx596_3
          replace hx596_4:=(HB.out.cell (World.block_lt_of_cell? w _ hx596_4)).trans hx596_4
          replace hx596_5:=(HB.out.cell (World.block_lt_of_cell? w _ hx596_5)).trans hx596_5
          replace p596:=eq_true p596
          replace q596:=eq_true q596
          try go_wp2
          go_ret
          exact ⟨by rfl,by repeat ((with_reducible exact HB.out))⟩
        ·
         rw [if_neg c10] at H
         have c10b0:(((rd_T42 l0 x5_1).f3) == (ζm ((ζm ((ζm (x1_1+1))+1))+1)))=φ:=beq_eq_false_iff_ne.mpr c10
         have c10b1:(((rd_T42 l0 x5_1).f3) != (ζm ((ζm ((ζm (x1_1+1))+1))+1)))=τ:=bne_iff_ne.mpr c10
         obtain rfl:=Option.some.inj H
         try go_wp2
         have n0_:=ζa (δj HB.out)
         clear HB
         have HB:=n0_
         clear n0_
         have p590:0≤(x5_1:Int):=of_decide_eq_true (by (with_reducible assumption))
         have q590:x5_1<(l0.length:Int):=of_decide_eq_true (by (with_reducible assumption))
         obtain ⟨ad590,e590,hx590_0,hx590_1,hx590_2,hx590_3,hx590_4,hx590_5⟩:=at_T42 HR0.out x5_1 p590 q590
         have hw590_5:=hx590_5
         have hw590_4:=hx590_4
         have hw590_3:=hx590_3
         have hw590_2:=hx590_2
         have hw590_1:=hx590_1
         have hw590_0:=hx590_0
         cases e590
         replace hx590_0:=(HB.out.cell (World.block_lt_of_cell? w _ hx590_0)).trans hx590_0
         replace hx590_1:=(HB.out.cell (World.block_lt_of_cell? w _ hx590_1)).trans hx590_1
         replace hx590_2:=(HB.out.cell (World.block_lt_of_cell? w _ hx590_2)).trans hx590_2
         replace hx590_3:=(HB.out.cell (World.block_lt_of_cell? w _ hx590_3)).trans hx590_3
         replace hx590_4:=(HB.out.cell (World.block_lt_of_cell? w _ hx590_4)).trans hx590_4
         replace hx590_5:=(HB.out.cell (World.block_lt_of_cell? w _ hx590_5)).trans hx590_5
         replace p590:=eq_true p590
         replace q590:=eq_true q590
         refine start_ (n:=8) (S:=fun w'=>w'.cell? (ad590.add ((x5_1).toNat * 6))=some (.string ((rd_T42 l0 x5_1).f0))∧w'.cell? ⟨(ad590.add ((x5_1).toNat * 6)).block,(ad590.add ((x5_1).toNat * 6)).off+1,none⟩=some (.string ((rd_T42 l0 x5_1).f1))∧w'.cell? ⟨(ad590.add ((x5_1).toNat * 6)).block,(ad590.add ((x5_1).toNat * 6)).off+2,none⟩=some (.int .i64 ((rd_T42 l0 x5_1).f2))∧w'.cell? ⟨(ad590.add ((x5_1).toNat * 6)).block,(ad590.add ((x5_1).toNat * 6)).off+3,none⟩=some (.int .i64 ((rd_T42 l0 x5_1).f3))∧w'.cell? ⟨(ad590.add ((x5_1).toNat * 6)).block,(ad590.add ((x5_1).toNat * 6)).off+4,none⟩=some (.int .i64 ((rd_T42 l0 x5_1).f4))∧w'.cell? ⟨(ad590.add ((x5_1).toNat * 6)).block,(ad590.add ((x5_1).toNat * 6)).off+5,none⟩=some (.bool ((rd_T42 l0 x5_1).f5))) (ds:=[]) #[φ,φ,φ,φ,φ,φ,φ,φ] (by kernel_rfl) rfl rfl ⟨((HB.out.cell (World.block_lt_of_cell? w _ hw590_0)).trans hw590_0),((HB.out.cell (World.block_lt_of_cell? w _ hw590_1)).trans hw590_1),((HB.out.cell (World.block_lt_of_cell? w _ hw590_2)).trans hw590_2),((HB.out.cell (World.block_lt_of_cell? w _ hw590_3)).trans hw590_3),((HB.out.cell (World.block_lt_of_cell? w _ hw590_4)).trans hw590_4),((HB.out.cell (World.block_lt_of_cell? w _ hw590_5)).trans hw590_5)⟩ (fun hHeld => ?_);refine with_tabW laws_heldOrderS.tab4 laws_heldOrderS.bits4 (fun HT_ HW_ => ?_)
         generalize wr.drew=w25 at HB hx590_0 hx590_1 hx590_2 hx590_3 hx590_4 hx590_5 hHeld ⊢
         refine ζk (i:=0) (N:=some 12) (v:=?_) (a':=?_) #[τ,φ,φ,φ,φ,φ,φ,φ] rfl rfl (ζj HT_.out (by kernel_rfl)) (fun _ _ _ h=>h) (Or.inl ⟨by rfl,?_⟩) ?_ ?_
         rotate_left
         · intro w';go_simp;with_reducible rfl
         rotate_left
         · simp only [ζl,δa,δb,δc,i64_w,i32_w];rfl
         refine ζk (i:=1) (N:=some 13) (v:=?_) (a':=?_) #[τ,τ,φ,φ,φ,φ,φ,φ] rfl rfl (ζj HT_.out (by kernel_rfl)) (fun _ _ _ h=>h) (Or.inl ⟨by rfl,?_⟩) ?_ ?_
         rotate_left
         · intro w';go_simp;with_reducible rfl
         rotate_left
         · simp only [ζl,δa,δb,δc,i64_w,i32_w];rfl
         refine ζk (i:=2) (N:=some 14) (v:=?_) (a':=?_) #[τ,τ,τ,φ,φ,φ,φ,φ] rfl rfl (ζj HT_.out (by kernel_rfl)) (fun _ _ _ h=>h) (Or.inl ⟨by rfl,?_⟩) ?_ ?_
         rotate_left
         · intro w';go_simp;with_reducible rfl
         rotate_left
         · simp only [ζl,δa,δb,δc,i64_w,i32_w];rfl
         refine ζk (i:=3) (N:=some 15) (v:=?_) (a':=?_) #[τ,τ,τ,τ,φ,φ,φ,φ] rfl rfl (ζj HT_.out (by kernel_rfl)) (fun _ _ _ h=>h) (Or.inl ⟨by rfl,?_⟩) ?_ ?_
         rotate_left
         · intro w';go_simp;with_reducible rfl
         rotate_left
         · simp only [ζl,δa,δb,δc,i64_w,i32_w];rfl
         refine ζk (i:=5) (N:=some 17) (v:=?_) (a':=?_) #[τ,τ,τ,τ,φ,τ,φ,φ] rfl rfl (ζj HT_.out (by kernel_rfl)) (fun _ _ _ h=>h) (Or.inl ⟨by rfl,?_⟩) ?_ ?_
         rotate_left
         · intro w';go_simp;with_reducible rfl
         rotate_left
         · simp only [ζl,δa,δb,δc,i64_w,i32_w];rfl
         refine take_ (i:=4) (N:=some 16) (v:=?_) (a':=?_) #[τ,τ,τ,τ,τ,τ,φ,φ] rfl rfl (take_ofW HT_.out HW_.out (by kernel_rfl)) (fun _ _ _ h=>h) (Or.inl ⟨by rfl,?_⟩) hHeld ?_ ?_
         rotate_left
         · rintro w' ⟨s0,s1,s2,s3,s4,s5⟩;go_simp;with_reducible rfl
         rotate_left
         · simp only [ζl,δa,δb,δc,i64_w,i32_w];rfl
         refine one_ (i:=6) (N:=some 18) #[τ,τ,τ,τ,τ,τ,τ,φ] rfl rfl (one_of HT_.out (by kernel_rfl)) (by decide) (fun K hK => ?_)
         refine goes_ Tryd.func60 (by kernel_rfl) rfl #[.int .i64 x1_1] (by rfl) rfl rfl (by (try simp only [δd,δe,δf]);rfl) ?_
         with_reducible refine (laws_markText.calls k1 x1_1 t591 _ A5.out).mono ?_
         rintro e w26 ⟨rfl,hb⟩
         refine ⟨_,rfl,?_⟩
         have n0_:=ζa (δr (by exact HB.out) hb)
         clear HB
         have HB:=n0_
         clear n0_
         (try clear hb)
         (try clear hb2)
         (try clear hk)
         (try clear hi)
         refine hK.out _ _ ⟨((HB.out.cell (World.block_lt_of_cell? w _ hw590_0)).trans hw590_0),((HB.out.cell (World.block_lt_of_cell? w _ hw590_1)).trans hw590_1),((HB.out.cell (World.block_lt_of_cell? w _ hw590_2)).trans hw590_2),((HB.out.cell (World.block_lt_of_cell? w _ hw590_3)).trans hw590_3),((HB.out.cell (World.block_lt_of_cell? w _ hw590_4)).trans hw590_4),((HB.out.cell (World.block_lt_of_cell? w _ hw590_5)).trans hw590_5)⟩ (fun hHeld => ?_)
         clear hK K
         refine norm_ (a':=?_) ?_ ?_
         rotate_left
         ·
          show ζl _ (some 18) _=_
          simp only [ζl,δa,δb,δc,i64_w,i32_w];rfl
         refine ζk (i:=7) (N:=some 19) (v:=?_) (a':=?_) #[τ,τ,τ,τ,τ,τ,τ,τ] rfl rfl (ζj HT_.out (by kernel_rfl)) (fun _ _ _ h=>h) (Or.inl ⟨by rfl,?_⟩) ?_ ?_
         rotate_left
         · intro w';go_simp;with_reducible rfl
         rotate_left
         · simp only [ζl,δa,δb,δc,i64_w,i32_w];rfl
         refine done_ (done_of HT_.out (by kernel_rfl)) ?_
         try go_wp2
         have n0_:=ζa (δj HB.out)
         clear HB
         have HB:=n0_
         clear n0_
         have p592:0≤(x5_1:Int):=of_decide_eq_true (by (with_reducible assumption))
         have q592:x5_1<(l0.length:Int):=of_decide_eq_true (by (with_reducible assumption))
         obtain ⟨ad592,e592,hx592_0,hx592_1,hx592_2,hx592_3,hx592_4,hx592_5⟩:=at_T42 HR0.out x5_1 p592 q592
         have hw592_5:=hx592_5
         have hw592_4:=hx592_4
         have hw592_3:=hx592_3
         have hw592_2:=hx592_2
         have hw592_1:=hx592_1
         have hw592_0:=hx592_0
         obtain rfl:ad590=ad592:=(by injection e592)
         replace hx592_0:=(HB.out.cell (World.block_lt_of_cell? w _ hx592_0)).trans hx592_0
         replace hx592_1:=(HB.out.cell (World.block_lt_of_cell? w _ hx592_1)).trans hx592_1
         replace hx592_2:=(HB.out.cell (World.block_lt_of_cell? w _ hx592_2)).trans hx592_2
         replace hx592_3:=(HB.out.cell (World.block_lt_of_cell? w _ hx592_3)).trans hx592_3
         replace hx592_4:=(HB.out.cell (World.block_lt_of_cell? w _ hx592_4)).trans hx592_4
         replace hx592_5:=(HB.out.cell (World.block_lt_of_cell? w _ hx592_5)).trans hx592_5
         replace p592:=eq_true p592
         replace q592:=eq_true q592
         refine start_ (n:=8) (S:=fun w'=>w'.cell? (ad590.add ((x5_1).toNat * 6))=some (.string ((rd_T42 l0 x5_1).f0))∧w'.cell? ⟨(ad590.add ((x5_1).toNat * 6)).block,(ad590.add ((x5_1).toNat * 6)).off+1,none⟩=some (.string ((rd_T42 l0 x5_1).f1))∧w'.cell? ⟨(ad590.add ((x5_1).toNat * 6)).block,(ad590.add ((x5_1).toNat * 6)).off+2,none⟩=some (.int .i64 ((rd_T42 l0 x5_1).f2))∧w'.cell? ⟨(ad590.add ((x5_1).toNat * 6)).block,(ad590.add ((x5_1).toNat * 6)).off+3,none⟩=some (.int .i64 ((rd_T42 l0 x5_1).f3))∧w'.cell? ⟨(ad590.add ((x5_1).toNat * 6)).block,(ad590.add ((x5_1).toNat * 6)).off+4,none⟩=some (.int .i64 ((rd_T42 l0 x5_1).f4))∧w'.cell? ⟨(ad590.add ((x5_1).toNat * 6)).block,(ad590.add ((x5_1).toNat * 6)).off+5,none⟩=some (.bool ((rd_T42 l0 x5_1).f5))) (ds:=[]) #[φ,φ,φ,φ,φ,φ,φ,φ] (by kernel_rfl) rfl rfl ⟨((HB.out.cell (World.block_lt_of_cell? w _ hw592_0)).trans hw592_0),((HB.out.cell (World.block_lt_of_cell? w _ hw592_1)).trans hw592_1),((HB.out.cell (World.block_lt_of_cell? w _ hw592_2)).trans hw592_2),((HB.out.cell (World.block_lt_of_cell? w _ hw592_3)).trans hw592_3),((HB.out.cell (World.block_lt_of_cell? w _ hw592_4)).trans hw592_4),((HB.out.cell (World.block_lt_of_cell? w _ hw592_5)).trans hw592_5)⟩ (fun hHeld => ?_);refine with_tabW laws_heldOrderS.tab7 laws_heldOrderS.bits7 (fun HT_ HW_ => ?_)
         generalize w26.drew=w27 at HB hx592_0 hx592_1 hx592_2 hx592_3 hx592_4 hx592_5 hHeld ⊢
         refine ζk (i:=0) (N:=some 22) (v:=?_) (a':=?_) #[τ,φ,φ,φ,φ,φ,φ,φ] rfl rfl (ζj HT_.out (by kernel_rfl)) (fun _ _ _ h=>h) (Or.inl ⟨by rfl,?_⟩) ?_ ?_
         rotate_left
         · intro w';go_simp;with_reducible rfl
         rotate_left
         · simp only [ζl,δa,δb,δc,i64_w,i32_w];rfl
         refine ζk (i:=1) (N:=some 23) (v:=?_) (a':=?_) #[τ,τ,φ,φ,φ,φ,φ,φ] rfl rfl (ζj HT_.out (by kernel_rfl)) (fun _ _ _ h=>h) (Or.inl ⟨by rfl,?_⟩) ?_ ?_
         rotate_left
         · intro w';go_simp;with_reducible rfl
         rotate_left
         · simp only [ζl,δa,δb,δc,i64_w,i32_w];rfl
         refine ζk (i:=2) (N:=some 24) (v:=?_) (a':=?_) #[τ,τ,τ,φ,φ,φ,φ,φ] rfl rfl (ζj HT_.out (by kernel_rfl)) (fun _ _ _ h=>h) (Or.inl ⟨by rfl,?_⟩) ?_ ?_
         rotate_left
         · intro w';go_simp;with_reducible rfl
         rotate_left
         · simp only [ζl,δa,δb,δc,i64_w,i32_w];rfl
         refine ζk (i:=3) (N:=some 25) (v:=?_) (a':=?_) #[τ,τ,τ,τ,φ,φ,φ,φ] rfl rfl (ζj HT_.out (by kernel_rfl)) (fun _ _ _ h=>h) (Or.inl ⟨by rfl,?_⟩) ?_ ?_
         rotate_left
         · intro w';go_simp;with_reducible rfl
         rotate_left
         · simp only [ζl,δa,δb,δc,i64_w,i32_w];rfl
         refine ζk (i:=5) (N:=some 27) (v:=?_) (a':=?_) #[τ,τ,τ,τ,φ,τ,φ,φ] rfl rfl (ζj HT_.out (by kernel_rfl)) (fun _ _ _ h=>h) (Or.inl ⟨by rfl,?_⟩) ?_ ?_
         rotate_left
         · intro w';go_simp;with_reducible rfl
         rotate_left
         · simp only [ζl,δa,δb,δc,i64_w,i32_w];rfl
         refine take_ (i:=4) (N:=some 26) (v:=?_) (a':=?_) #[τ,τ,τ,τ,τ,τ,φ,φ] rfl rfl (take_ofW HT_.out HW_.out (by kernel_rfl)) (fun _ _ _ h=>h) (Or.inl ⟨by rfl,?_⟩) hHeld ?_ ?_
         rotate_left
         · rintro w' ⟨s0,s1,s2,s3,s4,s5⟩;go_simp;with_reducible rfl
         rotate_left
         · simp only [ζl,δa,δb,δc,i64_w,i32_w];rfl
         refine one_ (i:=6) (N:=some 28) #[τ,τ,τ,τ,τ,τ,τ,φ] rfl rfl (one_of HT_.out (by kernel_rfl)) (by decide) (fun K hK => ?_)
         refine goes_ Tryd.func60 (by kernel_rfl) rfl #[.int .i64 (ζm (x1_1+1))] (by rfl) rfl rfl (by (try simp only [δd,δe,δf]);rfl) ?_
         with_reducible refine (laws_markText.calls k1 (ζm (x1_1+1)) t593 _ A7.out).mono ?_
         rintro e w28 ⟨rfl,hb⟩
         refine ⟨_,rfl,?_⟩
         have n0_:=ζa (δr (by exact HB.out) hb)
         clear HB
         have HB:=n0_
         clear n0_
         (try clear hb)
         (try clear hb2)
         (try clear hk)
         (try clear hi)
         refine hK.out _ _ ⟨((HB.out.cell (World.block_lt_of_cell? w _ hw592_0)).trans hw592_0),((HB.out.cell (World.block_lt_of_cell? w _ hw592_1)).trans hw592_1),((HB.out.cell (World.block_lt_of_cell? w _ hw592_2)).trans hw592_2),((HB.out.cell (World.block_lt_of_cell? w _ hw592_3)).trans hw592_3),((HB.out.cell (World.block_lt_of_cell? w _ hw592_4)).trans hw592_4),((HB.out.cell (World.block_lt_of_cell? w _ hw592_5)).trans hw592_5)⟩ (fun hHeld => ?_)
         clear hK K
         refine norm_ (a':=?_) ?_ ?_
         rotate_left
         ·
          show ζl _ (some 28) _=_
          simp only [ζl,δa,δb,δc,i64_w,i32_w];rfl
         refine ζk (i:=7) (N:=some 29) (v:=?_) (a':=?_) #[τ,τ,τ,τ,τ,τ,τ,τ] rfl rfl (ζj HT_.out (by kernel_rfl)) (fun _ _ _ h=>h) (Or.inl ⟨by rfl,?_⟩) ?_ ?_
         rotate_left
         · intro w';go_simp;with_reducible rfl
         rotate_left
         · simp only [ζl,δa,δb,δc,i64_w,i32_w];rfl
         refine done_ (done_of HT_.out (by kernel_rfl)) ?_
         have p594:0≤(x5_1:Int):=of_decide_eq_true (by (with_reducible assumption))
         have q594:x5_1<(l0.length:Int):=of_decide_eq_true (by (with_reducible assumption))
         obtain ⟨ad594,e594,hx594_0,hx594_1,hx594_2,hx594_3,hx594_4,hx594_5⟩:=at_T42 HR0.out x5_1 p594 q594
         obtain rfl:ad590=ad594:=(by injection e594)
         replace hx594_0:=(HB.out.cell (World.block_lt_of_cell? w _ hx594_0)).trans hx594_0
         replace hx594_1:=(HB.out.cell (World.block_lt_of_cell? w _ hx594_1)).trans hx594_1
         replace hx594_2:=(HB.out.cell (World.block_lt_of_cell? w _ hx594_2)).trans hx594_2
         replace hx594_3:=(HB.out.cell (World.block_lt_of_cell? w _ hx594_3)).trans hx594_3
         replace hx594_4:=(HB.out.cell (World.block_lt_of_cell? w _ hx594_4)).trans hx594_4
         replace hx594_5:=(HB.out.cell (World.block_lt_of_cell? w _ hx594_5)).trans hx594_5
         replace p594:=eq_true p594
         replace q594:=eq_true q594
         have p595:0≤(x5_1:Int):=of_decide_eq_true (by (with_reducible assumption))
         have q595:x5_1<(l0.length:Int):=of_decide_eq_true (by (with_reducible assumption))
         obtain ⟨ad595,e595,hx595_0,hx595_1,hx595_2,hx595_3,hx595_4,hx595_5⟩:=at_T42 HR0.out x5_1 p595 q595
         obtain rfl:ad590=ad595:=(by injection e595)
         replace hx595_0:=(HB.out.cell (World.block_lt_of_cell? w _ hx595_0)).trans hx595_0
         replace hx595_1:=(HB.out.cell (World.block_lt_of_cell? w _ hx595_1)).trans hx595_1
         replace hx595_2:=(HB.out.cell (World.block_lt_of_cell? w _ hx595_2)).trans hx595_2
         replace hx595_3:=(HB.out.cell (World.block_lt_of_cell? w _ hx595_3)).trans hx595_3
         replace hx595_4:=(HB.out.cell (World.block_lt_of_cell? w _ hx595_4)).trans hx595_4
         replace hx595_5:=(HB.out.cell (World.block_lt_of_cell? w _ hx595_5)).trans hx595_5
         replace p595:=eq_true p595
         replace q595:=eq_true q595
         try go_wp2
         go_ret
         exact ⟨by rfl,by repeat ((with_reducible exact HB.out))⟩
       ·
        rw [if_neg c9] at H
        have c9b0:(((rd_T42 l0 x5_1).f2) == (ζm ((ζm (x1_1+1))+1)))=φ:=beq_eq_false_iff_ne.mpr c9
        have c9b1:(((rd_T42 l0 x5_1).f2) != (ζm ((ζm (x1_1+1))+1)))=τ:=bne_iff_ne.mpr c9
        obtain rfl:=Option.some.inj H
        try go_wp2
        have n0_:=ζa (δj HB.out)
        clear HB
        have HB:=n0_
        clear n0_
        have p590:0≤(x5_1:Int):=of_decide_eq_true (by (with_reducible assumption))
        have q590:x5_1<(l0.length:Int):=of_decide_eq_true (by (with_reducible assumption))
        obtain ⟨ad590,e590,hx590_0,hx590_1,hx590_2,hx590_3,hx590_4,hx590_5⟩:=at_T42 HR0.out x5_1 p590 q590
        have hw590_5:=hx590_5
        have hw590_4:=hx590_4
        have hw590_3:=hx590_3
        have hw590_2:=hx590_2
        have hw590_1:=hx590_1
        have hw590_0:=hx590_0
        cases e590
        replace hx590_0:=(HB.out.cell (World.block_lt_of_cell? w _ hx590_0)).trans hx590_0
        replace hx590_1:=(HB.out.cell (World.block_lt_of_cell? w _ hx590_1)).trans hx590_1
        replace hx590_2:=(HB.out.cell (World.block_lt_of_cell? w _ hx590_2)).trans hx590_2
        replace hx590_3:=(HB.out.cell (World.block_lt_of_cell? w _ hx590_3)).trans hx590_3
        replace hx590_4:=(HB.out.cell (World.block_lt_of_cell? w _ hx590_4)).trans hx590_4
        replace hx590_5:=(HB.out.cell (World.block_lt_of_cell? w _ hx590_5)).trans hx590_5
        replace p590:=eq_true p590
        replace q590:=eq_true q590
        refine start_ (n:=8) (S:=fun w'=>w'.cell? (ad590.add ((x5_1).toNat * 6))=some (.string ((rd_T42 l0 x5_1).f0))∧w'.cell? ⟨(ad590.add ((x5_1).toNat * 6)).block,(ad590.add ((x5_1).toNat * 6)).off+1,none⟩=some (.string ((rd_T42 l0 x5_1).f1))∧w'.cell? ⟨(ad590.add ((x5_1).toNat * 6)).block,(ad590.add ((x5_1).toNat * 6)).off+2,none⟩=some (.int .i64 ((rd_T42 l0 x5_1).f2))∧w'.cell? ⟨(ad590.add ((x5_1).toNat * 6)).block,(ad590.add ((x5_1).toNat * 6)).off+3,none⟩=some (.int .i64 ((rd_T42 l0 x5_1).f3))∧w'.cell? ⟨(ad590.add ((x5_1).toNat * 6)).block,(ad590.add ((x5_1).toNat * 6)).off+4,none⟩=some (.int .i64 ((rd_T42 l0 x5_1).f4))∧w'.cell? ⟨(ad590.add ((x5_1).toNat * 6)).block,(ad590.add ((x5_1).toNat * 6)).off+5,none⟩=some (.bool ((rd_T42 l0 x5_1).f5))) (ds:=[]) #[φ,φ,φ,φ,φ,φ,φ,φ] (by kernel_rfl) rfl rfl ⟨((HB.out.cell (World.block_lt_of_cell? w _ hw590_0)).trans hw590_0),((HB.out.cell (World.block_lt_of_cell? w _ hw590_1)).trans hw590_1),((HB.out.cell (World.block_lt_of_cell? w _ hw590_2)).trans hw590_2),((HB.out.cell (World.block_lt_of_cell? w _ hw590_3)).trans hw590_3),((HB.out.cell (World.block_lt_of_cell? w _ hw590_4)).trans hw590_4),((HB.out.cell (World.block_lt_of_cell? w _ hw590_5)).trans hw590_5)⟩ (fun hHeld => ?_);refine with_tabW laws_heldOrderS.tab4 laws_heldOrderS.bits4 (fun HT_ HW_ => ?_)
        generalize wr.drew=w29 at HB hx590_0 hx590_1 hx590_2 hx590_3 hx590_4 hx590_5 hHeld ⊢
        refine ζk (i:=0) (N:=some 12) (v:=?_) (a':=?_) #[τ,φ,φ,φ,φ,φ,φ,φ] rfl rfl (ζj HT_.out (by kernel_rfl)) (fun _ _ _ h=>h) (Or.inl ⟨by rfl,?_⟩) ?_ ?_
        rotate_left
        · intro w';go_simp;with_reducible rfl
        rotate_left
        · simp only [ζl,δa,δb,δc,i64_w,i32_w];rfl
        refine ζk (i:=1) (N:=some 13) (v:=?_) (a':=?_) #[τ,τ,φ,φ,φ,φ,φ,φ] rfl rfl (ζj HT_.out (by kernel_rfl)) (fun _ _ _ h=>h) (Or.inl ⟨by rfl,?_⟩) ?_ ?_
        rotate_left
        · intro w';go_simp;with_reducible rfl
        rotate_left
        · simp only [ζl,δa,δb,δc,i64_w,i32_w];rfl
        refine ζk (i:=2) (N:=some 14) (v:=?_) (a':=?_) #[τ,τ,τ,φ,φ,φ,φ,φ] rfl rfl (ζj HT_.out (by kernel_rfl)) (fun _ _ _ h=>h) (Or.inl ⟨by rfl,?_⟩) ?_ ?_
        rotate_left
        · intro w';go_simp;with_reducible rfl
        rotate_left
        · simp only [ζl,δa,δb,δc,i64_w,i32_w];rfl
        refine ζk (i:=3) (N:=some 15) (v:=?_) (a':=?_) #[τ,τ,τ,τ,φ,φ,φ,φ] rfl rfl (ζj HT_.out (by kernel_rfl)) (fun _ _ _ h=>h) (Or.inl ⟨by rfl,?_⟩) ?_ ?_
        rotate_left
        · intro w';go_simp;with_reducible rfl
        rotate_left
        · simp only [ζl,δa,δb,δc,i64_w,i32_w];rfl
        refine ζk (i:=5) (N:=some 17) (v:=?_) (a':=?_) #[τ,τ,τ,τ,φ,τ,φ,φ] rfl rfl (ζj HT_.out (by kernel_rfl)) (fun _ _ _ h=>h) (Or.inl ⟨by rfl,?_⟩) ?_ ?_
        rotate_left
        · intro w';go_simp;with_reducible rfl
        rotate_left
        · simp only [ζl,δa,δb,δc,i64_w,i32_w];rfl
        refine take_ (i:=4) (N:=some 16) (v:=?_) (a':=?_) #[τ,τ,τ,τ,τ,τ,φ,φ] rfl rfl (take_ofW HT_.out HW_.out (by kernel_rfl)) (fun _ _ _ h=>h) (Or.inl ⟨by rfl,?_⟩) hHeld ?_ ?_
        rotate_left
        · rintro w' ⟨s0,s1,s2,s3,s4,s5⟩;go_simp;with_reducible rfl
        rotate_left
        · simp only [ζl,δa,δb,δc,i64_w,i32_w];rfl
        refine one_ (i:=6) (N:=some 18) #[τ,τ,τ,τ,τ,τ,τ,φ] rfl rfl (one_of HT_.out (by kernel_rfl)) (by decide) (fun K hK => ?_)
        refine goes_ Tryd.func60 (by kernel_rfl) rfl #[.int .i64 x1_1] (by rfl) rfl rfl (by (try simp only [δd,δe,δf]);rfl) ?_
        with_reducible refine (laws_markText.calls k1 x1_1 t591 _ A5.out).mono ?_
        rintro e w30 ⟨rfl,hb⟩
        refine ⟨_,rfl,?_⟩
        have n0_:=ζa (δr (by exact HB.out) hb)
        clear HB
        have HB:=n0_
        clear n0_
        (try clear hb)
        (try clear hb2)
        (try clear hk)
        (try clear hi)
        refine hK.out _ _ ⟨((HB.out.cell (World.block_lt_of_cell? w _ hw590_0)).trans hw590_0),((HB.out.cell (World.block_lt_of_cell? w _ hw590_1)).trans hw590_1),((HB.out.cell (World.block_lt_of_cell? w _ hw590_2)).trans hw590_2),((HB.out.cell (World.block_lt_of_cell? w _ hw590_3)).trans hw590_3),((HB.out.cell (World.block_lt_of_cell? w _ hw590_4)).trans hw590_4),((HB.out.cell (World.block_lt_of_cell? w _ hw590_5)).trans hw590_5)⟩ (fun hHeld => ?_)
        clear hK K
        refine norm_ (a':=?_) ?_ ?_
        rotate_left
        ·
         show ζl _ (some 18) _=_
         simp only [ζl,δa,δb,δc,i64_w,i32_w];rfl
        refine ζk (i:=7) (N:=some 19) (v:=?_) (a':=?_) #[τ,τ,τ,τ,τ,τ,τ,τ] rfl rfl (ζj HT_.out (by kernel_rfl)) (fun _ _ _ h=>h) (Or.inl ⟨by rfl,?_⟩) ?_ ?_
        rotate_left
        · intro w';go_simp;with_reducible rfl
        rotate_left
        · simp only [ζl,δa,δb,δc,i64_w,i32_w];rfl
        refine done_ (done_of HT_.out (by kernel_rfl)) ?_
        try go_wp2
        have n0_:=ζa (δj HB.out)
        clear HB
        have HB:=n0_
        clear n0_
        have p592:0≤(x5_1:Int):=of_decide_eq_true (by (with_reducible assumption))
        have q592:x5_1<(l0.length:Int):=of_decide_eq_true (by (with_reducible assumption))
        obtain ⟨ad592,e592,hx592_0,hx592_1,hx592_2,hx592_3,hx592_4,hx592_5⟩:=at_T42 HR0.out x5_1 p592 q592
        have hw592_5:=hx592_5
        have hw592_4:=hx592_4
        have hw592_3:=hx592_3
        have hw592_2:=hx592_2
        have hw592_1:=hx592_1
        have hw592_0:=hx592_0
        obtain rfl:ad590=ad592:=(by injection e592)
        replace hx592_0:=(HB.out.cell (World.block_lt_of_cell? w _ hx592_0)).trans hx592_0
        replace hx592_1:=(HB.out.cell (World.block_lt_of_cell? w _ hx592_1)).trans hx592_1
        replace hx592_2:=(HB.out.cell (World.block_lt_of_cell? w _ hx592_2)).trans hx592_2
        replace hx592_3:=(HB.out.cell (World.block_lt_of_cell? w _ hx592_3)).trans hx592_3
        replace hx592_4:=(HB.out.cell (World.block_lt_of_cell? w _ hx592_4)).trans hx592_4
        replace hx592_5:=(HB.out.cell (World.block_lt_of_cell? w _ hx592_5)).trans hx592_5
        replace p592:=eq_true p592
        replace q592:=eq_true q592
        refine start_ (n:=8) (S:=fun w'=>w'.cell? (ad590.add ((x5_1).toNat * 6))=some (.string ((rd_T42 l0 x5_1).f0))∧w'.cell? ⟨(ad590.add ((x5_1).toNat * 6)).block,(ad590.add ((x5_1).toNat * 6)).off+1,none⟩=some (.string ((rd_T42 l0 x5_1).f1))∧w'.cell? ⟨(ad590.add ((x5_1).toNat * 6)).block,(ad590.add ((x5_1).toNat * 6)).off+2,none⟩=some (.int .i64 ((rd_T42 l0 x5_1).f2))∧w'.cell? ⟨(ad590.add ((x5_1).toNat * 6)).block,(ad590.add ((x5_1).toNat * 6)).off+3,none⟩=some (.int .i64 ((rd_T42 l0 x5_1).f3))∧w'.cell? ⟨(ad590.add ((x5_1).toNat * 6)).block,(ad590.add ((x5_1).toNat * 6)).off+4,none⟩=some (.int .i64 ((rd_T42 l0 x5_1).f4))∧w'.cell? ⟨(ad590.add ((x5_1).toNat * 6)).block,(ad590.add ((x5_1).toNat * 6)).off+5,none⟩=some (.bool ((rd_T42 l0 x5_1).f5))) (ds:=[]) #[φ,φ,φ,φ,φ,φ,φ,φ] (by kernel_rfl) rfl rfl ⟨((HB.out.cell (World.block_lt_of_cell? w _ hw592_0)).trans hw592_0),((HB.out.cell (World.block_lt_of_cell? w _ hw592_1)).trans hw592_1),((HB.out.cell (World.block_lt_of_cell? w _ hw592_2)).trans hw592_2),((HB.out.cell (World.block_lt_of_cell? w _ hw592_3)).trans hw592_3),((HB.out.cell (World.block_lt_of_cell? w _ hw592_4)).trans hw592_4),((HB.out.cell (World.block_lt_of_cell? w _ hw592_5)).trans hw592_5)⟩ (fun hHeld => ?_);refine with_tabW laws_heldOrderS.tab7 laws_heldOrderS.bits7 (fun HT_ HW_ => ?_)
        generalize w30.drew=w31 at HB hx592_0 hx592_1 hx592_2 hx592_3 hx592_4 hx592_5 hHeld ⊢
        refine ζk (i:=0) (N:=some 22) (v:=?_) (a':=?_) #[τ,φ,φ,φ,φ,φ,φ,φ] rfl rfl (ζj HT_.out (by kernel_rfl)) (fun _ _ _ h=>h) (Or.inl ⟨by rfl,?_⟩) ?_ ?_
        rotate_left
        · intro w';go_simp;with_reducible rfl
        rotate_left
        · simp only [ζl,δa,δb,δc,i64_w,i32_w];rfl
        refine ζk (i:=1) (N:=some 23) (v:=?_) (a':=?_) #[τ,τ,φ,φ,φ,φ,φ,φ] rfl rfl (ζj HT_.out (by kernel_rfl)) (fun _ _ _ h=>h) (Or.inl ⟨by rfl,?_⟩) ?_ ?_
        rotate_left
        · intro w';go_simp;with_reducible rfl
        rotate_left
        · simp only [ζl,δa,δb,δc,i64_w,i32_w];rfl
        refine ζk (i:=2) (N:=some 24) (v:=?_) (a':=?_) #[τ,τ,τ,φ,φ,φ,φ,φ] rfl rfl (ζj HT_.out (by kernel_rfl)) (fun _ _ _ h=>h) (Or.inl ⟨by rfl,?_⟩) ?_ ?_
        rotate_left
        · intro w';go_simp;with_reducible rfl
        rotate_left
        · simp only [ζl,δa,δb,δc,i64_w,i32_w];rfl
        refine ζk (i:=3) (N:=some 25) (v:=?_) (a':=?_) #[τ,τ,τ,τ,φ,φ,φ,φ] rfl rfl (ζj HT_.out (by kernel_rfl)) (fun _ _ _ h=>h) (Or.inl ⟨by rfl,?_⟩) ?_ ?_
        rotate_left
        · intro w';go_simp;with_reducible rfl
        rotate_left
        · simp only [ζl,δa,δb,δc,i64_w,i32_w];rfl
        refine ζk (i:=5) (N:=some 27) (v:=?_) (a':=?_) #[τ,τ,τ,τ,φ,τ,φ,φ] rfl rfl (ζj HT_.out (by kernel_rfl)) (fun _ _ _ h=>h) (Or.inl ⟨by rfl,?_⟩) ?_ ?_
        rotate_left
        · intro w';go_simp;with_reducible rfl
        rotate_left
        · simp only [ζl,δa,δb,δc,i64_w,i32_w];rfl
        refine take_ (i:=4) (N:=some 26) (v:=?_) (a':=?_) #[τ,τ,τ,τ,τ,τ,φ,φ] rfl rfl (take_ofW HT_.out HW_.out (by kernel_rfl)) (fun _ _ _ h=>h) (Or.inl ⟨by rfl,?_⟩) hHeld ?_ ?_
        rotate_left
        · rintro w' ⟨s0,s1,s2,s3,s4,s5⟩;go_simp;with_reducible rfl
        rotate_left
        · simp only [ζl,δa,δb,δc,i64_w,i32_w];rfl
        refine one_ (i:=6) (N:=some 28) #[τ,τ,τ,τ,τ,τ,τ,φ] rfl rfl (one_of HT_.out (by kernel_rfl)) (by decide) (fun K hK => ?_)
        refine goes_ Tryd.func60 (by kernel_rfl) rfl #[.int .i64 (ζm (x1_1+1))] (by rfl) rfl rfl (by (try simp only [δd,δe,δf]);rfl) ?_
        with_reducible refine (laws_markText.calls k1 (ζm (x1_1+1)) t593 _ A7.out).mono ?_
        rintro e w32 ⟨rfl,hb⟩
        refine ⟨_,rfl,?_⟩
        have n0_:=ζa (δr (by exact HB.out) hb)
        clear HB
        have HB:=n0_
        clear n0_
        (try clear hb)
        (try clear hb2)
        (try clear hk)
        (try clear hi)
        refine hK.out _ _ ⟨((HB.out.cell (World.block_lt_of_cell? w _ hw592_0)).trans hw592_0),((HB.out.cell (World.block_lt_of_cell? w _ hw592_1)).trans hw592_1),((HB.out.cell (World.block_lt_of_cell? w _ hw592_2)).trans hw592_2),((HB.out.cell (World.block_lt_of_cell? w _ hw592_3)).trans hw592_3),((HB.out.cell (World.block_lt_of_cell? w _ hw592_4)).trans hw592_4),((HB.out.cell (World.block_lt_of_cell? w _ hw592_5)).trans hw592_5)⟩ (fun hHeld => ?_)
        clear hK K
        refine norm_ (a':=?_) ?_ ?_
        rotate_left
        ·
         show ζl _ (some 28) _=_
         simp only [ζl,δa,δb,δc,i64_w,i32_w];rfl
        refine ζk (i:=7) (N:=some 29) (v:=?_) (a':=?_) #[τ,τ,τ,τ,τ,τ,τ,τ] rfl rfl (ζj HT_.out (by kernel_rfl)) (fun _ _ _ h=>h) (Or.inl ⟨by rfl,?_⟩) ?_ ?_
        rotate_left
        · intro w';go_simp;with_reducible rfl
        rotate_left
        · simp only [ζl,δa,δb,δc,i64_w,i32_w];rfl
        refine done_ (done_of HT_.out (by kernel_rfl)) ?_
        have p594:0≤(x5_1:Int):=of_decide_eq_true (by (with_reducible assumption))
        have q594:x5_1<(l0.length:Int):=of_decide_eq_true (by (with_reducible assumption))
        obtain ⟨ad594,e594,hx594_0,hx594_1,hx594_2,hx594_3,hx594_4,hx594_5⟩:=at_T42 HR0.out x5_1 p594 q594
        obtain rfl:ad590=ad594:=(by injection e594)
        replace hx594_0:=(HB.out.cell (World.block_lt_of_cell? w _ hx594_0)).trans hx594_0
        replace hx594_1:=(HB.out.cell (World.block_lt_of_cell? w _ hx594_1)).trans hx594_1
        replace hx594_2:=(HB.out.cell (World.block_lt_of_cell? w _ hx594_2)).trans hx594_2
        replace hx594_3:=(HB.out.cell (World.block_lt_of_cell? w _ hx594_3)).trans hx594_3
        replace hx594_4:=(HB.out.cell (World.block_lt_of_cell? w _ hx594_4)).trans hx594_4
        replace hx594_5:=(HB.out.cell (World.block_lt_of_cell? w _ hx594_5)).trans hx594_5
        replace p594:=eq_true p594
        replace q594:=eq_true q594
        try go_wp2
        go_ret
        exact ⟨by rfl,by repeat ((with_reducible exact HB.out))⟩
      ·
       rw [if_neg c8] at H
       have c8b0:(((rd_T42 l0 x5_1).f1).toList == t593.toList)=φ:=beq_eq_false_iff_ne.mpr c8
       have c8b1:(((rd_T42 l0 x5_1).f1).toList != t593.toList)=τ:=bne_iff_ne.mpr c8
       obtain rfl:=Option.some.inj H
       try go_wp2
       have n0_:=ζa (δj HB.out)
       clear HB
       have HB:=n0_
       clear n0_
       have p590:0≤(x5_1:Int):=of_decide_eq_true (by (with_reducible assumption))
       have q590:x5_1<(l0.length:Int):=of_decide_eq_true (by (with_reducible assumption))
       obtain ⟨ad590,e590,hx590_0,hx590_1,hx590_2,hx590_3,hx590_4,hx590_5⟩:=at_T42 HR0.out x5_1 p590 q590
       have hw590_5:=hx590_5
       have hw590_4:=hx590_4
       have hw590_3:=hx590_3
       have hw590_2:=hx590_2
       have hw590_1:=hx590_1
       have hw590_0:=hx590_0
       cases e590
       replace hx590_0:=(HB.out.cell (World.block_lt_of_cell? w _ hx590_0)).trans hx590_0
       replace hx590_1:=(HB.out.cell (World.block_lt_of_cell? w _ hx590_1)).trans hx590_1
       replace hx590_2:=(HB.out.cell (World.block_lt_of_cell? w _ hx590_2)).trans hx590_2
       replace hx590_3:=(HB.out.cell (World.block_lt_of_cell? w _ hx590_3)).trans hx590_3
       replace hx590_4:=(HB.out.cell (World.block_lt_of_cell? w _ hx590_4)).trans hx590_4
       replace hx590_5:=(HB.out.cell (World.block_lt_of_cell? w _ hx590_5)).trans hx590_5
       replace p590:=eq_true p590
       replace q590:=eq_true q590
       refine start_ (n:=8) (S:=fun w'=>w'.cell? (ad590.add ((x5_1).toNat * 6))=some (.string ((rd_T42 l0 x5_1).f0))∧w'.cell? ⟨(ad590.add ((x5_1).toNat * 6)).block,(ad590.add ((x5_1).toNat * 6)).off+1,none⟩=some (.string ((rd_T42 l0 x5_1).f1))∧w'.cell? ⟨(ad590.add ((x5_1).toNat * 6)).block,(ad590.add ((x5_1).toNat * 6)).off+2,none⟩=some (.int .i64 ((rd_T42 l0 x5_1).f2))∧w'.cell? ⟨(ad590.add ((x5_1).toNat * 6)).block,(ad590.add ((x5_1).toNat * 6)).off+3,none⟩=some (.int .i64 ((rd_T42 l0 x5_1).f3))∧w'.cell? ⟨(ad590.add ((x5_1).toNat * 6)).block,(ad590.add ((x5_1).toNat * 6)).off+4,none⟩=some (.int .i64 ((rd_T42 l0 x5_1).f4))∧w'.cell? ⟨(ad590.add ((x5_1).toNat * 6)).block,(ad590.add ((x5_1).toNat * 6)).off+5,none⟩=some (.bool ((rd_T42 l0 x5_1).f5))) (ds:=[]) #[φ,φ,φ,φ,φ,φ,φ,φ] (by kernel_rfl) rfl rfl ⟨((HB.out.cell (World.block_lt_of_cell? w _ hw590_0)).trans hw590_0),((HB.out.cell (World.block_lt_of_cell? w _ hw590_1)).trans hw590_1),((HB.out.cell (World.block_lt_of_cell? w _ hw590_2)).trans hw590_2),((HB.out.cell (World.block_lt_of_cell? w _ hw590_3)).trans hw590_3),((HB.out.cell (World.block_lt_of_cell? w _ hw590_4)).trans hw590_4),((HB.out.cell (World.block_lt_of_cell? w _ hw590_5)).trans hw590_5)⟩ (fun hHeld => ?_);refine with_tabW laws_heldOrderS.tab4 laws_heldOrderS.bits4 (fun HT_ HW_ => ?_)
       generalize wr.drew=w33 at HB hx590_0 hx590_1 hx590_2 hx590_3 hx590_4 hx590_5 hHeld ⊢
       refine ζk (i:=0) (N:=some 12) (v:=?_) (a':=?_) #[τ,φ,φ,φ,φ,φ,φ,φ] rfl rfl (ζj HT_.out (by kernel_rfl)) (fun _ _ _ h=>h) (Or.inl ⟨by rfl,?_⟩) ?_ ?_
       rotate_left
       · intro w';go_simp;with_reducible rfl
       rotate_left
       · simp only [ζl,δa,δb,δc,i64_w,i32_w];rfl
       refine ζk (i:=1) (N:=some 13) (v:=?_) (a':=?_) #[τ,τ,φ,φ,φ,φ,φ,φ] rfl rfl (ζj HT_.out (by kernel_rfl)) (fun _ _ _ h=>h) (Or.inl ⟨by rfl,?_⟩) ?_ ?_
       rotate_left
       · intro w';go_simp;with_reducible rfl
       rotate_left
       · simp only [ζl,δa,δb,δc,i64_w,i32_w];rfl
       refine ζk (i:=2) (N:=some 14) (v:=?_) (a':=?_) #[τ,τ,τ,φ,φ,φ,φ,φ] rfl rfl (ζj HT_.out (by kernel_rfl)) (fun _ _ _ h=>h) (Or.inl ⟨by rfl,?_⟩) ?_ ?_
       rotate_left
       · intro w';go_simp;with_reducible rfl
       rotate_left
       · simp only [ζl,δa,δb,δc,i64_w,i32_w];rfl
       refine ζk (i:=3) (N:=some 15) (v:=?_) (a':=?_) #[τ,τ,τ,τ,φ,φ,φ,φ] rfl rfl (ζj HT_.out (by kernel_rfl)) (fun _ _ _ h=>h) (Or.inl ⟨by rfl,?_⟩) ?_ ?_
       rotate_left
       · intro w';go_simp;with_reducible rfl
       rotate_left
       · simp only [ζl,δa,δb,δc,i64_w,i32_w];rfl
       refine ζk (i:=5) (N:=some 17) (v:=?_) (a':=?_) #[τ,τ,τ,τ,φ,τ,φ,φ] rfl rfl (ζj HT_.out (by kernel_rfl)) (fun _ _ _ h=>h) (Or.inl ⟨by rfl,?_⟩) ?_ ?_
       rotate_left
       · intro w';go_simp;with_reducible rfl
       rotate_left
       · simp only [ζl,δa,δb,δc,i64_w,i32_w];rfl
       refine take_ (i:=4) (N:=some 16) (v:=?_) (a':=?_) #[τ,τ,τ,τ,τ,τ,φ,φ] rfl rfl (take_ofW HT_.out HW_.out (by kernel_rfl)) (fun _ _ _ h=>h) (Or.inl ⟨by rfl,?_⟩) hHeld ?_ ?_
       rotate_left
       · rintro w' ⟨s0,s1,s2,s3,s4,s5⟩;go_simp;with_reducible rfl
       rotate_left
       · simp only [ζl,δa,δb,δc,i64_w,i32_w];rfl
       refine one_ (i:=6) (N:=some 18) #[τ,τ,τ,τ,τ,τ,τ,φ] rfl rfl (one_of HT_.out (by kernel_rfl)) (by decide) (fun K hK => ?_)
       refine goes_ Tryd.func60 (by kernel_rfl) rfl #[.int .i64 x1_1] (by rfl) rfl rfl (by (try simp only [δd,δe,δf]);rfl) ?_
       with_reducible refine (laws_markText.calls k1 x1_1 t591 _ A5.out).mono ?_
       rintro e w34 ⟨rfl,hb⟩
       refine ⟨_,rfl,?_⟩
       have n0_:=ζa (δr (by exact HB.out) hb)
       clear HB
       have HB:=n0_
       clear n0_
       (try clear hb)
       (try clear hb2)
       (try clear hk)
       (try clear hi)
       refine hK.out _ _ ⟨((HB.out.cell (World.block_lt_of_cell? w _ hw590_0)).trans hw590_0),((HB.out.cell (World.block_lt_of_cell? w _ hw590_1)).trans hw590_1),((HB.out.cell (World.block_lt_of_cell? w _ hw590_2)).trans hw590_2),((HB.out.cell (World.block_lt_of_cell? w _ hw590_3)).trans hw590_3),((HB.out.cell (World.block_lt_of_cell? w _ hw590_4)).trans hw590_4),((HB.out.cell (World.block_lt_of_cell? w _ hw590_5)).trans hw590_5)⟩ (fun hHeld => ?_)
       clear hK K
       refine norm_ (a':=?_) ?_ ?_
       rotate_left
       ·
        show ζl _ (some 18) _=_
        simp only [ζl,δa,δb,δc,i64_w,i32_w];rfl
       refine ζk (i:=7) (N:=some 19) (v:=?_) (a':=?_) #[τ,τ,τ,τ,τ,τ,τ,τ] rfl rfl (ζj HT_.out (by kernel_rfl)) (fun _ _ _ h=>h) (Or.inl ⟨by rfl,?_⟩) ?_ ?_
       rotate_left
       · intro w';go_simp;with_reducible rfl
       rotate_left
       · simp only [ζl,δa,δb,δc,i64_w,i32_w];rfl
       refine done_ (done_of HT_.out (by kernel_rfl)) ?_
       try go_wp2
       have n0_:=ζa (δj HB.out)
       clear HB
       have HB:=n0_
       clear n0_
       have p592:0≤(x5_1:Int):=of_decide_eq_true (by (with_reducible assumption))
       have q592:x5_1<(l0.length:Int):=of_decide_eq_true (by (with_reducible assumption))
       obtain ⟨ad592,e592,hx592_0,hx592_1,hx592_2,hx592_3,hx592_4,hx592_5⟩:=at_T42 HR0.out x5_1 p592 q592
       have hw592_5:=hx592_5
       have hw592_4:=hx592_4
       have hw592_3:=hx592_3
       have hw592_2:=hx592_2
       have hw592_1:=hx592_1
       have hw592_0:=hx592_0
       obtain rfl:ad590=ad592:=(by injection e592)
       replace hx592_0:=(HB.out.cell (World.block_lt_of_cell? w _ hx592_0)).trans hx592_0
       replace hx592_1:=(HB.out.cell (World.block_lt_of_cell? w _ hx592_1)).trans hx592_1
       replace hx592_2:=(HB.out.cell (World.block_lt_of_cell? w _ hx592_2)).trans hx592_2
       replace hx592_3:=(HB.out.cell (World.block_lt_of_cell? w _ hx592_3)).trans hx592_3
       replace hx592_4:=(HB.out.cell (World.block_lt_of_cell? w _ hx592_4)).trans hx592_4
       replace hx592_5:=(HB.out.cell (World.block_lt_of_cell? w _ hx592_5)).trans hx592_5
       replace p592:=eq_true p592
       replace q592:=eq_true q592
       refine start_ (n:=8) (S:=fun w'=>w'.cell? (ad590.add ((x5_1).toNat * 6))=some (.string ((rd_T42 l0 x5_1).f0))∧w'.cell? ⟨(ad590.add ((x5_1).toNat * 6)).block,(ad590.add ((x5_1).toNat * 6)).off+1,none⟩=some (.string ((rd_T42 l0 x5_1).f1))∧w'.cell? ⟨(ad590.add ((x5_1).toNat * 6)).block,(ad590.add ((x5_1).toNat * 6)).off+2,none⟩=some (.int .i64 ((rd_T42 l0 x5_1).f2))∧w'.cell? ⟨(ad590.add ((x5_1).toNat * 6)).block,(ad590.add ((x5_1).toNat * 6)).off+3,none⟩=some (.int .i64 ((rd_T42 l0 x5_1).f3))∧w'.cell? ⟨(ad590.add ((x5_1).toNat * 6)).block,(ad590.add ((x5_1).toNat * 6)).off+4,none⟩=some (.int .i64 ((rd_T42 l0 x5_1).f4))∧w'.cell? ⟨(ad590.add ((x5_1).toNat * 6)).block,(ad590.add ((x5_1).toNat * 6)).off+5,none⟩=some (.bool ((rd_T42 l0 x5_1).f5))) (ds:=[]) #[φ,φ,φ,φ,φ,φ,φ,φ] (by kernel_rfl) rfl rfl ⟨((HB.out.cell (World.block_lt_of_cell? w _ hw592_0)).trans hw592_0),((HB.out.cell (World.block_lt_of_cell? w _ hw592_1)).trans hw592_1),((HB.out.cell (World.block_lt_of_cell? w _ hw592_2)).trans hw592_2),((HB.out.cell (World.block_lt_of_cell? w _ hw592_3)).trans hw592_3),((HB.out.cell (World.block_lt_of_cell? w _ hw592_4)).trans hw592_4),((HB.out.cell (World.block_lt_of_cell? w _ hw592_5)).trans hw592_5)⟩ (fun hHeld => ?_);refine with_tabW laws_heldOrderS.tab7 laws_heldOrderS.bits7 (fun HT_ HW_ => ?_)
       generalize w34.drew=w35 at HB hx592_0 hx592_1 hx592_2 hx592_3 hx592_4 hx592_5 hHeld ⊢
       refine ζk (i:=0) (N:=some 22) (v:=?_) (a':=?_) #[τ,φ,φ,φ,φ,φ,φ,φ] rfl rfl (ζj HT_.out (by kernel_rfl)) (fun _ _ _ h=>h) (Or.inl ⟨by rfl,?_⟩) ?_ ?_
       rotate_left
       · intro w';go_simp;with_reducible rfl
       rotate_left
       · simp only [ζl,δa,δb,δc,i64_w,i32_w];rfl
       refine ζk (i:=1) (N:=some 23) (v:=?_) (a':=?_) #[τ,τ,φ,φ,φ,φ,φ,φ] rfl rfl (ζj HT_.out (by kernel_rfl)) (fun _ _ _ h=>h) (Or.inl ⟨by rfl,?_⟩) ?_ ?_
       rotate_left
       · intro w';go_simp;with_reducible rfl
       rotate_left
       · simp only [ζl,δa,δb,δc,i64_w,i32_w];rfl
       refine ζk (i:=2) (N:=some 24) (v:=?_) (a':=?_) #[τ,τ,τ,φ,φ,φ,φ,φ] rfl rfl (ζj HT_.out (by kernel_rfl)) (fun _ _ _ h=>h) (Or.inl ⟨by rfl,?_⟩) ?_ ?_
       rotate_left
       · intro w';go_simp;with_reducible rfl
       rotate_left
       · simp only [ζl,δa,δb,δc,i64_w,i32_w];rfl
       refine ζk (i:=3) (N:=some 25) (v:=?_) (a':=?_) #[τ,τ,τ,τ,φ,φ,φ,φ] rfl rfl (ζj HT_.out (by kernel_rfl)) (fun _ _ _ h=>h) (Or.inl ⟨by rfl,?_⟩) ?_ ?_
       rotate_left
       · intro w';go_simp;with_reducible rfl
       rotate_left
       · simp only [ζl,δa,δb,δc,i64_w,i32_w];rfl
       refine ζk (i:=5) (N:=some 27) (v:=?_) (a':=?_) #[τ,τ,τ,τ,φ,τ,φ,φ] rfl rfl (ζj HT_.out (by kernel_rfl)) (fun _ _ _ h=>h) (Or.inl ⟨by rfl,?_⟩) ?_ ?_
       rotate_left
       · intro w';go_simp;with_reducible rfl
       rotate_left
       · simp only [ζl,δa,δb,δc,i64_w,i32_w];rfl
       refine take_ (i:=4) (N:=some 26) (v:=?_) (a':=?_) #[τ,τ,τ,τ,τ,τ,φ,φ] rfl rfl (take_ofW HT_.out HW_.out (by kernel_rfl)) (fun _ _ _ h=>h) (Or.inl ⟨by rfl,?_⟩) hHeld ?_ ?_
       rotate_left
       · rintro w' ⟨s0,s1,s2,s3,s4,s5⟩;go_simp;with_reducible rfl
       rotate_left
       · simp only [ζl,δa,δb,δc,i64_w,i32_w];rfl
       refine one_ (i:=6) (N:=some 28) #[τ,τ,τ,τ,τ,τ,τ,φ] rfl rfl (one_of HT_.out (by kernel_rfl)) (by decide) (fun K hK => ?_)
       refine goes_ Tryd.func60 (by kernel_rfl) rfl #[.int .i64 (ζm (x1_1+1))] (by rfl) rfl rfl (by (try simp only [δd,δe,δf]);rfl) ?_
       with_reducible refine (laws_markText.calls k1 (ζm (x1_1+1)) t593 _ A7.out).mono ?_
       rintro e w36 ⟨rfl,hb⟩
       refine ⟨_,rfl,?_⟩
       have n0_:=ζa (δr (by exact HB.out) hb)
       clear HB
       have HB:=n0_
       clear n0_
       (try clear hb)
       (try clear hb2)
       (try clear hk)
       (try clear hi)
       refine hK.out _ _ ⟨((HB.out.cell (World.block_lt_of_cell? w _ hw592_0)).trans hw592_0),((HB.out.cell (World.block_lt_of_cell? w _ hw592_1)).trans hw592_1),((HB.out.cell (World.block_lt_of_cell? w _ hw592_2)).trans hw592_2),((HB.out.cell (World.block_lt_of_cell? w _ hw592_3)).trans hw592_3),((HB.out.cell (World.block_lt_of_cell? w _ hw592_4)).trans hw592_4),((HB.out.cell (World.block_lt_of_cell? w _ hw592_5)).trans hw592_5)⟩ (fun hHeld => ?_)
       clear hK K
       refine norm_ (a':=?_) ?_ ?_
       rotate_left
       ·
        show ζl _ (some 28) _=_
        simp only [ζl,δa,δb,δc,i64_w,i32_w];rfl
       refine ζk (i:=7) (N:=some 29) (v:=?_) (a':=?_) #[τ,τ,τ,τ,τ,τ,τ,τ] rfl rfl (ζj HT_.out (by kernel_rfl)) (fun _ _ _ h=>h) (Or.inl ⟨by rfl,?_⟩) ?_ ?_
       rotate_left
       · intro w';go_simp;with_reducible rfl
       rotate_left
       · simp only [ζl,δa,δb,δc,i64_w,i32_w];rfl
       refine done_ (done_of HT_.out (by kernel_rfl)) ?_
       try go_wp2
       go_ret
       exact ⟨by rfl,by repeat ((with_reducible exact HB.out))⟩
     ·
      rw [if_neg c6] at H
      have c6b0:(((rd_T42 l0 x5_1).f0).toList == t591.toList)=φ:=beq_eq_false_iff_ne.mpr c6
      have c6b1:(((rd_T42 l0 x5_1).f0).toList != t591.toList)=τ:=bne_iff_ne.mpr c6
      obtain rfl:=Option.some.inj H
      try go_wp2
      have n0_:=ζa (δj HB.out)
      clear HB
      have HB:=n0_
      clear n0_
      have p590:0≤(x5_1:Int):=of_decide_eq_true (by (with_reducible assumption))
      have q590:x5_1<(l0.length:Int):=of_decide_eq_true (by (with_reducible assumption))
      obtain ⟨ad590,e590,hx590_0,hx590_1,hx590_2,hx590_3,hx590_4,hx590_5⟩:=at_T42 HR0.out x5_1 p590 q590
      have hw590_5:=hx590_5
      have hw590_4:=hx590_4
      have hw590_3:=hx590_3
      have hw590_2:=hx590_2
      have hw590_1:=hx590_1
      have hw590_0:=hx590_0
      cases e590
      replace hx590_0:=(HB.out.cell (World.block_lt_of_cell? w _ hx590_0)).trans hx590_0
      replace hx590_1:=(HB.out.cell (World.block_lt_of_cell? w _ hx590_1)).trans hx590_1
      replace hx590_2:=(HB.out.cell (World.block_lt_of_cell? w _ hx590_2)).trans hx590_2
      replace hx590_3:=(HB.out.cell (World.block_lt_of_cell? w _ hx590_3)).trans hx590_3
      replace hx590_4:=(HB.out.cell (World.block_lt_of_cell? w _ hx590_4)).trans hx590_4
      replace hx590_5:=(HB.out.cell (World.block_lt_of_cell? w _ hx590_5)).trans hx590_5
      replace p590:=eq_true p590
      replace q590:=eq_true q590
      refine start_ (n:=8) (S:=fun w'=>w'.cell? (ad590.add ((x5_1).toNat * 6))=some (.string ((rd_T42 l0 x5_1).f0))∧w'.cell? ⟨(ad590.add ((x5_1).toNat * 6)).block,(ad590.add ((x5_1).toNat * 6)).off+1,none⟩=some (.string ((rd_T42 l0 x5_1).f1))∧w'.cell? ⟨(ad590.add ((x5_1).toNat * 6)).block,(ad590.add ((x5_1).toNat * 6)).off+2,none⟩=some (.int .i64 ((rd_T42 l0 x5_1).f2))∧w'.cell? ⟨(ad590.add ((x5_1).toNat * 6)).block,(ad590.add ((x5_1).toNat * 6)).off+3,none⟩=some (.int .i64 ((rd_T42 l0 x5_1).f3))∧w'.cell? ⟨(ad590.add ((x5_1).toNat * 6)).block,(ad590.add ((x5_1).toNat * 6)).off+4,none⟩=some (.int .i64 ((rd_T42 l0 x5_1).f4))∧w'.cell? ⟨(ad590.add ((x5_1).toNat * 6)).block,(ad590.add ((x5_1).toNat * 6)).off+5,none⟩=some (.bool ((rd_T42 l0 x5_1).f5))) (ds:=[]) #[φ,φ,φ,φ,φ,φ,φ,φ] (by kernel_rfl) rfl rfl ⟨((HB.out.cell (World.block_lt_of_cell? w _ hw590_0)).trans hw590_0),((HB.out.cell (World.block_lt_of_cell? w _ hw590_1)).trans hw590_1),((HB.out.cell (World.block_lt_of_cell? w _ hw590_2)).trans hw590_2),((HB.out.cell (World.block_lt_of_cell? w _ hw590_3)).trans hw590_3),((HB.out.cell (World.block_lt_of_cell? w _ hw590_4)).trans hw590_4),((HB.out.cell (World.block_lt_of_cell? w _ hw590_5)).trans hw590_5)⟩ (fun hHeld => ?_);refine with_tabW laws_heldOrderS.tab4 laws_heldOrderS.bits4 (fun HT_ HW_ => ?_)
      generalize wr.drew=w37 at HB hx590_0 hx590_1 hx590_2 hx590_3 hx590_4 hx590_5 hHeld ⊢
      refine ζk (i:=0) (N:=some 12) (v:=?_) (a':=?_) #[τ,φ,φ,φ,φ,φ,φ,φ] rfl rfl (ζj HT_.out (by kernel_rfl)) (fun _ _ _ h=>h) (Or.inl ⟨by rfl,?_⟩) ?_ ?_
      rotate_left
      · intro w';go_simp;with_reducible rfl
      rotate_left
      · simp only [ζl,δa,δb,δc,i64_w,i32_w];rfl
      refine ζk (i:=1) (N:=some 13) (v:=?_) (a':=?_) #[τ,τ,φ,φ,φ,φ,φ,φ] rfl rfl (ζj HT_.out (by kernel_rfl)) (fun _ _ _ h=>h) (Or.inl ⟨by rfl,?_⟩) ?_ ?_
      rotate_left
      · intro w';go_simp;with_reducible rfl
      rotate_left
      · simp only [ζl,δa,δb,δc,i64_w,i32_w];rfl
      refine ζk (i:=2) (N:=some 14) (v:=?_) (a':=?_) #[τ,τ,τ,φ,φ,φ,φ,φ] rfl rfl (ζj HT_.out (by kernel_rfl)) (fun _ _ _ h=>h) (Or.inl ⟨by rfl,?_⟩) ?_ ?_
      rotate_left
      · intro w';go_simp;with_reducible rfl
      rotate_left
      · simp only [ζl,δa,δb,δc,i64_w,i32_w];rfl
      refine ζk (i:=3) (N:=some 15) (v:=?_) (a':=?_) #[τ,τ,τ,τ,φ,φ,φ,φ] rfl rfl (ζj HT_.out (by kernel_rfl)) (fun _ _ _ h=>h) (Or.inl ⟨by rfl,?_⟩) ?_ ?_
      rotate_left
      · intro w';go_simp;with_reducible rfl
      rotate_left
      · simp only [ζl,δa,δb,δc,i64_w,i32_w];rfl
      refine ζk (i:=5) (N:=some 17) (v:=?_) (a':=?_) #[τ,τ,τ,τ,φ,τ,φ,φ] rfl rfl (ζj HT_.out (by kernel_rfl)) (fun _ _ _ h=>h) (Or.inl ⟨by rfl,?_⟩) ?_ ?_
      rotate_left
      · intro w';go_simp;with_reducible rfl
      rotate_left
      · simp only [ζl,δa,δb,δc,i64_w,i32_w];rfl
      refine take_ (i:=4) (N:=some 16) (v:=?_) (a':=?_) #[τ,τ,τ,τ,τ,τ,φ,φ] rfl rfl (take_ofW HT_.out HW_.out (by kernel_rfl)) (fun _ _ _ h=>h) (Or.inl ⟨by rfl,?_⟩) hHeld ?_ ?_
      rotate_left
      · rintro w' ⟨s0,s1,s2,s3,s4,s5⟩;go_simp;with_reducible rfl
      rotate_left
      · simp only [ζl,δa,δb,δc,i64_w,i32_w];rfl
      refine one_ (i:=6) (N:=some 18) #[τ,τ,τ,τ,τ,τ,τ,φ] rfl rfl (one_of HT_.out (by kernel_rfl)) (by decide) (fun K hK => ?_)
      refine goes_ Tryd.func60 (by kernel_rfl) rfl #[.int .i64 x1_1] (by rfl) rfl rfl (by (try simp only [δd,δe,δf]);rfl) ?_
      with_reducible refine (laws_markText.calls k1 x1_1 t591 _ A5.out).mono ?_
      rintro e w38 ⟨rfl,hb⟩
      refine ⟨_,rfl,?_⟩
      have n0_:=ζa (δr (by exact HB.out) hb)
      clear HB
      have HB:=n0_
      clear n0_
      (try clear hb)
      (try clear hb2)
      (try clear hk)
      (try clear hi)
      refine hK.out _ _ ⟨((HB.out.cell (World.block_lt_of_cell? w _ hw590_0)).trans hw590_0),((HB.out.cell (World.block_lt_of_cell? w _ hw590_1)).trans hw590_1),((HB.out.cell (World.block_lt_of_cell? w _ hw590_2)).trans hw590_2),((HB.out.cell (World.block_lt_of_cell? w _ hw590_3)).trans hw590_3),((HB.out.cell (World.block_lt_of_cell? w _ hw590_4)).trans hw590_4),((HB.out.cell (World.block_lt_of_cell? w _ hw590_5)).trans hw590_5)⟩ (fun hHeld => ?_)
      clear hK K
      refine norm_ (a':=?_) ?_ ?_
      rotate_left
      ·
       show ζl _ (some 18) _=_
       simp only [ζl,δa,δb,δc,i64_w,i32_w];rfl
      refine ζk (i:=7) (N:=some 19) (v:=?_) (a':=?_) #[τ,τ,τ,τ,τ,τ,τ,τ] rfl rfl (ζj HT_.out (by kernel_rfl)) (fun _ _ _ h=>h) (Or.inl ⟨by rfl,?_⟩) ?_ ?_
      rotate_left
      · intro w';go_simp;with_reducible rfl
      rotate_left
      · simp only [ζl,δa,δb,δc,i64_w,i32_w];rfl
      refine done_ (done_of HT_.out (by kernel_rfl)) ?_
      try go_wp2
      go_ret
      exact ⟨by rfl,by repeat ((with_reducible exact HB.out))⟩
    ·
     rw [if_neg c4] at H
     exact absurd H (by simp)
   ·
    rw [if_neg c3] at H
    have c3b0:decide (x5_1<(l0.length:Int))=φ:=decide_eq_false c3
    clear c3
    obtain rfl:=Option.some.inj H
    go_wp2
    go_ret
    exact ⟨by rfl,by repeat ((with_reducible exact HB.out))⟩

end Go.Proofs.YteghpdmlpefnfaaDoor.Q
