/- Parts of the proof: what single Go functions compute, each with its walk, and plain laws over these. -/
import Derived.Test.YtggemblkhckbpaaVMac
import Derived.Test.YtggemblkhckbpaaM0
import Derived.Test.YtggemblkhckbpaaM1
namespace Go.Proofs.Ytggemblkhckbpaa.Q
open Go.RowKit Go.Proofs.YtggemblkhckbpaaW.PrintWords Go.Proofs.YtggemblkhckbpaaW.PrintLast Go.Proofs.YtggemblkhckbpaaW.PrintMore
open Go.RowKit renaming wrap64 → ζm
open Go.Proofs.YtggemblkhckbpaaW.PrintWords.Aside0 renaming mk → ζa
open Go.Proofs.YtggemblkhckbpaaW.PrintWords renaming gate_dst → δx, below_size → δs, below_step → δr, blk_cell → δl, blk_frozen → δm, blk_put → δw, below_set → δq, blk_drew → δp, below_drew1 → δj, gate_callee → δv
open Go.Proofs.YtggemblkhckbpaaW.PrintWords.Kd renaming R_below → ζh, R_far → ζi, R_drew → ζe, R_reads' → ζg, R_ne → ζf
open Go.Act renaming put → ζl
open List renaming setIfInBounds_toArray → δa, set_cons_zero → δb, set_cons_succ → δc
open Go.Proofs.YtggemblkhckbpaaW.PrintLast renaming pure_ → ζk, any_of → ζj
open Bool renaming true → τ, false → φ
attribute [local go_sem] max2_int min2_int max_two min_two max_three min_three max_four min_four   -- for this text's walks alone
set_option linter.unusedVariables false
set_option linter.unusedSimpArgs false
set_option maxHeartbeats 8000000
set_option maxRecDepth 100000

/-! ### spec_l06Update: function 45 -/
def spec_l06Update.f (a0_0:ByteArray) (l0_1:List (S39)) (a1_0:Int) (a1_1:Int) (a1_2:ByteArray) (a1_3:ByteArray):Option (ByteArray × (List (S39)) × Int):=if a1_0≤(l0_1.length:Int) then (some (a0_0,l0_1,15)) else (if a1_0=(ζm ((l0_1.length:Int)+1)) then (if a1_2.toList=a0_0.toList then (if (l0_1.length:Int) > 0 then (if 0≤(ζm ((l0_1.length:Int) - 1)) then (if (ζm ((l0_1.length:Int) - 1))<(l0_1.length:Int) then (if a1_1<((rd_T39 l0_1 (ζm ((l0_1.length:Int) - 1))).f0) then (some (a0_0,l0_1,4)) else ((some (([]:List (S39)):List (S39))).bind fun y165=>(if y165.length+l0_1.length<5864062014805 then ((some (y165 ++ l0_1:List (S39))).bind fun y168=>((some (([(⟨a1_1,a1_3⟩:S39)]:List (S39)):List (S39))).bind fun y171=>(if y168.length+y171.length<5864062014805 then ((spec_l06Hash.f a1_0 a1_1 a1_2 a1_3).bind fun t177=>(some (t177,(y168 ++ y171),0))) else (none)))) else (none)))) else (none)) else (none)) else ((some (([]:List (S39)):List (S39))).bind fun y178=>(if y178.length+l0_1.length<5864062014805 then ((some (y178 ++ l0_1:List (S39))).bind fun y181=>((some (([(⟨a1_1,a1_3⟩:S39)]:List (S39)):List (S39))).bind fun y184=>(if y181.length+y184.length<5864062014805 then ((spec_l06Hash.f a1_0 a1_1 a1_2 a1_3).bind fun t190=>(some (t190,(y181 ++ y184),0))) else (none)))) else (none)))) else (some (a0_0,l0_1,11))) else (some (a0_0,l0_1,14)))
def spec_l06Update.T8:Bool × List (List Nat × List Nat):=(τ,[([],[]),([0],[0]),([1],[1]),([2],[2]),([3,2],[2,3]),([2],[2]),([5,2],[2,5]),([2],[2]),([7,2],[2,7]),([6,8,2],[2,6,8]),([9,2],[2,9]),([10,2],[2,10]),([4,11,2],[2,4,11]),([2,12],[2,12]),([13,2],[13])])
def spec_l06Update.B8:List Nat:=[0,1,3,7,15,7,39,7,135,487,999,2023,4095,8191,16383]
theorem spec_l06Update.tab8:rtab .any (opsOf Try.f45 8)=spec_l06Update.T8:=by kernel_rfl
theorem spec_l06Update.bits8:waitsOk spec_l06Update.T8.2 spec_l06Update.B8=τ:=by kernel_rfl
def spec_l06Update.T10:Bool × List (List Nat × List Nat):=(τ,[([],[]),([],[]),([1],[1]),([0,2],[0,2]),([],[]),([4],[4]),([],[]),([6],[6]),([5,7],[5,7]),([8],[8]),([3,9,3],[3,9]),([0,1,2,3,4,5,6,7,8,9,10],[]),([11,10,10,0,1,2,3,4,5,6,7,8,9,10],[10,11])])
def spec_l06Update.B10:List Nat:=[0,0,2,7,0,16,0,64,240,496,1023,2047,4095]
theorem spec_l06Update.tab10:rtab .any (opsOf Try.f45 10)=spec_l06Update.T10:=by kernel_rfl
theorem spec_l06Update.bits10:waitsOk spec_l06Update.T10.2 spec_l06Update.B10=τ:=by kernel_rfl
theorem spec_l06Update.calls (a0_0:ByteArray) (P0_1_:Nat→Prop) (u9000_:Value) (l0_1:List (S39)) (a1_0:Int) (a1_1:Int) (a1_2:ByteArray) (a1_3:ByteArray) (r1:ByteArray) (r2:List (S39)) (r3:Int) (w0 w:World) (hB:Below w0.heap.size w0 w) (ho0_1:Kd.R k39 39 w w0.heap.size P0_1_ u9000_ l0_1) (h:spec_l06Update.f a0_0 l0_1 a1_0 a1_1 a1_2 a1_3=some (r1,r2,r3)) :
  Calls Try.prog 45 #[.agg #[.string a0_0,u9000_],.agg #[.int .i64 a1_0,.int .i64 a1_1,.string a1_2,.string a1_3]] w fun e w' => ∃ v1_:Value,e = .returned (.tuple #[.agg #[.string r1,v1_],.int .i64 r3])∧Kd.R k39 39 w' w0.heap.size (fun k_=>(P0_1_ k_ ∨ w.heap.size≤k_)) v1_ r2∧Below w0.heap.size w0 w'∧Kept w w' (fun k_=>P0_1_ k_):=by
 have hu25:=Try.underlying25
 have hu28:=Try.underlying28
 have hu39:=Try.underlying39
 have HO0_1:=ζa (show Kd.R k39 39 w w0.heap.size (fun k_=>(P0_1_ k_ ∨ w.heap.size≤k_)) u9000_ l0_1 from Kd.R_mono ho0_1 (fun k_ hk=>(.inl hk)))
 have HK:=ζa (Kept.refl w (fun k_=>P0_1_ k_))
 have HW0:=ζa hB.size
 have HB:=ζa hB
 clear hB
 have H:(if a1_0≤(l0_1.length:Int) then (some (a0_0,l0_1,15)) else (if a1_0=(ζm ((l0_1.length:Int)+1)) then (if a1_2.toList=a0_0.toList then (if (l0_1.length:Int) > 0 then (if 0≤(ζm ((l0_1.length:Int) - 1)) then (if (ζm ((l0_1.length:Int) - 1))<(l0_1.length:Int) then (if a1_1<((rd_T39 l0_1 (ζm ((l0_1.length:Int) - 1))).f0) then (some (a0_0,l0_1,4)) else ((some (([]:List (S39)):List (S39))).bind fun y165=>(if y165.length+l0_1.length<5864062014805 then ((some (y165 ++ l0_1:List (S39))).bind fun y168=>((some (([(⟨a1_1,a1_3⟩:S39)]:List (S39)):List (S39))).bind fun y171=>(if y168.length+y171.length<5864062014805 then ((spec_l06Hash.f a1_0 a1_1 a1_2 a1_3).bind fun t177=>(some (t177,(y168 ++ y171),0))) else (none)))) else (none)))) else (none)) else (none)) else ((some (([]:List (S39)):List (S39))).bind fun y178=>(if y178.length+l0_1.length<5864062014805 then ((some (y178 ++ l0_1:List (S39))).bind fun y181=>((some (([(⟨a1_1,a1_3⟩:S39)]:List (S39)):List (S39))).bind fun y184=>(if y181.length+y184.length<5864062014805 then ((spec_l06Hash.f a1_0 a1_1 a1_2 a1_3).bind fun t190=>(some (t190,(y181 ++ y184),0))) else (none)))) else (none)))) else (some (a0_0,l0_1,11))) else (some (a0_0,l0_1,14))))=some (r1,r2,r3):=h
 clear h
 by_cases c3:a1_0≤(l0_1.length:Int)
 ·
  rw [if_pos c3] at H
  have c3b0:=decide_eq_true c3
  clear c3
  simp only [Option.some.injEq,Prod.mk.injEq] at H
  obtain ⟨rfl,rfl,rfl⟩:=H
  obtain ⟨Ao4,co4,eo4⟩:=Kd.R_slice HO0_1.out
  subst eo4
  go_enter Try.func45,Try.ntmps45
  go_wp2_with (first|((with_reducible refine δx (N:=2) rfl ?_);refine bev 2 #[.string a0_0,.slice Ao4 l0_1.length co4] 25 ?_;intro gb161 hg w5 hbox hb;replace HO0_1:=ζa (ζh (by exact HO0_1.out) hb);have BK161:=ζa (hbox);have GW161:=ζa ((by rw [hg];exact (by exact HK.out.1):w.heap.size≤gb161));replace HK:=ζa (Kept.below (S:=(fun k_=>P0_1_ k_)) (by exact HK.out) hb);have GE161:=ζa ((by rw [hg];exact (δs (by exact HB.out)):w0.heap.size≤gb161));replace HB:=ζa (δr (by exact HB.out) hb);clear hb hbox hg)|((with_reducible refine δx (N:=3) rfl ?_);refine bev 3 #[.int .i64 a1_0,.int .i64 a1_1,.string a1_2,.string a1_3] 28 ?_;intro gb162 hg w6 hbox hb;replace HO0_1:=ζa (ζh (by exact HO0_1.out) hb);have BK162:=ζa (hbox);have GW162:=ζa ((by rw [hg];exact (by exact HK.out.1):w.heap.size≤gb162));replace HK:=ζa (Kept.below (S:=(fun k_=>P0_1_ k_)) (by exact HK.out) hb);have GE162:=ζa ((by rw [hg];exact (δs (by exact HB.out)):w0.heap.size≤gb162));replace HB:=ζa (δr (by exact HB.out) hb);have NB161_162:=ζa ((by rw [hg];exact Nat.ne_of_lt (blk_lt (g:=gb161) (o:=.cells #[.string a0_0,.slice Ao4 l0_1.length co4] 25 (0,0)) (by exact BK161.out)):gb161≠gb162));have NB162_161:=ζa ((by rw [hg];exact Nat.ne_of_gt (blk_lt (g:=gb161) (o:=.cells #[.string a0_0,.slice Ao4 l0_1.length co4] 25 (0,0)) (by exact BK161.out)):gb162≠gb161));replace BK161:=ζa (blk_below (g:=gb161) (o:=.cells #[.string a0_0,.slice Ao4 l0_1.length co4] 25 (0,0)) (by exact BK161.out) hb);clear hb hbox hg)|((with_reducible refine δx (N:=4) rfl ?_);refine bev 4 #[.string (⟨#[]⟩:ByteArray),.slice none 0 0] 25 ?_;intro gb163 hg w7 hbox hb;replace HO0_1:=ζa (ζh (by exact HO0_1.out) hb);have BK163:=ζa (hbox);have GW163:=ζa ((by rw [hg];exact (by exact HK.out.1):w.heap.size≤gb163));replace HK:=ζa (Kept.below (S:=(fun k_=>P0_1_ k_)) (by exact HK.out) hb);have GE163:=ζa ((by rw [hg];exact (δs (by exact HB.out)):w0.heap.size≤gb163));replace HB:=ζa (δr (by exact HB.out) hb);have NB161_163:=ζa ((by rw [hg];exact Nat.ne_of_lt (blk_lt (g:=gb161) (o:=.cells #[.string a0_0,.slice Ao4 l0_1.length co4] 25 (0,0)) (by exact BK161.out)):gb161≠gb163));have NB163_161:=ζa ((by rw [hg];exact Nat.ne_of_gt (blk_lt (g:=gb161) (o:=.cells #[.string a0_0,.slice Ao4 l0_1.length co4] 25 (0,0)) (by exact BK161.out)):gb163≠gb161));replace BK161:=ζa (blk_below (g:=gb161) (o:=.cells #[.string a0_0,.slice Ao4 l0_1.length co4] 25 (0,0)) (by exact BK161.out) hb);have NB162_163:=ζa ((by rw [hg];exact Nat.ne_of_lt (blk_lt (g:=gb162) (o:=.cells #[.int .i64 a1_0,.int .i64 a1_1,.string a1_2,.string a1_3] 28 (0,0)) (by exact BK162.out)):gb162≠gb163));have NB163_162:=ζa ((by rw [hg];exact Nat.ne_of_gt (blk_lt (g:=gb162) (o:=.cells #[.int .i64 a1_0,.int .i64 a1_1,.string a1_2,.string a1_3] 28 (0,0)) (by exact BK162.out)):gb163≠gb162));replace BK162:=ζa (blk_below (g:=gb162) (o:=.cells #[.int .i64 a1_0,.int .i64 a1_1,.string a1_2,.string a1_3] 28 (0,0)) (by exact BK162.out) hb);clear hb hbox hg;have hnb8:=NB161_162.out;have hnc8:=NB162_161.out;have hnb9:=NB161_163.out;have hnc9:=NB163_161.out;have hcz10_0:w7.cell? ⟨gb161,0,none⟩=some (.string a0_0):=(δl BK161.out 0).trans rfl;have hcz10_1:w7.cell? ⟨gb161,1,none⟩=some (.slice Ao4 l0_1.length co4):=(δl BK161.out 1).trans rfl;have hfz10_0:=δm BK161.out 0;have hfz10_1:=δm BK161.out 1;have hnb11:=NB162_163.out;have hnc11:=NB163_162.out;have hcz12_0:w7.cell? ⟨gb162,0,none⟩=some (.int .i64 a1_0):=(δl BK162.out 0).trans rfl;have hcz12_1:w7.cell? ⟨gb162,1,none⟩=some (.int .i64 a1_1):=(δl BK162.out 1).trans rfl;have hcz12_2:w7.cell? ⟨gb162,2,none⟩=some (.string a1_2):=(δl BK162.out 2).trans rfl;have hcz12_3:w7.cell? ⟨gb162,3,none⟩=some (.string a1_3):=(δl BK162.out 3).trans rfl;have hfz12_0:=δm BK162.out 0;have hfz12_1:=δm BK162.out 1;have hfz12_2:=δm BK162.out 2;have hfz12_3:=δm BK162.out 3;have hcz13_0:w7.cell? ⟨gb163,0,none⟩=some (.string (⟨#[]⟩:ByteArray)):=(δl BK163.out 0).trans rfl;have hcz13_1:w7.cell? ⟨gb163,1,none⟩=some (.slice none 0 0):=(δl BK163.out 1).trans rfl;have hfz13_0:=δm BK163.out 0;have hfz13_1:=δm BK163.out 1))
  refine bodyPost_ret (results_ct rfl _ _ gb163 25 #[.string a0_0,.slice Ao4 l0_1.length co4] (0,0) _ rfl (by refine δw (cs:=#[.string a0_0,.slice none 0 0]) ?_ 1 _ rfl;refine δw (cs:=#[.string (⟨#[]⟩:ByteArray),.slice none 0 0]) ?_ 0 _ rfl;exact BK163.out) Try.underlying25 rfl (by kernel_rfl)) rfl ?_
  exact ⟨_,by rfl,by exact Kd.R_mono (ζi (p:=⟨gb163,1,none⟩) (ζi (p:=⟨gb163,0,none⟩) (Kd.R_types HO0_1.out BK163.out (by decide)) (fun _ hk=>hk.2) (.string a0_0)) (fun _ hk=>hk.2) (.slice Ao4 l0_1.length co4)) (fun _ hk=>hk.1),by repeat ((with_reducible first|exact HB.out|refine δq ?_ GE163.out)),by repeat ((with_reducible first|exact HK.out|refine Kept.setCell ?_ (.inr GW163.out) _))⟩
 ·
  rw [if_neg c3] at H
  have c3b0:=decide_eq_false c3
  clear c3
  by_cases c14:a1_0=(ζm ((l0_1.length:Int)+1))
  ·
   rw [if_pos c14] at H
   have c14b0:=beq_iff_eq.mpr c14
   have c14b1:=bne_eq_false_iff_eq.mpr c14
   clear c14
   by_cases c15:a1_2.toList=a0_0.toList
   ·
    rw [if_pos c15] at H
    have c15b0:=beq_iff_eq.mpr c15
    have c15b1:=bne_eq_false_iff_eq.mpr c15
    clear c15
    by_cases c16:(l0_1.length:Int) > 0
    ·
     rw [if_pos c16] at H
     have c16b0:decide (0<(l0_1.length:Int))=τ:=decide_eq_true c16
     have c16b1:decide (0<l0_1.length)=τ:=decide_eq_true (by omega)
     clear c16
     obtain ⟨ji17,hji17⟩ : ∃ j_:Int,(ζm ((l0_1.length:Int) - 1))=j_:=⟨_,rfl⟩
     replace H:(if 0≤(ji17) then (if (ji17)<(l0_1.length:Int) then (if a1_1<((rd_T39 l0_1 (ji17)).f0) then (some (a0_0,l0_1,4)) else ((some (([]:List (S39)):List (S39))).bind fun y165=>(if y165.length+l0_1.length<5864062014805 then ((some (y165 ++ l0_1:List (S39))).bind fun y168=>((some (([(⟨a1_1,a1_3⟩:S39)]:List (S39)):List (S39))).bind fun y171=>(if y168.length+y171.length<5864062014805 then ((spec_l06Hash.f a1_0 a1_1 a1_2 a1_3).bind fun t177=>(some (t177,(y168 ++ y171),0))) else (none)))) else (none)))) else (none)) else (none))=some (r1,r2,r3):=by (rw [hji17] at H;exact H)
     have hji17w:(IntKind.i64.wrap ((l0_1.length:Int) - 1))=ji17:=(i64_w _).trans hji17
     by_cases c18:0≤(ji17)
     ·
      rw [if_pos c18] at H
      have c18b0:=decide_eq_true c18
      clear c18
      by_cases c19:(ji17)<(l0_1.length:Int)
      ·
       rw [if_pos c19] at H
       have c19b0:=decide_eq_true c19
       clear c19
       by_cases c20:a1_1<((rd_T39 l0_1 (ji17)).f0)
       ·
        rw [if_pos c20] at H
        have c20b0:=decide_eq_true c20
        clear c20
        simp only [Option.some.injEq,Prod.mk.injEq] at H
        obtain ⟨rfl,rfl,rfl⟩:=H
        obtain ⟨Ao21,co21,eo21⟩:=Kd.R_slice HO0_1.out
        subst eo21
        go_enter Try.func45,Try.ntmps45
        try go_wp2_with (first|((with_reducible refine δx (N:=2) rfl ?_);refine bev 2 #[.string a0_0,.slice Ao21 l0_1.length co21] 25 ?_;intro gb161 hg w22 hbox hb;replace HO0_1:=ζa (ζh (by exact HO0_1.out) hb);have BK161:=ζa (hbox);have GW161:=ζa ((by rw [hg];exact (by exact HK.out.1):w.heap.size≤gb161));replace HK:=ζa (Kept.below (S:=(fun k_=>P0_1_ k_)) (by exact HK.out) hb);have GE161:=ζa ((by rw [hg];exact (δs (by exact HB.out)):w0.heap.size≤gb161));replace HB:=ζa (δr (by exact HB.out) hb);clear hb hbox hg)|((with_reducible refine δx (N:=3) rfl ?_);refine bev 3 #[.int .i64 a1_0,.int .i64 a1_1,.string a1_2,.string a1_3] 28 ?_;intro gb162 hg w23 hbox hb;replace HO0_1:=ζa (ζh (by exact HO0_1.out) hb);have BK162:=ζa (hbox);have GW162:=ζa ((by rw [hg];exact (by exact HK.out.1):w.heap.size≤gb162));replace HK:=ζa (Kept.below (S:=(fun k_=>P0_1_ k_)) (by exact HK.out) hb);have GE162:=ζa ((by rw [hg];exact (δs (by exact HB.out)):w0.heap.size≤gb162));replace HB:=ζa (δr (by exact HB.out) hb);have NB161_162:=ζa ((by rw [hg];exact Nat.ne_of_lt (blk_lt (g:=gb161) (o:=.cells #[.string a0_0,.slice Ao21 l0_1.length co21] 25 (0,0)) (by exact BK161.out)):gb161≠gb162));have NB162_161:=ζa ((by rw [hg];exact Nat.ne_of_gt (blk_lt (g:=gb161) (o:=.cells #[.string a0_0,.slice Ao21 l0_1.length co21] 25 (0,0)) (by exact BK161.out)):gb162≠gb161));replace BK161:=ζa (blk_below (g:=gb161) (o:=.cells #[.string a0_0,.slice Ao21 l0_1.length co21] 25 (0,0)) (by exact BK161.out) hb);clear hb hbox hg)|((with_reducible refine δx (N:=4) rfl ?_);refine bev 4 #[.string (⟨#[]⟩:ByteArray),.slice none 0 0] 25 ?_;intro gb163 hg w24 hbox hb;replace HO0_1:=ζa (ζh (by exact HO0_1.out) hb);have BK163:=ζa (hbox);have GW163:=ζa ((by rw [hg];exact (by exact HK.out.1):w.heap.size≤gb163));replace HK:=ζa (Kept.below (S:=(fun k_=>P0_1_ k_)) (by exact HK.out) hb);have GE163:=ζa ((by rw [hg];exact (δs (by exact HB.out)):w0.heap.size≤gb163));replace HB:=ζa (δr (by exact HB.out) hb);have NB161_163:=ζa ((by rw [hg];exact Nat.ne_of_lt (blk_lt (g:=gb161) (o:=.cells #[.string a0_0,.slice Ao21 l0_1.length co21] 25 (0,0)) (by exact BK161.out)):gb161≠gb163));have NB163_161:=ζa ((by rw [hg];exact Nat.ne_of_gt (blk_lt (g:=gb161) (o:=.cells #[.string a0_0,.slice Ao21 l0_1.length co21] 25 (0,0)) (by exact BK161.out)):gb163≠gb161));replace BK161:=ζa (blk_below (g:=gb161) (o:=.cells #[.string a0_0,.slice Ao21 l0_1.length co21] 25 (0,0)) (by exact BK161.out) hb);have NB162_163:=ζa ((by rw [hg];exact Nat.ne_of_lt (blk_lt (g:=gb162) (o:=.cells #[.int .i64 a1_0,.int .i64 a1_1,.string a1_2,.string a1_3] 28 (0,0)) (by exact BK162.out)):gb162≠gb163));have NB163_162:=ζa ((by rw [hg];exact Nat.ne_of_gt (blk_lt (g:=gb162) (o:=.cells #[.int .i64 a1_0,.int .i64 a1_1,.string a1_2,.string a1_3] 28 (0,0)) (by exact BK162.out)):gb163≠gb162));replace BK162:=ζa (blk_below (g:=gb162) (o:=.cells #[.int .i64 a1_0,.int .i64 a1_1,.string a1_2,.string a1_3] 28 (0,0)) (by exact BK162.out) hb);clear hb hbox hg;have hnb25:=NB161_162.out;have hnc25:=NB162_161.out;have hnb26:=NB161_163.out;have hnc26:=NB163_161.out;have hcz27_0:w24.cell? ⟨gb161,0,none⟩=some (.string a0_0):=(δl BK161.out 0).trans rfl;have hcz27_1:w24.cell? ⟨gb161,1,none⟩=some (.slice Ao21 l0_1.length co21):=(δl BK161.out 1).trans rfl;have hfz27_0:=δm BK161.out 0;have hfz27_1:=δm BK161.out 1;have hnb28:=NB162_163.out;have hnc28:=NB163_162.out;have hcz29_0:w24.cell? ⟨gb162,0,none⟩=some (.int .i64 a1_0):=(δl BK162.out 0).trans rfl;have hcz29_1:w24.cell? ⟨gb162,1,none⟩=some (.int .i64 a1_1):=(δl BK162.out 1).trans rfl;have hcz29_2:w24.cell? ⟨gb162,2,none⟩=some (.string a1_2):=(δl BK162.out 2).trans rfl;have hcz29_3:w24.cell? ⟨gb162,3,none⟩=some (.string a1_3):=(δl BK162.out 3).trans rfl;have hfz29_0:=δm BK162.out 0;have hfz29_1:=δm BK162.out 1;have hfz29_2:=δm BK162.out 2;have hfz29_3:=δm BK162.out 3))
        replace HO0_1:=ζa (ζe HO0_1.out)
        replace BK161:=ζa (δp BK161.out)
        replace BK162:=ζa (δp BK162.out)
        replace BK163:=ζa (δp BK163.out)
        replace HK:=ζa (Kept.drew HK.out)
        replace HB:=ζa (δj HB.out)
        have p164:0≤((ji17):Int):=of_decide_eq_true (by (with_reducible assumption))
        have q164:(ji17)<(l0_1.length:Int):=of_decide_eq_true (by (with_reducible assumption))
        obtain ⟨ad164,e164,hx164_0,hx164_1⟩:=at_T39 (ζg HO0_1.out).2.2 (ji17) p164 q164
        cases e164
        replace p164:=eq_true p164
        replace q164:=eq_true q164
        refine sta 15 (fun w'=>w'.cell? ⟨gb162,0,none⟩=some (.int .i64 a1_0)∧w'.cell? ⟨gb162,1,none⟩=some (.int .i64 a1_1)∧w'.cell? ⟨gb162,2,none⟩=some (.string a1_2)∧w'.cell? ⟨gb162,3,none⟩=some (.string a1_3)∧w'.cell? ⟨gb161,0,none⟩=some (.string a0_0)∧w'.cell? ⟨gb161,1,none⟩=some (.slice (some ad164) l0_1.length co21)∧w'.cell? (ad164.add (((ji17)).toNat * 2))=some (.int .i64 ((rd_T39 l0_1 (ji17)).f0))∧w'.cell? ⟨(ad164.add (((ji17)).toNat * 2)).block,(ad164.add (((ji17)).toNat * 2)).off+1,none⟩=some (.string ((rd_T39 l0_1 (ji17)).f1))) [] spec_l06Update.tab8 spec_l06Update.bits8 ⟨(δl BK162.out 0).trans rfl,(δl BK162.out 1).trans rfl,(δl BK162.out 2).trans rfl,(δl BK162.out 3).trans rfl,(δl BK161.out 0).trans rfl,(δl BK161.out 1).trans rfl,hx164_0,hx164_1⟩ (fun hHeld HT_ HW_ => ?_)
        generalize w24.drew=w30 at HO0_1 BK161 BK162 BK163 HK HB hx164_0 hx164_1 hHeld ⊢
        refine pu 0 31 ?_
        refine pu 1 32 ?_
        refine pu 2 33 ?_
        refine pu 3 34 ?_
        refine pu 5 36 ?_
        refine pu 7 38 ?_
        refine pu 8 39 ?_
        refine ta 4 35 ?_
        refine ta 6 37 ?_
        refine pu 9 40 ?_
        refine pu 10 41 ?_
        refine ta 11 42 ?_
        refine pu 12 43 ?_
        refine pu 13 44 ?_
        refine pu 14 30 ?_
        refine done_ (done_of HT_.out (by kernel_rfl)) ?_
        have hcz31_0:w30.cell? ⟨gb161,0,none⟩=some (.string a0_0):=(δl BK161.out 0).trans rfl
        have hcz31_1:w30.cell? ⟨gb161,1,none⟩=some (.slice (some ad164) l0_1.length co21):=(δl BK161.out 1).trans rfl
        have hfz31_0:=δm BK161.out 0
        have hfz31_1:=δm BK161.out 1
        have hcz32_0:w30.cell? ⟨gb163,0,none⟩=some (.string (⟨#[]⟩:ByteArray)):=(δl BK163.out 0).trans rfl
        have hcz32_1:w30.cell? ⟨gb163,1,none⟩=some (.slice none 0 0):=(δl BK163.out 1).trans rfl
        have hfz32_0:=δm BK163.out 0
        have hfz32_1:=δm BK163.out 1
        try go_wp2
        refine bodyPost_ret (results_ct rfl _ _ gb163 25 #[.string a0_0,.slice (some ad164) l0_1.length co21] (0,0) _ rfl (by refine δw (cs:=#[.string a0_0,.slice none 0 0]) ?_ 1 _ rfl;refine δw (cs:=#[.string (⟨#[]⟩:ByteArray),.slice none 0 0]) ?_ 0 _ rfl;exact BK163.out) Try.underlying25 rfl (by kernel_rfl)) rfl ?_
        exact ⟨_,by rfl,by exact Kd.R_mono (ζi (p:=⟨gb163,1,none⟩) (ζi (p:=⟨gb163,0,none⟩) (Kd.R_types HO0_1.out BK163.out (by decide)) (fun _ hk=>hk.2) (.string a0_0)) (fun _ hk=>hk.2) (.slice (some ad164) l0_1.length co21)) (fun _ hk=>hk.1),by repeat ((with_reducible first|exact HB.out|refine δq ?_ GE163.out)),by repeat ((with_reducible first|exact HK.out|refine Kept.setCell ?_ (.inr GW163.out) _))⟩
       ·
        rw [if_neg c20] at H
        have c20b0:=decide_eq_false c20
        clear c20
        obtain ⟨y165,hy165⟩ : ∃ y_:List (S39),y_=(([]:List (S39))):=⟨_,rfl⟩
        replace H:(if y165.length+l0_1.length<5864062014805 then ((some (y165 ++ l0_1:List (S39))).bind fun y168=>((some (([(⟨a1_1,a1_3⟩:S39)]:List (S39)):List (S39))).bind fun y171=>(if y168.length+y171.length<5864062014805 then ((spec_l06Hash.f a1_0 a1_1 a1_2 a1_3).bind fun t177=>(some (t177,(y168 ++ y171),0))) else (none)))) else (none))=some (r1,r2,r3):=by (have H2_:=(Option.bind_some _ _).symm.trans H;rw [hy165];with_reducible exact H2_)
        have Ny165:=ζa hy165
        clear hy165
        by_cases c33:y165.length+l0_1.length<5864062014805
        ·
         rw [if_pos c33] at H
         have LMc33:=ζa c33
         clear c33
         obtain ⟨y168,hy168⟩ : ∃ y_:List (S39),y_=(y165 ++ l0_1):=⟨_,rfl⟩
         replace H:((some (([(⟨a1_1,a1_3⟩:S39)]:List (S39)):List (S39))).bind fun y171=>(if y168.length+y171.length<5864062014805 then ((spec_l06Hash.f a1_0 a1_1 a1_2 a1_3).bind fun t177=>(some (t177,(y168 ++ y171),0))) else (none)))=some (r1,r2,r3):=by (have H2_:=(Option.bind_some _ _).symm.trans H;rw [hy168];with_reducible exact H2_)
         have Ny168:=ζa hy168
         clear hy168
         obtain ⟨y171,hy171⟩ : ∃ y_:List (S39),y_=(([(⟨a1_1,a1_3⟩:S39)]:List (S39))):=⟨_,rfl⟩
         replace H:(if y168.length+y171.length<5864062014805 then ((spec_l06Hash.f a1_0 a1_1 a1_2 a1_3).bind fun t177=>(some (t177,(y168 ++ y171),0))) else (none))=some (r1,r2,r3):=by (have H2_:=(Option.bind_some _ _).symm.trans H;rw [hy171];with_reducible exact H2_)
         have Ny171:=ζa hy171
         clear hy171
         by_cases c34:y168.length+y171.length<5864062014805
         ·
          rw [if_pos c34] at H
          have LMc34:=ζa c34
          clear c34
          obtain ⟨y174,hy174⟩ : ∃ y_:List (S39),y_=(y168 ++ y171):=⟨_,rfl⟩
          replace H:((spec_l06Hash.f a1_0 a1_1 a1_2 a1_3).bind fun t177=>(some (t177,y174,0)))=some (r1,r2,r3):=by (rw [hy174];with_reducible exact H)
          have Ny174:=ζa hy174
          clear hy174
          obtain ⟨t177,A35,H⟩:=bsm H
          simp only [Option.some.injEq,Prod.mk.injEq] at H
          obtain ⟨rfl,rfl,rfl⟩:=H
          obtain ⟨Ao36,co36,eo36⟩:=Kd.R_slice HO0_1.out
          subst eo36
          go_enter Try.func45,Try.ntmps45
          try go_wp2_with (first|((with_reducible refine δx (N:=2) rfl ?_);refine bev 2 #[.string a0_0,.slice Ao36 l0_1.length co36] 25 ?_;intro gb161 hg w37 hbox hb;replace HO0_1:=ζa (ζh (by exact HO0_1.out) hb);have BK161:=ζa (hbox);have GW161:=ζa ((by rw [hg];exact (by exact HK.out.1):w.heap.size≤gb161));replace HK:=ζa (Kept.below (S:=(fun k_=>P0_1_ k_)) (by exact HK.out) hb);have GE161:=ζa ((by rw [hg];exact (δs (by exact HB.out)):w0.heap.size≤gb161));replace HB:=ζa (δr (by exact HB.out) hb);clear hb hbox hg)|((with_reducible refine δx (N:=3) rfl ?_);refine bev 3 #[.int .i64 a1_0,.int .i64 a1_1,.string a1_2,.string a1_3] 28 ?_;intro gb162 hg w38 hbox hb;replace HO0_1:=ζa (ζh (by exact HO0_1.out) hb);have BK162:=ζa (hbox);have GW162:=ζa ((by rw [hg];exact (by exact HK.out.1):w.heap.size≤gb162));replace HK:=ζa (Kept.below (S:=(fun k_=>P0_1_ k_)) (by exact HK.out) hb);have GE162:=ζa ((by rw [hg];exact (δs (by exact HB.out)):w0.heap.size≤gb162));replace HB:=ζa (δr (by exact HB.out) hb);have NB161_162:=ζa ((by rw [hg];exact Nat.ne_of_lt (blk_lt (g:=gb161) (o:=.cells #[.string a0_0,.slice Ao36 l0_1.length co36] 25 (0,0)) (by exact BK161.out)):gb161≠gb162));have NB162_161:=ζa ((by rw [hg];exact Nat.ne_of_gt (blk_lt (g:=gb161) (o:=.cells #[.string a0_0,.slice Ao36 l0_1.length co36] 25 (0,0)) (by exact BK161.out)):gb162≠gb161));replace BK161:=ζa (blk_below (g:=gb161) (o:=.cells #[.string a0_0,.slice Ao36 l0_1.length co36] 25 (0,0)) (by exact BK161.out) hb);clear hb hbox hg)|((with_reducible refine δx (N:=4) rfl ?_);refine bev 4 #[.string (⟨#[]⟩:ByteArray),.slice none 0 0] 25 ?_;intro gb163 hg w39 hbox hb;replace HO0_1:=ζa (ζh (by exact HO0_1.out) hb);have BK163:=ζa (hbox);have GW163:=ζa ((by rw [hg];exact (by exact HK.out.1):w.heap.size≤gb163));replace HK:=ζa (Kept.below (S:=(fun k_=>P0_1_ k_)) (by exact HK.out) hb);have GE163:=ζa ((by rw [hg];exact (δs (by exact HB.out)):w0.heap.size≤gb163));replace HB:=ζa (δr (by exact HB.out) hb);have NB161_163:=ζa ((by rw [hg];exact Nat.ne_of_lt (blk_lt (g:=gb161) (o:=.cells #[.string a0_0,.slice Ao36 l0_1.length co36] 25 (0,0)) (by exact BK161.out)):gb161≠gb163));have NB163_161:=ζa ((by rw [hg];exact Nat.ne_of_gt (blk_lt (g:=gb161) (o:=.cells #[.string a0_0,.slice Ao36 l0_1.length co36] 25 (0,0)) (by exact BK161.out)):gb163≠gb161));replace BK161:=ζa (blk_below (g:=gb161) (o:=.cells #[.string a0_0,.slice Ao36 l0_1.length co36] 25 (0,0)) (by exact BK161.out) hb);have NB162_163:=ζa ((by rw [hg];exact Nat.ne_of_lt (blk_lt (g:=gb162) (o:=.cells #[.int .i64 a1_0,.int .i64 a1_1,.string a1_2,.string a1_3] 28 (0,0)) (by exact BK162.out)):gb162≠gb163));have NB163_162:=ζa ((by rw [hg];exact Nat.ne_of_gt (blk_lt (g:=gb162) (o:=.cells #[.int .i64 a1_0,.int .i64 a1_1,.string a1_2,.string a1_3] 28 (0,0)) (by exact BK162.out)):gb163≠gb162));replace BK162:=ζa (blk_below (g:=gb162) (o:=.cells #[.int .i64 a1_0,.int .i64 a1_1,.string a1_2,.string a1_3] 28 (0,0)) (by exact BK162.out) hb);clear hb hbox hg;have hnb40:=NB161_162.out;have hnc40:=NB162_161.out;have hnb41:=NB161_163.out;have hnc41:=NB163_161.out;have hcz42_0:w39.cell? ⟨gb161,0,none⟩=some (.string a0_0):=(δl BK161.out 0).trans rfl;have hcz42_1:w39.cell? ⟨gb161,1,none⟩=some (.slice Ao36 l0_1.length co36):=(δl BK161.out 1).trans rfl;have hfz42_0:=δm BK161.out 0;have hfz42_1:=δm BK161.out 1;have hnb43:=NB162_163.out;have hnc43:=NB163_162.out;have hcz44_0:w39.cell? ⟨gb162,0,none⟩=some (.int .i64 a1_0):=(δl BK162.out 0).trans rfl;have hcz44_1:w39.cell? ⟨gb162,1,none⟩=some (.int .i64 a1_1):=(δl BK162.out 1).trans rfl;have hcz44_2:w39.cell? ⟨gb162,2,none⟩=some (.string a1_2):=(δl BK162.out 2).trans rfl;have hcz44_3:w39.cell? ⟨gb162,3,none⟩=some (.string a1_3):=(δl BK162.out 3).trans rfl;have hfz44_0:=δm BK162.out 0;have hfz44_1:=δm BK162.out 1;have hfz44_2:=δm BK162.out 2;have hfz44_3:=δm BK162.out 3))
          replace HO0_1:=ζa (ζe HO0_1.out)
          replace BK161:=ζa (δp BK161.out)
          replace BK162:=ζa (δp BK162.out)
          replace BK163:=ζa (δp BK163.out)
          replace HK:=ζa (Kept.drew HK.out)
          replace HB:=ζa (δj HB.out)
          have p164:0≤((ji17):Int):=of_decide_eq_true (by (with_reducible assumption))
          have q164:(ji17)<(l0_1.length:Int):=of_decide_eq_true (by (with_reducible assumption))
          obtain ⟨ad164,e164,hx164_0,hx164_1⟩:=at_T39 (ζg HO0_1.out).2.2 (ji17) p164 q164
          cases e164
          replace p164:=eq_true p164
          replace q164:=eq_true q164
          refine sta 15 (fun w'=>w'.cell? ⟨gb162,0,none⟩=some (.int .i64 a1_0)∧w'.cell? ⟨gb162,1,none⟩=some (.int .i64 a1_1)∧w'.cell? ⟨gb162,2,none⟩=some (.string a1_2)∧w'.cell? ⟨gb162,3,none⟩=some (.string a1_3)∧w'.cell? ⟨gb161,0,none⟩=some (.string a0_0)∧w'.cell? ⟨gb161,1,none⟩=some (.slice (some ad164) l0_1.length co36)∧w'.cell? (ad164.add (((ji17)).toNat * 2))=some (.int .i64 ((rd_T39 l0_1 (ji17)).f0))∧w'.cell? ⟨(ad164.add (((ji17)).toNat * 2)).block,(ad164.add (((ji17)).toNat * 2)).off+1,none⟩=some (.string ((rd_T39 l0_1 (ji17)).f1))) [] spec_l06Update.tab8 spec_l06Update.bits8 ⟨(δl BK162.out 0).trans rfl,(δl BK162.out 1).trans rfl,(δl BK162.out 2).trans rfl,(δl BK162.out 3).trans rfl,(δl BK161.out 0).trans rfl,(δl BK161.out 1).trans rfl,hx164_0,hx164_1⟩ (fun hHeld HT_ HW_ => ?_)
          generalize w39.drew=w45 at HO0_1 BK161 BK162 BK163 HK HB hx164_0 hx164_1 hHeld ⊢
          refine pu 0 31 ?_
          refine pu 1 32 ?_
          refine pu 2 33 ?_
          refine pu 3 34 ?_
          refine pu 5 36 ?_
          refine pu 7 38 ?_
          refine pu 8 39 ?_
          refine ta 4 35 ?_
          refine ta 6 37 ?_
          refine pu 9 40 ?_
          refine pu 10 41 ?_
          refine ta 11 42 ?_
          refine pu 12 43 ?_
          refine pu 13 44 ?_
          refine pu 14 30 ?_
          refine done_ (done_of HT_.out (by kernel_rfl)) ?_
          try go_wp2
          replace HO0_1:=ζa (ζe HO0_1.out)
          replace BK161:=ζa (δp BK161.out)
          replace BK162:=ζa (δp BK162.out)
          replace BK163:=ζa (δp BK163.out)
          replace HK:=ζa (Kept.drew HK.out)
          replace HB:=ζa (δj HB.out)
          refine sta 13 (fun w'=>w'.cell? ⟨gb161,0,none⟩=some (.string a0_0)∧w'.cell? ⟨gb161,1,none⟩=some (.slice (some ad164) l0_1.length co36)∧w'.cell? ⟨gb162,0,none⟩=some (.int .i64 a1_0)∧w'.cell? ⟨gb162,1,none⟩=some (.int .i64 a1_1)∧w'.cell? ⟨gb162,2,none⟩=some (.string a1_2)∧w'.cell? ⟨gb162,3,none⟩=some (.string a1_3)) [12] spec_l06Update.tab10 spec_l06Update.bits10 ⟨(δl BK161.out 0).trans rfl,(δl BK161.out 1).trans rfl,(δl BK162.out 0).trans rfl,(δl BK162.out 1).trans rfl,(δl BK162.out 2).trans rfl,(δl BK162.out 3).trans rfl⟩ (fun hHeld HT_ HW_ => ?_)
          generalize w45.drew=w46 at HO0_1 BK161 BK162 BK163 HK HB hHeld ⊢
          refine pu 1 47 ?_
          refine pu 4 50 ?_
          refine pu 6 52 ?_
          refine ta 2 48 ?_
          refine ta 5 51 ?_
          refine ta 7 53 ?_
          refine pu 8 54 ?_
          refine join_ (σ:=Value × Value × Value) 3 #[τ,τ,τ,τ,τ,τ,τ,τ,τ,τ,φ,φ,φ] (fun s_ => [(46,s_.1),(49,s_.2.1),(55,s_.2.2)]) (fun s_ w'=>(w'.cell? ⟨gb161,0,none⟩=some (.string a0_0)∧w'.cell? ⟨gb161,1,none⟩=some (.slice (some ad164) l0_1.length co36)∧w'.cell? ⟨gb162,0,none⟩=some (.int .i64 a1_0)∧w'.cell? ⟨gb162,1,none⟩=some (.int .i64 a1_1)∧w'.cell? ⟨gb162,2,none⟩=some (.string a1_2)∧w'.cell? ⟨gb162,3,none⟩=some (.string a1_3))∧(Kd.R k39 39 w' w0.heap.size (fun k_=>(P0_1_ k_ ∨ w.heap.size≤k_)∧some k_≠(s_.2.1:Value).ownBlock∧some k_≠(s_.2.2:Value).ownBlock) (.slice (some ad164) l0_1.length co36) l0_1)∧(Kd.R k39 39 w' w0.heap.size (fun k_=>(P0_1_ k_ ∨ w.heap.size≤k_)∧some k_≠(.slice (some ad164) l0_1.length co36:Value).ownBlock∧some k_≠(s_.2.2:Value).ownBlock) s_.2.1 y168)∧(Kd.R k39 39 w' w0.heap.size (fun k_=>(P0_1_ k_ ∨ w.heap.size≤k_)∧some k_≠(.slice (some ad164) l0_1.length co36:Value).ownBlock∧some k_≠(s_.2.1:Value).ownBlock) s_.2.2 y171)∧(w'.heap[gb161]? = some (.cells #[.string a0_0,.slice (some ad164) l0_1.length co36] 25 (0,0)))∧(w'.heap[gb162]? = some (.cells #[.int .i64 a1_0,.int .i64 a1_1,.string a1_2,.string a1_3] 28 (0,0)))∧(w'.heap[gb163]? = some (.cells #[.string (⟨#[]⟩:ByteArray),.slice none 0 0] 25 (0,0)))∧(Kept w w' (fun k_=>P0_1_ k_))∧(Below w0.heap.size w0 w')) ?_ ?_
          rotate_left
          ·
           intro hCont
           refine tw 0 9 46 55 (fun K hK => ?_) (fun K hK => ?_)
           ·
            skip
            refine Kd.R_lit_step k39 _ 39 ?hg (N:=46) ?hd (xs:=([]:List (S39))) (inner:=[]) (ok:=fun _=>True) (okp:=fun _=>True) ?hr ?hp (fun _ hk=>hk) trivial (Below.refl _ _) (Nat.le_refl _) (by simp) ?_;(case hd=>rfl);(case hg=>rfl);(case hr=>(go_simp;done));(case hp=>exact (Reps.none _ _))
            intro v166 w47 ho48 hb hg_ hnew_
            clear hg_ hnew_
            (rw [← Ny165.out] at ho48)
            have HO167:=ζa (Kd.R_lower (Kd.R_new' (Kd.R_newM (M:=fun k_=>(P0_1_ k_ ∨ w.heap.size≤k_)) ho48 (by exact HK.out.1) (fun k_ h_ => .inr h_)) (Kd.R_lt (by exact HO0_1.out))) (δs (by exact HB.out)))
            replace HO0_1:=ζa (Kd.R_elder' (by exact HO0_1.out) (Kd.R_base ho48) hb)
            replace BK161:=ζa (blk_below (g:=gb161) (o:=.cells #[.string a0_0,.slice (some ad164) l0_1.length co36] 25 (0,0)) (by exact BK161.out) hb)
            replace BK162:=ζa (blk_below (g:=gb162) (o:=.cells #[.int .i64 a1_0,.int .i64 a1_1,.string a1_2,.string a1_3] 28 (0,0)) (by exact BK162.out) hb)
            replace BK163:=ζa (blk_below (g:=gb163) (o:=.cells #[.string (⟨#[]⟩:ByteArray),.slice none 0 0] 25 (0,0)) (by exact BK163.out) hb)
            replace HK:=ζa (Kept.below (S:=(fun k_=>P0_1_ k_)) (by exact HK.out) hb)
            replace HB:=ζa (δr (by exact HB.out) hb)
            clear hb ho48
            refine hK.out _ _ ⟨(δl BK161.out 0).trans rfl,(δl BK161.out 1).trans rfl,(δl BK162.out 0).trans rfl,(δl BK162.out 1).trans rfl,(δl BK162.out 2).trans rfl,(δl BK162.out 3).trans rfl⟩ (fun hHeld => ?_)
            clear hK K
            refine nm 46 ?_
            refine tw 3 9 49 55 (fun K hK => ?_) (fun K hK => ?_)
            ·
             skip
             refine Kd.R_append_rows_step k39 (w0:=w0) w0.heap.size (by rfl) (.tmp 46) (.tmp 48) 23 39 (.agg #[(.int .i64 0),(.string ⟨#[]⟩)]) 24 rfl Try.underlying23 info39 rfl (by decide) (by omega) v166 y165 l0_1 _ _ _ (fun k_=>(P0_1_ k_ ∨ w.heap.size≤k_)∧some k_≠(.slice (some ad164) l0_1.length co36:Value).ownBlock) (fun _=>False) rfl rfl ?aO ?aR (fun _ _ h=>h) (fun _ h=>h.elim) ?aF ?aB ?aS ?aL ?_
             (case aR=>repeat (exact (ζg HO0_1.out).2.2))
             (case aB=>exact (by exact HB.out))
             (case aF=>exact (fun k_ hk=>⟨(.inr (Nat.le_trans (by exact HK.out.1) hk)),Kd.fresh' (Kd.R_lt (by exact HO0_1.out)) k_ hk⟩))
             (case aO=>exact (by exact Kd.R_mono HO167.out (fun _ hk=>⟨hk.1.1,hk.2⟩)))
             (case aS=>exact (δs (by exact HB.out)))
             (case aL=>have:=LMc33.out;omega)
             intro v169 w49 ho hb hg hat
             rw [← Ny168.out] at ho
             have n0_:=ζa (Kd.R_after (ok:=(fun k_=>(P0_1_ k_ ∨ w.heap.size≤k_))) (by exact HO0_1.out) hg hat)
             have n1_:=ζa (blk_grown (g:=gb161) (o:=.cells #[.string a0_0,.slice (some ad164) l0_1.length co36] 25 (0,0)) (by exact BK161.out) hg (ζf HO167.out BK161.out (by decide)))
             have n2_:=ζa (blk_grown (g:=gb162) (o:=.cells #[.int .i64 a1_0,.int .i64 a1_1,.string a1_2,.string a1_3] 28 (0,0)) (by exact BK162.out) hg (ζf HO167.out BK162.out (by decide)))
             have n3_:=ζa (blk_grown (g:=gb163) (o:=.cells #[.string (⟨#[]⟩:ByteArray),.slice none 0 0] 25 (0,0)) (by exact BK163.out) hg (ζf HO167.out BK163.out (by decide)))
             have n4_:=ζa (hb)
             have n5_:=ζa (Kept.of_grown (S:=(fun k_=>P0_1_ k_)) hg (by exact HK.out) (fun k_ e_=>(HO167.out.1 k_ e_).1.1))
             have n6_:=ζa (ho)
             clear HO0_1
             clear BK161
             clear BK162
             clear BK163
             clear HB
             clear HK
             clear HO167
             have HO0_1:=n0_
             have BK161:=n1_
             have BK162:=n2_
             have BK163:=n3_
             have HB:=n4_
             have HK:=n5_
             have HO170:=n6_
             clear n0_ n1_ n2_ n3_ n4_ n5_ n6_
             clear ho hb hg hat
             refine hK.out _ _ ⟨(δl BK161.out 0).trans rfl,(δl BK161.out 1).trans rfl,(δl BK162.out 0).trans rfl,(δl BK162.out 1).trans rfl,(δl BK162.out 2).trans rfl,(δl BK162.out 3).trans rfl⟩ (fun hHeld => ?_)
             clear hK K
             refine nm 49 ?_
             refine on 9 55 (fun K hK => ?_)
             refine Kd.R_lit_step k39 _ 39 ?hg (N:=55) ?hd (xs:=([(⟨a1_1,a1_3⟩:S39)]:List (S39))) (inner:=[.int .i64 a1_1,.string a1_3]) (ok:=fun _=>True) (okp:=fun _=>True) ?hr ?hp (fun _ hk=>hk) trivial (Below.refl _ _) (Nat.le_refl _) (by simp) ?_;(case hd=>rfl);(case hg=>rfl);(case hr=>(go_simp;done));(case hp=>exact (Reps.c2 (show Kd.M k39 _ _ _ (⟨a1_1,a1_3⟩:S39) [.int .i64 a1_1,.string a1_3] from (k39_mkM _ _ _ (⟨a1_1,a1_3⟩:S39) )) (Reps.none _ _)))
             intro v172 w50 ho51 hb hg_ hnew_
             clear hg_ hnew_
             (rw [← Ny171.out] at ho51)
             have HO173:=ζa (Kd.R_lower (Kd.R_new' (Kd.R_new' (Kd.R_newM (M:=fun k_=>(P0_1_ k_ ∨ w.heap.size≤k_)) ho51 (by exact HK.out.1) (fun k_ h_ => .inr h_)) (Kd.R_lt (by exact HO0_1.out))) (Kd.R_lt (by exact HO170.out))) (δs (by exact HB.out)))
             replace HO0_1:=ζa (Kd.R_elder' (by exact HO0_1.out) (Kd.R_base ho51) hb)
             replace HO170:=ζa (Kd.R_elder' (by exact HO170.out) (Kd.R_base ho51) hb)
             replace BK161:=ζa (blk_below (g:=gb161) (o:=.cells #[.string a0_0,.slice (some ad164) l0_1.length co36] 25 (0,0)) (by exact BK161.out) hb)
             replace BK162:=ζa (blk_below (g:=gb162) (o:=.cells #[.int .i64 a1_0,.int .i64 a1_1,.string a1_2,.string a1_3] 28 (0,0)) (by exact BK162.out) hb)
             replace BK163:=ζa (blk_below (g:=gb163) (o:=.cells #[.string (⟨#[]⟩:ByteArray),.slice none 0 0] 25 (0,0)) (by exact BK163.out) hb)
             replace HK:=ζa (Kept.below (S:=(fun k_=>P0_1_ k_)) (by exact HK.out) hb)
             replace HB:=ζa (δr (by exact HB.out) hb)
             clear hb ho51
             refine hK.out _ _ ⟨(δl BK161.out 0).trans rfl,(δl BK161.out 1).trans rfl,(δl BK162.out 0).trans rfl,(δl BK162.out 1).trans rfl,(δl BK162.out 2).trans rfl,(δl BK162.out 3).trans rfl⟩ (fun hHeld => ?_)
             clear hK K
             refine nm 55 ?_
             exact norm_ (by simp only [putAll,ζl,δa,δb,δc]) (hCont (v166,v169,v172) _ ⟨hHeld,(by exact Kd.R_mono HO0_1.out (fun _ hk=>⟨hk.1.1,⟨hk.1.2,hk.2⟩⟩)),(by exact Kd.R_mono HO170.out (fun _ hk=>⟨hk.1.1,⟨hk.1.2,hk.2⟩⟩)),(by exact Kd.R_mono HO173.out (fun _ hk=>⟨hk.1.1.1,⟨hk.1.2,hk.2⟩⟩)),(by exact BK161.out),(by exact BK162.out),(by exact BK163.out),(by exact HK.out),(by exact HB.out)⟩)
            ·
             skip
             refine Kd.R_lit_step k39 _ 39 ?hg (N:=55) ?hd (xs:=([(⟨a1_1,a1_3⟩:S39)]:List (S39))) (inner:=[.int .i64 a1_1,.string a1_3]) (ok:=fun _=>True) (okp:=fun _=>True) ?hr ?hp (fun _ hk=>hk) trivial (Below.refl _ _) (Nat.le_refl _) (by simp) ?_;(case hd=>rfl);(case hg=>rfl);(case hr=>(go_simp;done));(case hp=>exact (Reps.c2 (show Kd.M k39 _ _ _ (⟨a1_1,a1_3⟩:S39) [.int .i64 a1_1,.string a1_3] from (k39_mkM _ _ _ (⟨a1_1,a1_3⟩:S39) )) (Reps.none _ _)))
             intro v172 w49 ho50 hb hg_ hnew_
             clear hg_ hnew_
             (rw [← Ny171.out] at ho50)
             have HO173:=ζa (Kd.R_lower (Kd.R_new' (Kd.R_new' (Kd.R_newM (M:=fun k_=>(P0_1_ k_ ∨ w.heap.size≤k_)) ho50 (by exact HK.out.1) (fun k_ h_ => .inr h_)) (Kd.R_lt (by exact HO0_1.out))) (Kd.R_lt (by exact HO167.out))) (δs (by exact HB.out)))
             replace HO0_1:=ζa (Kd.R_elder' (by exact HO0_1.out) (Kd.R_base ho50) hb)
             replace HO167:=ζa (Kd.R_elder' (by exact HO167.out) (Kd.R_base ho50) hb)
             replace BK161:=ζa (blk_below (g:=gb161) (o:=.cells #[.string a0_0,.slice (some ad164) l0_1.length co36] 25 (0,0)) (by exact BK161.out) hb)
             replace BK162:=ζa (blk_below (g:=gb162) (o:=.cells #[.int .i64 a1_0,.int .i64 a1_1,.string a1_2,.string a1_3] 28 (0,0)) (by exact BK162.out) hb)
             replace BK163:=ζa (blk_below (g:=gb163) (o:=.cells #[.string (⟨#[]⟩:ByteArray),.slice none 0 0] 25 (0,0)) (by exact BK163.out) hb)
             replace HK:=ζa (Kept.below (S:=(fun k_=>P0_1_ k_)) (by exact HK.out) hb)
             replace HB:=ζa (δr (by exact HB.out) hb)
             clear hb ho50
             refine hK.out _ _ ⟨(δl BK161.out 0).trans rfl,(δl BK161.out 1).trans rfl,(δl BK162.out 0).trans rfl,(δl BK162.out 1).trans rfl,(δl BK162.out 2).trans rfl,(δl BK162.out 3).trans rfl⟩ (fun hHeld => ?_)
             clear hK K
             refine nm 55 ?_
             refine on 3 49 (fun K hK => ?_)
             refine Kd.R_append_rows_step k39 (w0:=w0) w0.heap.size (by rfl) (.tmp 46) (.tmp 48) 23 39 (.agg #[(.int .i64 0),(.string ⟨#[]⟩)]) 24 rfl Try.underlying23 info39 rfl (by decide) (by omega) v166 y165 l0_1 _ _ _ (fun k_=>(P0_1_ k_ ∨ w.heap.size≤k_)∧some k_≠(.slice (some ad164) l0_1.length co36:Value).ownBlock∧some k_≠(v172:Value).ownBlock) (fun _=>False) rfl rfl ?aO ?aR (fun _ _ h=>h) (fun _ h=>h.elim) ?aF ?aB ?aS ?aL ?_
             (case aR=>repeat (exact (ζg HO0_1.out).2.2))
             (case aB=>exact (by exact HB.out))
             (case aF=>exact (fun k_ hk=>⟨(.inr (Nat.le_trans (by exact HK.out.1) hk)),Kd.fresh' (Kd.R_lt (by exact HO0_1.out)) k_ hk,Kd.fresh' (Kd.R_lt (by exact HO173.out)) k_ hk⟩))
             (case aO=>exact (by exact Kd.R_mono HO167.out (fun _ hk=>⟨hk.1.1.1,⟨hk.1.2,hk.2⟩⟩)))
             (case aS=>exact (δs (by exact HB.out)))
             (case aL=>have:=LMc33.out;omega)
             intro v169 w51 ho hb hg hat
             rw [← Ny168.out] at ho
             have n0_:=ζa (Kd.R_after (ok:=(fun k_=>(P0_1_ k_ ∨ w.heap.size≤k_)∧some k_≠(v172:Value).ownBlock)) (by exact Kd.R_mono HO0_1.out (fun _ hk=>⟨⟨hk.1.1,hk.2⟩,hk.1.2⟩)) hg hat)
             have n1_:=ζa (blk_grown (g:=gb161) (o:=.cells #[.string a0_0,.slice (some ad164) l0_1.length co36] 25 (0,0)) (by exact BK161.out) hg (ζf HO167.out BK161.out (by decide)))
             have n2_:=ζa (blk_grown (g:=gb162) (o:=.cells #[.int .i64 a1_0,.int .i64 a1_1,.string a1_2,.string a1_3] 28 (0,0)) (by exact BK162.out) hg (ζf HO167.out BK162.out (by decide)))
             have n3_:=ζa (blk_grown (g:=gb163) (o:=.cells #[.string (⟨#[]⟩:ByteArray),.slice none 0 0] 25 (0,0)) (by exact BK163.out) hg (ζf HO167.out BK163.out (by decide)))
             have n4_:=ζa (Kd.R_after (ok:=(fun k_=>(P0_1_ k_ ∨ w.heap.size≤k_)∧some k_≠(.slice (some ad164) l0_1.length co36:Value).ownBlock)) (by exact Kd.R_mono HO173.out (fun _ hk=>⟨⟨hk.1.1.1,hk.1.2⟩,hk.2⟩)) hg hat)
             have n5_:=ζa (hb)
             have n6_:=ζa (Kept.of_grown (S:=(fun k_=>P0_1_ k_)) hg (by exact HK.out) (fun k_ e_=>(HO167.out.1 k_ e_).1.1.1))
             have n7_:=ζa (ho)
             clear HO0_1
             clear BK161
             clear BK162
             clear BK163
             clear HO173
             clear HB
             clear HK
             clear HO167
             have HO0_1:=n0_
             have BK161:=n1_
             have BK162:=n2_
             have BK163:=n3_
             have HO173:=n4_
             have HB:=n5_
             have HK:=n6_
             have HO170:=n7_
             clear n0_ n1_ n2_ n3_ n4_ n5_ n6_ n7_
             clear ho hb hg hat
             refine hK.out _ _ ⟨(δl BK161.out 0).trans rfl,(δl BK161.out 1).trans rfl,(δl BK162.out 0).trans rfl,(δl BK162.out 1).trans rfl,(δl BK162.out 2).trans rfl,(δl BK162.out 3).trans rfl⟩ (fun hHeld => ?_)
             clear hK K
             refine nm 49 ?_
             exact norm_ (by simp only [putAll,ζl,δa,δb,δc]) (hCont (v166,v169,v172) _ ⟨hHeld,(by exact Kd.R_mono HO0_1.out (fun _ hk=>⟨hk.1.1,⟨hk.2,hk.1.2⟩⟩)),(by exact HO170.out),(by exact Kd.R_mono HO173.out (fun _ hk=>⟨hk.1.1,⟨hk.1.2,hk.2⟩⟩)),(by exact BK161.out),(by exact BK162.out),(by exact BK163.out),(by exact HK.out),(by exact HB.out)⟩)
           ·
            skip
            refine Kd.R_lit_step k39 _ 39 ?hg (N:=55) ?hd (xs:=([(⟨a1_1,a1_3⟩:S39)]:List (S39))) (inner:=[.int .i64 a1_1,.string a1_3]) (ok:=fun _=>True) (okp:=fun _=>True) ?hr ?hp (fun _ hk=>hk) trivial (Below.refl _ _) (Nat.le_refl _) (by simp) ?_;(case hd=>rfl);(case hg=>rfl);(case hr=>(go_simp;done));(case hp=>exact (Reps.c2 (show Kd.M k39 _ _ _ (⟨a1_1,a1_3⟩:S39) [.int .i64 a1_1,.string a1_3] from (k39_mkM _ _ _ (⟨a1_1,a1_3⟩:S39) )) (Reps.none _ _)))
            intro v172 w47 ho48 hb hg_ hnew_
            clear hg_ hnew_
            (rw [← Ny171.out] at ho48)
            have HO173:=ζa (Kd.R_lower (Kd.R_new' (Kd.R_newM (M:=fun k_=>(P0_1_ k_ ∨ w.heap.size≤k_)) ho48 (by exact HK.out.1) (fun k_ h_ => .inr h_)) (Kd.R_lt (by exact HO0_1.out))) (δs (by exact HB.out)))
            replace HO0_1:=ζa (Kd.R_elder' (by exact HO0_1.out) (Kd.R_base ho48) hb)
            replace BK161:=ζa (blk_below (g:=gb161) (o:=.cells #[.string a0_0,.slice (some ad164) l0_1.length co36] 25 (0,0)) (by exact BK161.out) hb)
            replace BK162:=ζa (blk_below (g:=gb162) (o:=.cells #[.int .i64 a1_0,.int .i64 a1_1,.string a1_2,.string a1_3] 28 (0,0)) (by exact BK162.out) hb)
            replace BK163:=ζa (blk_below (g:=gb163) (o:=.cells #[.string (⟨#[]⟩:ByteArray),.slice none 0 0] 25 (0,0)) (by exact BK163.out) hb)
            replace HK:=ζa (Kept.below (S:=(fun k_=>P0_1_ k_)) (by exact HK.out) hb)
            replace HB:=ζa (δr (by exact HB.out) hb)
            clear hb ho48
            refine hK.out _ _ ⟨(δl BK161.out 0).trans rfl,(δl BK161.out 1).trans rfl,(δl BK162.out 0).trans rfl,(δl BK162.out 1).trans rfl,(δl BK162.out 2).trans rfl,(δl BK162.out 3).trans rfl⟩ (fun hHeld => ?_)
            clear hK K
            refine nm 55 ?_
            refine on 0 46 (fun K hK => ?_)
            refine Kd.R_lit_step k39 _ 39 ?hg (N:=46) ?hd (xs:=([]:List (S39))) (inner:=[]) (ok:=fun _=>True) (okp:=fun _=>True) ?hr ?hp (fun _ hk=>hk) trivial (Below.refl _ _) (Nat.le_refl _) (by simp) ?_;(case hd=>rfl);(case hg=>rfl);(case hr=>(go_simp;done));(case hp=>exact (Reps.none _ _))
            intro v166 w49 ho50 hb hg_ hnew_
            clear hg_ hnew_
            (rw [← Ny165.out] at ho50)
            have HO167:=ζa (Kd.R_lower (Kd.R_new' (Kd.R_new' (Kd.R_newM (M:=fun k_=>(P0_1_ k_ ∨ w.heap.size≤k_)) ho50 (by exact HK.out.1) (fun k_ h_ => .inr h_)) (Kd.R_lt (by exact HO0_1.out))) (Kd.R_lt (by exact HO173.out))) (δs (by exact HB.out)))
            replace HO0_1:=ζa (Kd.R_elder' (by exact HO0_1.out) (Kd.R_base ho50) hb)
            replace HO173:=ζa (Kd.R_elder' (by exact HO173.out) (Kd.R_base ho50) hb)
            replace BK161:=ζa (blk_below (g:=gb161) (o:=.cells #[.string a0_0,.slice (some ad164) l0_1.length co36] 25 (0,0)) (by exact BK161.out) hb)
            replace BK162:=ζa (blk_below (g:=gb162) (o:=.cells #[.int .i64 a1_0,.int .i64 a1_1,.string a1_2,.string a1_3] 28 (0,0)) (by exact BK162.out) hb)
            replace BK163:=ζa (blk_below (g:=gb163) (o:=.cells #[.string (⟨#[]⟩:ByteArray),.slice none 0 0] 25 (0,0)) (by exact BK163.out) hb)
            replace HK:=ζa (Kept.below (S:=(fun k_=>P0_1_ k_)) (by exact HK.out) hb)
            replace HB:=ζa (δr (by exact HB.out) hb)
            clear hb ho50
            refine hK.out _ _ ⟨(δl BK161.out 0).trans rfl,(δl BK161.out 1).trans rfl,(δl BK162.out 0).trans rfl,(δl BK162.out 1).trans rfl,(δl BK162.out 2).trans rfl,(δl BK162.out 3).trans rfl⟩ (fun hHeld => ?_)
            clear hK K
            refine nm 46 ?_
            refine on 3 49 (fun K hK => ?_)
            refine Kd.R_append_rows_step k39 (w0:=w0) w0.heap.size (by rfl) (.tmp 46) (.tmp 48) 23 39 (.agg #[(.int .i64 0),(.string ⟨#[]⟩)]) 24 rfl Try.underlying23 info39 rfl (by decide) (by omega) v166 y165 l0_1 _ _ _ (fun k_=>(P0_1_ k_ ∨ w.heap.size≤k_)∧some k_≠(.slice (some ad164) l0_1.length co36:Value).ownBlock∧some k_≠(v172:Value).ownBlock) (fun _=>False) rfl rfl ?aO ?aR (fun _ _ h=>h) (fun _ h=>h.elim) ?aF ?aB ?aS ?aL ?_
            (case aR=>repeat (exact (ζg HO0_1.out).2.2))
            (case aB=>exact (by exact HB.out))
            (case aF=>exact (fun k_ hk=>⟨(.inr (Nat.le_trans (by exact HK.out.1) hk)),Kd.fresh' (Kd.R_lt (by exact HO0_1.out)) k_ hk,Kd.fresh' (Kd.R_lt (by exact HO173.out)) k_ hk⟩))
            (case aO=>exact (by exact Kd.R_mono HO167.out (fun _ hk=>⟨hk.1.1.1,⟨hk.1.2,hk.2⟩⟩)))
            (case aS=>exact (δs (by exact HB.out)))
            (case aL=>have:=LMc33.out;omega)
            intro v169 w51 ho hb hg hat
            rw [← Ny168.out] at ho
            have n0_:=ζa (Kd.R_after (ok:=(fun k_=>(P0_1_ k_ ∨ w.heap.size≤k_)∧some k_≠(v172:Value).ownBlock)) (by exact HO0_1.out) hg hat)
            have n1_:=ζa (blk_grown (g:=gb161) (o:=.cells #[.string a0_0,.slice (some ad164) l0_1.length co36] 25 (0,0)) (by exact BK161.out) hg (ζf HO167.out BK161.out (by decide)))
            have n2_:=ζa (blk_grown (g:=gb162) (o:=.cells #[.int .i64 a1_0,.int .i64 a1_1,.string a1_2,.string a1_3] 28 (0,0)) (by exact BK162.out) hg (ζf HO167.out BK162.out (by decide)))
            have n3_:=ζa (blk_grown (g:=gb163) (o:=.cells #[.string (⟨#[]⟩:ByteArray),.slice none 0 0] 25 (0,0)) (by exact BK163.out) hg (ζf HO167.out BK163.out (by decide)))
            have n4_:=ζa (Kd.R_after (ok:=(fun k_=>(P0_1_ k_ ∨ w.heap.size≤k_)∧some k_≠(.slice (some ad164) l0_1.length co36:Value).ownBlock)) (by exact Kd.R_mono HO173.out (fun _ hk=>⟨⟨hk.1.1.1,hk.1.2⟩,hk.2⟩)) hg hat)
            have n5_:=ζa (hb)
            have n6_:=ζa (Kept.of_grown (S:=(fun k_=>P0_1_ k_)) hg (by exact HK.out) (fun k_ e_=>(HO167.out.1 k_ e_).1.1.1))
            have n7_:=ζa (ho)
            clear HO0_1
            clear BK161
            clear BK162
            clear BK163
            clear HO173
            clear HB
            clear HK
            clear HO167
            have HO0_1:=n0_
            have BK161:=n1_
            have BK162:=n2_
            have BK163:=n3_
            have HO173:=n4_
            have HB:=n5_
            have HK:=n6_
            have HO170:=n7_
            clear n0_ n1_ n2_ n3_ n4_ n5_ n6_ n7_
            clear ho hb hg hat
            refine hK.out _ _ ⟨(δl BK161.out 0).trans rfl,(δl BK161.out 1).trans rfl,(δl BK162.out 0).trans rfl,(δl BK162.out 1).trans rfl,(δl BK162.out 2).trans rfl,(δl BK162.out 3).trans rfl⟩ (fun hHeld => ?_)
            clear hK K
            refine nm 49 ?_
            exact norm_ (by simp only [putAll,ζl,δa,δb,δc]) (hCont (v166,v169,v172) _ ⟨hHeld,(by exact Kd.R_mono HO0_1.out (fun _ hk=>⟨hk.1.1,⟨hk.2,hk.1.2⟩⟩)),(by exact HO170.out),(by exact Kd.R_mono HO173.out (fun _ hk=>⟨hk.1.1,⟨hk.1.2,hk.2⟩⟩)),(by exact BK161.out),(by exact BK162.out),(by exact BK163.out),(by exact HK.out),(by exact HB.out)⟩)
          rintro ⟨v166,v169,v172⟩ w52 ⟨hS_,h0_,h1_,h2_,h3_,h4_,h5_,h6_,h7_⟩
          have n0_:Aside0 (Kd.R k39 39 w52 w0.heap.size (fun k_=>(P0_1_ k_ ∨ w.heap.size≤k_)∧some k_≠(v169:Value).ownBlock∧some k_≠(v172:Value).ownBlock) (.slice (some ad164) l0_1.length co36) l0_1):=⟨h0_⟩
          have n1_:Aside0 (Kd.R k39 39 w52 w0.heap.size (fun k_=>(P0_1_ k_ ∨ w.heap.size≤k_)∧some k_≠(.slice (some ad164) l0_1.length co36:Value).ownBlock∧some k_≠(v172:Value).ownBlock) v169 y168):=⟨h1_⟩
          have n2_:Aside0 (Kd.R k39 39 w52 w0.heap.size (fun k_=>(P0_1_ k_ ∨ w.heap.size≤k_)∧some k_≠(.slice (some ad164) l0_1.length co36:Value).ownBlock∧some k_≠(v169:Value).ownBlock) v172 y171):=⟨h2_⟩
          have n3_:Aside0 (w52.heap[gb161]? = some (.cells #[.string a0_0,.slice (some ad164) l0_1.length co36] 25 (0,0))):=⟨h3_⟩
          have n4_:Aside0 (w52.heap[gb162]? = some (.cells #[.int .i64 a1_0,.int .i64 a1_1,.string a1_2,.string a1_3] 28 (0,0))):=⟨h4_⟩
          have n5_:Aside0 (w52.heap[gb163]? = some (.cells #[.string (⟨#[]⟩:ByteArray),.slice none 0 0] 25 (0,0))):=⟨h5_⟩
          have n6_:Aside0 (Kept w w52 (fun k_=>P0_1_ k_)):=⟨h6_⟩
          have n7_:Aside0 (Below w0.heap.size w0 w52):=⟨h7_⟩
          clear HO0_1
          clear BK161
          clear BK162
          clear BK163
          clear HK
          clear HB
          clear h0_ h1_ h2_ h3_ h4_ h5_ h6_ h7_
          have HO0_1:=n0_
          have HO170:=n1_
          have HO173:=n2_
          have BK161:=n3_
          have BK162:=n4_
          have BK163:=n5_
          have HK:=n6_
          have HB:=n7_
          clear n0_ n1_ n2_ n3_ n4_ n5_ n6_ n7_
          have hHeld:w52.cell? ⟨gb161,0,none⟩=some (.string a0_0)∧w52.cell? ⟨gb161,1,none⟩=some (.slice (some ad164) l0_1.length co36)∧w52.cell? ⟨gb162,0,none⟩=some (.int .i64 a1_0)∧w52.cell? ⟨gb162,1,none⟩=some (.int .i64 a1_1)∧w52.cell? ⟨gb162,2,none⟩=some (.string a1_2)∧w52.cell? ⟨gb162,3,none⟩=some (.string a1_3):=hS_
          obtain ⟨Ao54,co54,eo54⟩:=Kd.R_slice HO173.out
          (subst eo54)
          refine norm_ (a':=?_) ?_ ?_
          rotate_left
          · simp only [putAll,ζl,δa,δb,δc];rfl
          refine on 10 56 (fun K hK => ?_)
          refine Kd.R_append_rows_step k39 (w0:=w0) w0.heap.size (by rfl) (.tmp 49) (.tmp 55) 23 39 (.agg #[(.int .i64 0),(.string ⟨#[]⟩)]) 24 rfl Try.underlying23 info39 rfl (by decide) (by omega) v169 y168 y171 _ _ _ (fun k_=>(P0_1_ k_ ∨ w.heap.size≤k_)∧some k_≠(.slice (some ad164) l0_1.length co36:Value).ownBlock∧some k_≠(.slice Ao54 y171.length co54:Value).ownBlock) (fun _=>False) rfl rfl ?aO ?aR (fun _ _ h=>h) (fun _ h=>h.elim) ?aF ?aB ?aS ?aL ?_
          (case aR=>repeat (exact (ζg HO173.out).2.2))
          (case aB=>exact (by exact HB.out))
          (case aF=>exact (fun k_ hk=>⟨(.inr (Nat.le_trans (by exact HK.out.1) hk)),Kd.fresh' (Kd.R_lt (by exact HO0_1.out)) k_ hk,Kd.fresh' (Kd.R_lt (by exact HO173.out)) k_ hk⟩))
          (case aO=>exact (by exact HO170.out))
          (case aS=>exact (δs (by exact HB.out)))
          (case aL=>have:=LMc34.out;omega)
          intro v175 w53 ho hb hg hat
          rw [← Ny174.out] at ho
          have n0_:=ζa (Kd.R_after (ok:=(fun k_=>(P0_1_ k_ ∨ w.heap.size≤k_)∧some k_≠(.slice Ao54 y171.length co54:Value).ownBlock)) (by exact Kd.R_mono HO0_1.out (fun _ hk=>⟨⟨hk.1,hk.2.2⟩,hk.2.1⟩)) hg hat)
          have n1_:=ζa (blk_grown (g:=gb161) (o:=.cells #[.string a0_0,.slice (some ad164) l0_1.length co36] 25 (0,0)) (by exact BK161.out) hg (ζf HO170.out BK161.out (by decide)))
          have n2_:=ζa (blk_grown (g:=gb162) (o:=.cells #[.int .i64 a1_0,.int .i64 a1_1,.string a1_2,.string a1_3] 28 (0,0)) (by exact BK162.out) hg (ζf HO170.out BK162.out (by decide)))
          have n3_:=ζa (blk_grown (g:=gb163) (o:=.cells #[.string (⟨#[]⟩:ByteArray),.slice none 0 0] 25 (0,0)) (by exact BK163.out) hg (ζf HO170.out BK163.out (by decide)))
          have n4_:=ζa (Kd.R_after (ok:=(fun k_=>(P0_1_ k_ ∨ w.heap.size≤k_)∧some k_≠(.slice (some ad164) l0_1.length co36:Value).ownBlock)) (by exact Kd.R_mono HO173.out (fun _ hk=>⟨⟨hk.1,hk.2.1⟩,hk.2.2⟩)) hg hat)
          have n5_:=ζa (hb)
          have n6_:=ζa (Kept.of_grown (S:=(fun k_=>P0_1_ k_)) hg (by exact HK.out) (fun k_ e_=>(HO170.out.1 k_ e_).1))
          have n7_:=ζa (ho)
          clear HO0_1
          clear BK161
          clear BK162
          clear BK163
          clear HO173
          clear HB
          clear HK
          clear HO170
          have HO0_1:=n0_
          have BK161:=n1_
          have BK162:=n2_
          have BK163:=n3_
          have HO173:=n4_
          have HB:=n5_
          have HK:=n6_
          have HO176:=n7_
          clear n0_ n1_ n2_ n3_ n4_ n5_ n6_ n7_
          clear ho hb hg hat
          obtain ⟨Ao55,co55,eo55⟩:=Kd.R_slice HO176.out
          (subst eo55)
          refine hK.out _ _ ⟨(δl BK161.out 0).trans rfl,(δl BK161.out 1).trans rfl,(δl BK162.out 0).trans rfl,(δl BK162.out 1).trans rfl,(δl BK162.out 2).trans rfl,(δl BK162.out 3).trans rfl⟩ (fun hHeld => ?_)
          clear hK K
          refine nm 56 ?_
          refine pu 11 57 ?_
          refine last_ (i:=12) (N:=none) #[τ,τ,τ,τ,τ,τ,τ,τ,τ,τ,τ,τ,τ] rfl rfl (one_of HT_.out (by kernel_rfl)) (by decide) (fun K hK => ?_)
          have hs56:w53.cell? ⟨gb161,1,none⟩=some (.slice (some ad164) l0_1.length co36):=(δl BK161.out 1).trans rfl
          have hfs56:=δm BK161.out 1
          have hns56_1:=NB162_161.out
          have hns56_2:=NB163_161.out
          have hms56_1:=NB161_162.out
          have hms56_2:=NB161_163.out
          refine skip_ (w1:=?_) (by rfl) rfl ?_ ?_
          rotate_left
          ·
           go_simp
           rfl
          refine hK.out _ _ ?_
          clear hK K
          refine done_ (done_of HT_.out (by kernel_rfl)) ?_
          have hcz57_0:w53.cell? ⟨gb162,0,none⟩=some (.int .i64 a1_0):=(δl BK162.out 0).trans rfl
          have hcz57_1:w53.cell? ⟨gb162,1,none⟩=some (.int .i64 a1_1):=(δl BK162.out 1).trans rfl
          have hcz57_2:w53.cell? ⟨gb162,2,none⟩=some (.string a1_2):=(δl BK162.out 2).trans rfl
          have hcz57_3:w53.cell? ⟨gb162,3,none⟩=some (.string a1_3):=(δl BK162.out 3).trans rfl
          have hfz57_0:=δm BK162.out 0
          have hfz57_1:=δm BK162.out 1
          have hfz57_2:=δm BK162.out 2
          have hfz57_3:=δm BK162.out 3
          try go_wp2_with (((with_reducible refine δv (f:=36) rfl ?_);refine gl 59 Try.func36 #[.agg #[.int .i64 a1_0,.int .i64 a1_1,.string a1_2,.string a1_3]] ?_;(with_reducible refine (spec_l06Hash.calls a1_0 a1_1 a1_2 a1_3 t177 _ A35.out).mono ?_);rintro e w58 ⟨rfl,hb⟩;refine ⟨_,rfl,?_⟩;replace HO0_1:=ζa (ζh (by exact (Kd.R_mono (ζi (p:=⟨gb161,1,none⟩) (Kd.R_types HO0_1.out BK161.out (by decide)) (fun _ hk=>hk.2) (.slice Ao55 y174.length co55)) (fun _ h_=>h_.1))) hb);replace HO173:=ζa (ζh (by exact (Kd.R_mono (ζi (p:=⟨gb161,1,none⟩) (Kd.R_types HO173.out BK161.out (by decide)) (fun _ hk=>hk.2) (.slice Ao55 y174.length co55)) (fun _ h_=>h_.1))) hb);replace HO176:=ζa (ζh (by exact (Kd.R_mono (ζi (p:=⟨gb161,1,none⟩) (Kd.R_types HO176.out BK161.out (by decide)) (fun _ hk=>hk.2) (.slice Ao55 y174.length co55)) (fun _ h_=>h_.1))) hb);replace BK161:=ζa (blk_below (g:=gb161) (o:=.cells #[.string a0_0,.slice Ao55 y174.length co55] 25 (0,0)) (by refine δw (cs:=#[.string a0_0,.slice (some ad164) l0_1.length co36]) ?_ 1 _ rfl;exact BK161.out) hb);replace BK162:=ζa (blk_below (g:=gb162) (o:=.cells #[.int .i64 a1_0,.int .i64 a1_1,.string a1_2,.string a1_3] 28 (0,0)) (by refine blk_far ?_ NB162_161.out _;exact BK162.out) hb);replace BK163:=ζa (blk_below (g:=gb163) (o:=.cells #[.string (⟨#[]⟩:ByteArray),.slice none 0 0] 25 (0,0)) (by refine blk_far ?_ NB163_161.out _;exact BK163.out) hb);replace HK:=ζa (Kept.below (S:=(fun k_=>P0_1_ k_)) (by repeat ((with_reducible first|exact HK.out|refine Kept.setCell ?_ (.inr GW161.out) _))) hb);replace HB:=ζa (δr (by repeat ((with_reducible first|exact HB.out|refine δq ?_ GE161.out))) hb);(try clear hb);(try clear hb2);(try clear hk);(try clear hi);have hcz59_0:w58.cell? ⟨gb161,0,none⟩=some (.string a0_0):=(δl BK161.out 0).trans rfl;have hcz59_1:w58.cell? ⟨gb161,1,none⟩=some (.slice Ao55 y174.length co55):=(δl BK161.out 1).trans rfl;have hfz59_0:=δm BK161.out 0;have hfz59_1:=δm BK161.out 1;have hcz60_0:w58.cell? ⟨gb163,0,none⟩=some (.string (⟨#[]⟩:ByteArray)):=(δl BK163.out 0).trans rfl;have hcz60_1:w58.cell? ⟨gb163,1,none⟩=some (.slice none 0 0):=(δl BK163.out 1).trans rfl;have hfz60_0:=δm BK163.out 0;have hfz60_1:=δm BK163.out 1))
          refine bodyPost_ret (results_ct rfl _ _ gb163 25 #[.string t177,.slice Ao55 y174.length co55] (0,0) _ rfl (by refine δw (cs:=#[.string t177,.slice none 0 0]) ?_ 1 _ rfl;refine δw (cs:=#[.string (⟨#[]⟩:ByteArray),.slice none 0 0]) ?_ 0 _ rfl;refine blk_far ?_ NB163_161.out _;exact BK163.out) Try.underlying25 rfl (by kernel_rfl)) rfl ?_
          exact ⟨_,by rfl,by exact Kd.R_mono (ζi (p:=⟨gb163,1,none⟩) (ζi (p:=⟨gb163,0,none⟩) (ζi (p:=⟨gb161,0,none⟩) (Kd.R_types (Kd.R_types HO176.out BK161.out (by decide)) BK163.out (by decide)) (fun _ hk=>hk.1.2) (.string t177)) (fun _ hk=>hk.2) (.string t177)) (fun _ hk=>hk.2) (.slice Ao55 y174.length co55)) (fun _ hk=>hk.1.1.1),by repeat ((with_reducible first|exact HB.out|refine δq ?_ GE161.out|refine δq ?_ GE163.out)),by repeat ((with_reducible first|exact HK.out|refine Kept.setCell ?_ (.inr GW161.out) _|refine Kept.setCell ?_ (.inr GW163.out) _))⟩
         ·
          rw [if_neg c34] at H
          exact absurd H (by simp)
        ·
         rw [if_neg c33] at H
         exact absurd H (by simp)
      ·
       rw [if_neg c19] at H
       exact absurd H (by simp)
     ·
      rw [if_neg c18] at H
      exact absurd H (by simp)
    ·
     rw [if_neg c16] at H
     have c16b0:decide (0<(l0_1.length:Int))=φ:=decide_eq_false c16
     have c16b1:decide (0<l0_1.length)=φ:=decide_eq_false (by omega)
     clear c16
     obtain ⟨y178,hy178⟩ : ∃ y_:List (S39),y_=(([]:List (S39))):=⟨_,rfl⟩
     replace H:(if y178.length+l0_1.length<5864062014805 then ((some (y178 ++ l0_1:List (S39))).bind fun y181=>((some (([(⟨a1_1,a1_3⟩:S39)]:List (S39)):List (S39))).bind fun y184=>(if y181.length+y184.length<5864062014805 then ((spec_l06Hash.f a1_0 a1_1 a1_2 a1_3).bind fun t190=>(some (t190,(y181 ++ y184),0))) else (none)))) else (none))=some (r1,r2,r3):=by (have H2_:=(Option.bind_some _ _).symm.trans H;rw [hy178];with_reducible exact H2_)
     have Ny178:=ζa hy178
     clear hy178
     by_cases c61:y178.length+l0_1.length<5864062014805
     ·
      rw [if_pos c61] at H
      have LMc61:=ζa c61
      clear c61
      obtain ⟨y181,hy181⟩ : ∃ y_:List (S39),y_=(y178 ++ l0_1):=⟨_,rfl⟩
      replace H:((some (([(⟨a1_1,a1_3⟩:S39)]:List (S39)):List (S39))).bind fun y184=>(if y181.length+y184.length<5864062014805 then ((spec_l06Hash.f a1_0 a1_1 a1_2 a1_3).bind fun t190=>(some (t190,(y181 ++ y184),0))) else (none)))=some (r1,r2,r3):=by (have H2_:=(Option.bind_some _ _).symm.trans H;rw [hy181];with_reducible exact H2_)
      have Ny181:=ζa hy181
      clear hy181
      obtain ⟨y184,hy184⟩ : ∃ y_:List (S39),y_=(([(⟨a1_1,a1_3⟩:S39)]:List (S39))):=⟨_,rfl⟩
      replace H:(if y181.length+y184.length<5864062014805 then ((spec_l06Hash.f a1_0 a1_1 a1_2 a1_3).bind fun t190=>(some (t190,(y181 ++ y184),0))) else (none))=some (r1,r2,r3):=by (have H2_:=(Option.bind_some _ _).symm.trans H;rw [hy184];with_reducible exact H2_)
      have Ny184:=ζa hy184
      clear hy184
      by_cases c62:y181.length+y184.length<5864062014805
      ·
       rw [if_pos c62] at H
       have LMc62:=ζa c62
       clear c62
       obtain ⟨y187,hy187⟩ : ∃ y_:List (S39),y_=(y181 ++ y184):=⟨_,rfl⟩
       replace H:((spec_l06Hash.f a1_0 a1_1 a1_2 a1_3).bind fun t190=>(some (t190,y187,0)))=some (r1,r2,r3):=by (rw [hy187];with_reducible exact H)
       have Ny187:=ζa hy187
       clear hy187
       obtain ⟨t190,A63,H⟩:=bsm H
       simp only [Option.some.injEq,Prod.mk.injEq] at H
       obtain ⟨rfl,rfl,rfl⟩:=H
       obtain ⟨Ao64,co64,eo64⟩:=Kd.R_slice HO0_1.out
       subst eo64
       go_enter Try.func45,Try.ntmps45
       try go_wp2_with (first|((with_reducible refine δx (N:=2) rfl ?_);refine bev 2 #[.string a0_0,.slice Ao64 l0_1.length co64] 25 ?_;intro gb161 hg w65 hbox hb;replace HO0_1:=ζa (ζh (by exact HO0_1.out) hb);have BK161:=ζa (hbox);have GW161:=ζa ((by rw [hg];exact (by exact HK.out.1):w.heap.size≤gb161));replace HK:=ζa (Kept.below (S:=(fun k_=>P0_1_ k_)) (by exact HK.out) hb);have GE161:=ζa ((by rw [hg];exact (δs (by exact HB.out)):w0.heap.size≤gb161));replace HB:=ζa (δr (by exact HB.out) hb);clear hb hbox hg)|((with_reducible refine δx (N:=3) rfl ?_);refine bev 3 #[.int .i64 a1_0,.int .i64 a1_1,.string a1_2,.string a1_3] 28 ?_;intro gb162 hg w66 hbox hb;replace HO0_1:=ζa (ζh (by exact HO0_1.out) hb);have BK162:=ζa (hbox);have GW162:=ζa ((by rw [hg];exact (by exact HK.out.1):w.heap.size≤gb162));replace HK:=ζa (Kept.below (S:=(fun k_=>P0_1_ k_)) (by exact HK.out) hb);have GE162:=ζa ((by rw [hg];exact (δs (by exact HB.out)):w0.heap.size≤gb162));replace HB:=ζa (δr (by exact HB.out) hb);have NB161_162:=ζa ((by rw [hg];exact Nat.ne_of_lt (blk_lt (g:=gb161) (o:=.cells #[.string a0_0,.slice Ao64 l0_1.length co64] 25 (0,0)) (by exact BK161.out)):gb161≠gb162));have NB162_161:=ζa ((by rw [hg];exact Nat.ne_of_gt (blk_lt (g:=gb161) (o:=.cells #[.string a0_0,.slice Ao64 l0_1.length co64] 25 (0,0)) (by exact BK161.out)):gb162≠gb161));replace BK161:=ζa (blk_below (g:=gb161) (o:=.cells #[.string a0_0,.slice Ao64 l0_1.length co64] 25 (0,0)) (by exact BK161.out) hb);clear hb hbox hg)|((with_reducible refine δx (N:=4) rfl ?_);refine bev 4 #[.string (⟨#[]⟩:ByteArray),.slice none 0 0] 25 ?_;intro gb163 hg w67 hbox hb;replace HO0_1:=ζa (ζh (by exact HO0_1.out) hb);have BK163:=ζa (hbox);have GW163:=ζa ((by rw [hg];exact (by exact HK.out.1):w.heap.size≤gb163));replace HK:=ζa (Kept.below (S:=(fun k_=>P0_1_ k_)) (by exact HK.out) hb);have GE163:=ζa ((by rw [hg];exact (δs (by exact HB.out)):w0.heap.size≤gb163));replace HB:=ζa (δr (by exact HB.out) hb);have NB161_163:=ζa ((by rw [hg];exact Nat.ne_of_lt (blk_lt (g:=gb161) (o:=.cells #[.string a0_0,.slice Ao64 l0_1.length co64] 25 (0,0)) (by exact BK161.out)):gb161≠gb163));have NB163_161:=ζa ((by rw [hg];exact Nat.ne_of_gt (blk_lt (g:=gb161) (o:=.cells #[.string a0_0,.slice Ao64 l0_1.length co64] 25 (0,0)) (by exact BK161.out)):gb163≠gb161));replace BK161:=ζa (blk_below (g:=gb161) (o:=.cells #[.string a0_0,.slice Ao64 l0_1.length co64] 25 (0,0)) (by exact BK161.out) hb);have NB162_163:=ζa ((by rw [hg];exact Nat.ne_of_lt (blk_lt (g:=gb162) (o:=.cells #[.int .i64 a1_0,.int .i64 a1_1,.string a1_2,.string a1_3] 28 (0,0)) (by exact BK162.out)):gb162≠gb163));have NB163_162:=ζa ((by rw [hg];exact Nat.ne_of_gt (blk_lt (g:=gb162) (o:=.cells #[.int .i64 a1_0,.int .i64 a1_1,.string a1_2,.string a1_3] 28 (0,0)) (by exact BK162.out)):gb163≠gb162));replace BK162:=ζa (blk_below (g:=gb162) (o:=.cells #[.int .i64 a1_0,.int .i64 a1_1,.string a1_2,.string a1_3] 28 (0,0)) (by exact BK162.out) hb);clear hb hbox hg;have hnb68:=NB161_162.out;have hnc68:=NB162_161.out;have hnb69:=NB161_163.out;have hnc69:=NB163_161.out;have hcz70_0:w67.cell? ⟨gb161,0,none⟩=some (.string a0_0):=(δl BK161.out 0).trans rfl;have hcz70_1:w67.cell? ⟨gb161,1,none⟩=some (.slice Ao64 l0_1.length co64):=(δl BK161.out 1).trans rfl;have hfz70_0:=δm BK161.out 0;have hfz70_1:=δm BK161.out 1;have hnb71:=NB162_163.out;have hnc71:=NB163_162.out;have hcz72_0:w67.cell? ⟨gb162,0,none⟩=some (.int .i64 a1_0):=(δl BK162.out 0).trans rfl;have hcz72_1:w67.cell? ⟨gb162,1,none⟩=some (.int .i64 a1_1):=(δl BK162.out 1).trans rfl;have hcz72_2:w67.cell? ⟨gb162,2,none⟩=some (.string a1_2):=(δl BK162.out 2).trans rfl;have hcz72_3:w67.cell? ⟨gb162,3,none⟩=some (.string a1_3):=(δl BK162.out 3).trans rfl;have hfz72_0:=δm BK162.out 0;have hfz72_1:=δm BK162.out 1;have hfz72_2:=δm BK162.out 2;have hfz72_3:=δm BK162.out 3))
       replace HO0_1:=ζa (ζe HO0_1.out)
       replace BK161:=ζa (δp BK161.out)
       replace BK162:=ζa (δp BK162.out)
       replace BK163:=ζa (δp BK163.out)
       replace HK:=ζa (Kept.drew HK.out)
       replace HB:=ζa (δj HB.out)
       refine sta 15 (fun w'=>True) [] spec_l06Update.tab8 spec_l06Update.bits8 trivial (fun hHeld HT_ HW_ => ?_)
       generalize w67.drew=w73 at HO0_1 BK161 BK162 BK163 HK HB hHeld ⊢
       refine pu 0 31 ?_
       refine pu 1 32 ?_
       refine pu 2 33 ?_
       refine ζk (i:=3) (N:=some 34) (v:=undef) (a':=?_) #[τ,τ,τ,τ,φ,φ,φ,φ,φ,φ,φ,φ,φ,φ,φ] rfl rfl (ζj HT_.out (by kernel_rfl)) (fun _ _ _ h=>h) (Or.inr ⟨by rfl,rfl⟩) ?_ ?_
       rotate_left
       · simp only [ζl,δa,δb,δc,i64_w,i32_w];rfl
       refine ζk (i:=4) (N:=some 35) (v:=undef) (a':=?_) #[τ,τ,τ,τ,τ,φ,φ,φ,φ,φ,φ,φ,φ,φ,φ] rfl rfl (ζj HT_.out (by kernel_rfl)) (fun _ _ _ h=>h) (Or.inr ⟨by rfl,rfl⟩) ?_ ?_
       rotate_left
       · simp only [ζl,δa,δb,δc,i64_w,i32_w];rfl
       refine ζk (i:=5) (N:=some 36) (v:=undef) (a':=?_) #[τ,τ,τ,τ,τ,τ,φ,φ,φ,φ,φ,φ,φ,φ,φ] rfl rfl (ζj HT_.out (by kernel_rfl)) (fun _ _ _ h=>h) (Or.inr ⟨by rfl,rfl⟩) ?_ ?_
       rotate_left
       · simp only [ζl,δa,δb,δc,i64_w,i32_w];rfl
       refine ζk (i:=6) (N:=some 37) (v:=undef) (a':=?_) #[τ,τ,τ,τ,τ,τ,τ,φ,φ,φ,φ,φ,φ,φ,φ] rfl rfl (ζj HT_.out (by kernel_rfl)) (fun _ _ _ h=>h) (Or.inr ⟨by rfl,rfl⟩) ?_ ?_
       rotate_left
       · simp only [ζl,δa,δb,δc,i64_w,i32_w];rfl
       refine ζk (i:=7) (N:=some 38) (v:=undef) (a':=?_) #[τ,τ,τ,τ,τ,τ,τ,τ,φ,φ,φ,φ,φ,φ,φ] rfl rfl (ζj HT_.out (by kernel_rfl)) (fun _ _ _ h=>h) (Or.inr ⟨by rfl,rfl⟩) ?_ ?_
       rotate_left
       · simp only [ζl,δa,δb,δc,i64_w,i32_w];rfl
       refine ζk (i:=8) (N:=some 39) (v:=undef) (a':=?_) #[τ,τ,τ,τ,τ,τ,τ,τ,τ,φ,φ,φ,φ,φ,φ] rfl rfl (ζj HT_.out (by kernel_rfl)) (fun _ _ _ h=>h) (Or.inr ⟨by rfl,rfl⟩) ?_ ?_
       rotate_left
       · simp only [ζl,δa,δb,δc,i64_w,i32_w];rfl
       refine ζk (i:=9) (N:=some 40) (v:=undef) (a':=?_) #[τ,τ,τ,τ,τ,τ,τ,τ,τ,τ,φ,φ,φ,φ,φ] rfl rfl (ζj HT_.out (by kernel_rfl)) (fun _ _ _ h=>h) (Or.inr ⟨by rfl,rfl⟩) ?_ ?_
       rotate_left
       · simp only [ζl,δa,δb,δc,i64_w,i32_w];rfl
       refine ζk (i:=10) (N:=some 41) (v:=undef) (a':=?_) #[τ,τ,τ,τ,τ,τ,τ,τ,τ,τ,τ,φ,φ,φ,φ] rfl rfl (ζj HT_.out (by kernel_rfl)) (fun _ _ _ h=>h) (Or.inr ⟨by rfl,rfl⟩) ?_ ?_
       rotate_left
       · simp only [ζl,δa,δb,δc,i64_w,i32_w];rfl
       refine ζk (i:=11) (N:=some 42) (v:=undef) (a':=?_) #[τ,τ,τ,τ,τ,τ,τ,τ,τ,τ,τ,τ,φ,φ,φ] rfl rfl (ζj HT_.out (by kernel_rfl)) (fun _ _ _ h=>h) (Or.inr ⟨by rfl,rfl⟩) ?_ ?_
       rotate_left
       · simp only [ζl,δa,δb,δc,i64_w,i32_w];rfl
       refine ζk (i:=12) (N:=some 43) (v:=undef) (a':=?_) #[τ,τ,τ,τ,τ,τ,τ,τ,τ,τ,τ,τ,τ,φ,φ] rfl rfl (ζj HT_.out (by kernel_rfl)) (fun _ _ _ h=>h) (Or.inr ⟨by rfl,rfl⟩) ?_ ?_
       rotate_left
       · simp only [ζl,δa,δb,δc,i64_w,i32_w];rfl
       refine pu 13 44 ?_
       refine pu 14 30 ?_
       refine done_ (done_of HT_.out (by kernel_rfl)) ?_
       try go_wp2
       replace HO0_1:=ζa (ζe HO0_1.out)
       replace BK161:=ζa (δp BK161.out)
       replace BK162:=ζa (δp BK162.out)
       replace BK163:=ζa (δp BK163.out)
       replace HK:=ζa (Kept.drew HK.out)
       replace HB:=ζa (δj HB.out)
       refine sta 13 (fun w'=>w'.cell? ⟨gb161,0,none⟩=some (.string a0_0)∧w'.cell? ⟨gb161,1,none⟩=some (.slice Ao64 l0_1.length co64)∧w'.cell? ⟨gb162,0,none⟩=some (.int .i64 a1_0)∧w'.cell? ⟨gb162,1,none⟩=some (.int .i64 a1_1)∧w'.cell? ⟨gb162,2,none⟩=some (.string a1_2)∧w'.cell? ⟨gb162,3,none⟩=some (.string a1_3)) [12] spec_l06Update.tab10 spec_l06Update.bits10 ⟨(δl BK161.out 0).trans rfl,(δl BK161.out 1).trans rfl,(δl BK162.out 0).trans rfl,(δl BK162.out 1).trans rfl,(δl BK162.out 2).trans rfl,(δl BK162.out 3).trans rfl⟩ (fun hHeld HT_ HW_ => ?_)
       generalize w73.drew=w74 at HO0_1 BK161 BK162 BK163 HK HB hHeld ⊢
       refine pu 1 47 ?_
       refine pu 4 50 ?_
       refine pu 6 52 ?_
       refine ta 2 48 ?_
       refine ta 5 51 ?_
       refine ta 7 53 ?_
       refine pu 8 54 ?_
       refine join_ (σ:=Value × Value × Value) 3 #[τ,τ,τ,τ,τ,τ,τ,τ,τ,τ,φ,φ,φ] (fun s_ => [(46,s_.1),(49,s_.2.1),(55,s_.2.2)]) (fun s_ w'=>(w'.cell? ⟨gb161,0,none⟩=some (.string a0_0)∧w'.cell? ⟨gb161,1,none⟩=some (.slice Ao64 l0_1.length co64)∧w'.cell? ⟨gb162,0,none⟩=some (.int .i64 a1_0)∧w'.cell? ⟨gb162,1,none⟩=some (.int .i64 a1_1)∧w'.cell? ⟨gb162,2,none⟩=some (.string a1_2)∧w'.cell? ⟨gb162,3,none⟩=some (.string a1_3))∧(Kd.R k39 39 w' w0.heap.size (fun k_=>(P0_1_ k_ ∨ w.heap.size≤k_)∧some k_≠(s_.2.1:Value).ownBlock∧some k_≠(s_.2.2:Value).ownBlock) (.slice Ao64 l0_1.length co64) l0_1)∧(Kd.R k39 39 w' w0.heap.size (fun k_=>(P0_1_ k_ ∨ w.heap.size≤k_)∧some k_≠(.slice Ao64 l0_1.length co64:Value).ownBlock∧some k_≠(s_.2.2:Value).ownBlock) s_.2.1 y181)∧(Kd.R k39 39 w' w0.heap.size (fun k_=>(P0_1_ k_ ∨ w.heap.size≤k_)∧some k_≠(.slice Ao64 l0_1.length co64:Value).ownBlock∧some k_≠(s_.2.1:Value).ownBlock) s_.2.2 y184)∧(w'.heap[gb161]? = some (.cells #[.string a0_0,.slice Ao64 l0_1.length co64] 25 (0,0)))∧(w'.heap[gb162]? = some (.cells #[.int .i64 a1_0,.int .i64 a1_1,.string a1_2,.string a1_3] 28 (0,0)))∧(w'.heap[gb163]? = some (.cells #[.string (⟨#[]⟩:ByteArray),.slice none 0 0] 25 (0,0)))∧(Kept w w' (fun k_=>P0_1_ k_))∧(Below w0.heap.size w0 w')) ?_ ?_
       rotate_left
       ·
        intro hCont
        refine tw 0 9 46 55 (fun K hK => ?_) (fun K hK => ?_)
        ·
         skip
         refine Kd.R_lit_step k39 _ 39 ?hg (N:=46) ?hd (xs:=([]:List (S39))) (inner:=[]) (ok:=fun _=>True) (okp:=fun _=>True) ?hr ?hp (fun _ hk=>hk) trivial (Below.refl _ _) (Nat.le_refl _) (by simp) ?_;(case hd=>rfl);(case hg=>rfl);(case hr=>(go_simp;done));(case hp=>exact (Reps.none _ _))
         intro v179 w75 ho76 hb hg_ hnew_
         clear hg_ hnew_
         (rw [← Ny178.out] at ho76)
         have HO180:=ζa (Kd.R_lower (Kd.R_new' (Kd.R_newM (M:=fun k_=>(P0_1_ k_ ∨ w.heap.size≤k_)) ho76 (by exact HK.out.1) (fun k_ h_ => .inr h_)) (Kd.R_lt (by exact HO0_1.out))) (δs (by exact HB.out)))
         replace HO0_1:=ζa (Kd.R_elder' (by exact HO0_1.out) (Kd.R_base ho76) hb)
         replace BK161:=ζa (blk_below (g:=gb161) (o:=.cells #[.string a0_0,.slice Ao64 l0_1.length co64] 25 (0,0)) (by exact BK161.out) hb)
         replace BK162:=ζa (blk_below (g:=gb162) (o:=.cells #[.int .i64 a1_0,.int .i64 a1_1,.string a1_2,.string a1_3] 28 (0,0)) (by exact BK162.out) hb)
         replace BK163:=ζa (blk_below (g:=gb163) (o:=.cells #[.string (⟨#[]⟩:ByteArray),.slice none 0 0] 25 (0,0)) (by exact BK163.out) hb)
         replace HK:=ζa (Kept.below (S:=(fun k_=>P0_1_ k_)) (by exact HK.out) hb)
         replace HB:=ζa (δr (by exact HB.out) hb)
         clear hb ho76
         refine hK.out _ _ ⟨(δl BK161.out 0).trans rfl,(δl BK161.out 1).trans rfl,(δl BK162.out 0).trans rfl,(δl BK162.out 1).trans rfl,(δl BK162.out 2).trans rfl,(δl BK162.out 3).trans rfl⟩ (fun hHeld => ?_)
         clear hK K
         refine nm 46 ?_
         refine tw 3 9 49 55 (fun K hK => ?_) (fun K hK => ?_)
         ·
          skip
          refine Kd.R_append_rows_step k39 (w0:=w0) w0.heap.size (by rfl) (.tmp 46) (.tmp 48) 23 39 (.agg #[(.int .i64 0),(.string ⟨#[]⟩)]) 24 rfl Try.underlying23 info39 rfl (by decide) (by omega) v179 y178 l0_1 _ _ _ (fun k_=>(P0_1_ k_ ∨ w.heap.size≤k_)∧some k_≠(.slice Ao64 l0_1.length co64:Value).ownBlock) (fun _=>False) rfl rfl ?aO ?aR (fun _ _ h=>h) (fun _ h=>h.elim) ?aF ?aB ?aS ?aL ?_
          (case aR=>repeat (exact (ζg HO0_1.out).2.2))
          (case aB=>exact (by exact HB.out))
          (case aF=>exact (fun k_ hk=>⟨(.inr (Nat.le_trans (by exact HK.out.1) hk)),Kd.fresh' (Kd.R_lt (by exact HO0_1.out)) k_ hk⟩))
          (case aO=>exact (by exact Kd.R_mono HO180.out (fun _ hk=>⟨hk.1.1,hk.2⟩)))
          (case aS=>exact (δs (by exact HB.out)))
          (case aL=>have:=LMc61.out;omega)
          intro v182 w77 ho hb hg hat
          rw [← Ny181.out] at ho
          have n0_:=ζa (Kd.R_after (ok:=(fun k_=>(P0_1_ k_ ∨ w.heap.size≤k_))) (by exact HO0_1.out) hg hat)
          have n1_:=ζa (blk_grown (g:=gb161) (o:=.cells #[.string a0_0,.slice Ao64 l0_1.length co64] 25 (0,0)) (by exact BK161.out) hg (ζf HO180.out BK161.out (by decide)))
          have n2_:=ζa (blk_grown (g:=gb162) (o:=.cells #[.int .i64 a1_0,.int .i64 a1_1,.string a1_2,.string a1_3] 28 (0,0)) (by exact BK162.out) hg (ζf HO180.out BK162.out (by decide)))
          have n3_:=ζa (blk_grown (g:=gb163) (o:=.cells #[.string (⟨#[]⟩:ByteArray),.slice none 0 0] 25 (0,0)) (by exact BK163.out) hg (ζf HO180.out BK163.out (by decide)))
          have n4_:=ζa (hb)
          have n5_:=ζa (Kept.of_grown (S:=(fun k_=>P0_1_ k_)) hg (by exact HK.out) (fun k_ e_=>(HO180.out.1 k_ e_).1.1))
          have n6_:=ζa (ho)
          clear HO0_1
          clear BK161
          clear BK162
          clear BK163
          clear HB
          clear HK
          clear HO180
          have HO0_1:=n0_
          have BK161:=n1_
          have BK162:=n2_
          have BK163:=n3_
          have HB:=n4_
          have HK:=n5_
          have HO183:=n6_
          clear n0_ n1_ n2_ n3_ n4_ n5_ n6_
          clear ho hb hg hat
          refine hK.out _ _ ⟨(δl BK161.out 0).trans rfl,(δl BK161.out 1).trans rfl,(δl BK162.out 0).trans rfl,(δl BK162.out 1).trans rfl,(δl BK162.out 2).trans rfl,(δl BK162.out 3).trans rfl⟩ (fun hHeld => ?_)
          clear hK K
          refine nm 49 ?_
          refine on 9 55 (fun K hK => ?_)
          refine Kd.R_lit_step k39 _ 39 ?hg (N:=55) ?hd (xs:=([(⟨a1_1,a1_3⟩:S39)]:List (S39))) (inner:=[.int .i64 a1_1,.string a1_3]) (ok:=fun _=>True) (okp:=fun _=>True) ?hr ?hp (fun _ hk=>hk) trivial (Below.refl _ _) (Nat.le_refl _) (by simp) ?_;(case hd=>rfl);(case hg=>rfl);(case hr=>(go_simp;done));(case hp=>exact (Reps.c2 (show Kd.M k39 _ _ _ (⟨a1_1,a1_3⟩:S39) [.int .i64 a1_1,.string a1_3] from (k39_mkM _ _ _ (⟨a1_1,a1_3⟩:S39) )) (Reps.none _ _)))
          intro v185 w78 ho79 hb hg_ hnew_
          clear hg_ hnew_
          (rw [← Ny184.out] at ho79)
          have HO186:=ζa (Kd.R_lower (Kd.R_new' (Kd.R_new' (Kd.R_newM (M:=fun k_=>(P0_1_ k_ ∨ w.heap.size≤k_)) ho79 (by exact HK.out.1) (fun k_ h_ => .inr h_)) (Kd.R_lt (by exact HO0_1.out))) (Kd.R_lt (by exact HO183.out))) (δs (by exact HB.out)))
          replace HO0_1:=ζa (Kd.R_elder' (by exact HO0_1.out) (Kd.R_base ho79) hb)
          replace HO183:=ζa (Kd.R_elder' (by exact HO183.out) (Kd.R_base ho79) hb)
          replace BK161:=ζa (blk_below (g:=gb161) (o:=.cells #[.string a0_0,.slice Ao64 l0_1.length co64] 25 (0,0)) (by exact BK161.out) hb)
          replace BK162:=ζa (blk_below (g:=gb162) (o:=.cells #[.int .i64 a1_0,.int .i64 a1_1,.string a1_2,.string a1_3] 28 (0,0)) (by exact BK162.out) hb)
          replace BK163:=ζa (blk_below (g:=gb163) (o:=.cells #[.string (⟨#[]⟩:ByteArray),.slice none 0 0] 25 (0,0)) (by exact BK163.out) hb)
          replace HK:=ζa (Kept.below (S:=(fun k_=>P0_1_ k_)) (by exact HK.out) hb)
          replace HB:=ζa (δr (by exact HB.out) hb)
          clear hb ho79
          refine hK.out _ _ ⟨(δl BK161.out 0).trans rfl,(δl BK161.out 1).trans rfl,(δl BK162.out 0).trans rfl,(δl BK162.out 1).trans rfl,(δl BK162.out 2).trans rfl,(δl BK162.out 3).trans rfl⟩ (fun hHeld => ?_)
          clear hK K
          refine nm 55 ?_
          exact norm_ (by simp only [putAll,ζl,δa,δb,δc]) (hCont (v179,v182,v185) _ ⟨hHeld,(by exact Kd.R_mono HO0_1.out (fun _ hk=>⟨hk.1.1,⟨hk.1.2,hk.2⟩⟩)),(by exact Kd.R_mono HO183.out (fun _ hk=>⟨hk.1.1,⟨hk.1.2,hk.2⟩⟩)),(by exact Kd.R_mono HO186.out (fun _ hk=>⟨hk.1.1.1,⟨hk.1.2,hk.2⟩⟩)),(by exact BK161.out),(by exact BK162.out),(by exact BK163.out),(by exact HK.out),(by exact HB.out)⟩)
         ·
          skip
          refine Kd.R_lit_step k39 _ 39 ?hg (N:=55) ?hd (xs:=([(⟨a1_1,a1_3⟩:S39)]:List (S39))) (inner:=[.int .i64 a1_1,.string a1_3]) (ok:=fun _=>True) (okp:=fun _=>True) ?hr ?hp (fun _ hk=>hk) trivial (Below.refl _ _) (Nat.le_refl _) (by simp) ?_;(case hd=>rfl);(case hg=>rfl);(case hr=>(go_simp;done));(case hp=>exact (Reps.c2 (show Kd.M k39 _ _ _ (⟨a1_1,a1_3⟩:S39) [.int .i64 a1_1,.string a1_3] from (k39_mkM _ _ _ (⟨a1_1,a1_3⟩:S39) )) (Reps.none _ _)))
          intro v185 w77 ho78 hb hg_ hnew_
          clear hg_ hnew_
          (rw [← Ny184.out] at ho78)
          have HO186:=ζa (Kd.R_lower (Kd.R_new' (Kd.R_new' (Kd.R_newM (M:=fun k_=>(P0_1_ k_ ∨ w.heap.size≤k_)) ho78 (by exact HK.out.1) (fun k_ h_ => .inr h_)) (Kd.R_lt (by exact HO0_1.out))) (Kd.R_lt (by exact HO180.out))) (δs (by exact HB.out)))
          replace HO0_1:=ζa (Kd.R_elder' (by exact HO0_1.out) (Kd.R_base ho78) hb)
          replace HO180:=ζa (Kd.R_elder' (by exact HO180.out) (Kd.R_base ho78) hb)
          replace BK161:=ζa (blk_below (g:=gb161) (o:=.cells #[.string a0_0,.slice Ao64 l0_1.length co64] 25 (0,0)) (by exact BK161.out) hb)
          replace BK162:=ζa (blk_below (g:=gb162) (o:=.cells #[.int .i64 a1_0,.int .i64 a1_1,.string a1_2,.string a1_3] 28 (0,0)) (by exact BK162.out) hb)
          replace BK163:=ζa (blk_below (g:=gb163) (o:=.cells #[.string (⟨#[]⟩:ByteArray),.slice none 0 0] 25 (0,0)) (by exact BK163.out) hb)
          replace HK:=ζa (Kept.below (S:=(fun k_=>P0_1_ k_)) (by exact HK.out) hb)
          replace HB:=ζa (δr (by exact HB.out) hb)
          clear hb ho78
          refine hK.out _ _ ⟨(δl BK161.out 0).trans rfl,(δl BK161.out 1).trans rfl,(δl BK162.out 0).trans rfl,(δl BK162.out 1).trans rfl,(δl BK162.out 2).trans rfl,(δl BK162.out 3).trans rfl⟩ (fun hHeld => ?_)
          clear hK K
          refine nm 55 ?_
          refine on 3 49 (fun K hK => ?_)
          refine Kd.R_append_rows_step k39 (w0:=w0) w0.heap.size (by rfl) (.tmp 46) (.tmp 48) 23 39 (.agg #[(.int .i64 0),(.string ⟨#[]⟩)]) 24 rfl Try.underlying23 info39 rfl (by decide) (by omega) v179 y178 l0_1 _ _ _ (fun k_=>(P0_1_ k_ ∨ w.heap.size≤k_)∧some k_≠(.slice Ao64 l0_1.length co64:Value).ownBlock∧some k_≠(v185:Value).ownBlock) (fun _=>False) rfl rfl ?aO ?aR (fun _ _ h=>h) (fun _ h=>h.elim) ?aF ?aB ?aS ?aL ?_
          (case aR=>repeat (exact (ζg HO0_1.out).2.2))
          (case aB=>exact (by exact HB.out))
          (case aF=>exact (fun k_ hk=>⟨(.inr (Nat.le_trans (by exact HK.out.1) hk)),Kd.fresh' (Kd.R_lt (by exact HO0_1.out)) k_ hk,Kd.fresh' (Kd.R_lt (by exact HO186.out)) k_ hk⟩))
          (case aO=>exact (by exact Kd.R_mono HO180.out (fun _ hk=>⟨hk.1.1.1,⟨hk.1.2,hk.2⟩⟩)))
          (case aS=>exact (δs (by exact HB.out)))
          (case aL=>have:=LMc61.out;omega)
          intro v182 w79 ho hb hg hat
          rw [← Ny181.out] at ho
          have n0_:=ζa (Kd.R_after (ok:=(fun k_=>(P0_1_ k_ ∨ w.heap.size≤k_)∧some k_≠(v185:Value).ownBlock)) (by exact Kd.R_mono HO0_1.out (fun _ hk=>⟨⟨hk.1.1,hk.2⟩,hk.1.2⟩)) hg hat)
          have n1_:=ζa (blk_grown (g:=gb161) (o:=.cells #[.string a0_0,.slice Ao64 l0_1.length co64] 25 (0,0)) (by exact BK161.out) hg (ζf HO180.out BK161.out (by decide)))
          have n2_:=ζa (blk_grown (g:=gb162) (o:=.cells #[.int .i64 a1_0,.int .i64 a1_1,.string a1_2,.string a1_3] 28 (0,0)) (by exact BK162.out) hg (ζf HO180.out BK162.out (by decide)))
          have n3_:=ζa (blk_grown (g:=gb163) (o:=.cells #[.string (⟨#[]⟩:ByteArray),.slice none 0 0] 25 (0,0)) (by exact BK163.out) hg (ζf HO180.out BK163.out (by decide)))
          have n4_:=ζa (Kd.R_after (ok:=(fun k_=>(P0_1_ k_ ∨ w.heap.size≤k_)∧some k_≠(.slice Ao64 l0_1.length co64:Value).ownBlock)) (by exact Kd.R_mono HO186.out (fun _ hk=>⟨⟨hk.1.1.1,hk.1.2⟩,hk.2⟩)) hg hat)
          have n5_:=ζa (hb)
          have n6_:=ζa (Kept.of_grown (S:=(fun k_=>P0_1_ k_)) hg (by exact HK.out) (fun k_ e_=>(HO180.out.1 k_ e_).1.1.1))
          have n7_:=ζa (ho)
          clear HO0_1
          clear BK161
          clear BK162
          clear BK163
          clear HO186
          clear HB
          clear HK
          clear HO180
          have HO0_1:=n0_
          have BK161:=n1_
          have BK162:=n2_
          have BK163:=n3_
          have HO186:=n4_
          have HB:=n5_
          have HK:=n6_
          have HO183:=n7_
          clear n0_ n1_ n2_ n3_ n4_ n5_ n6_ n7_
          clear ho hb hg hat
          refine hK.out _ _ ⟨(δl BK161.out 0).trans rfl,(δl BK161.out 1).trans rfl,(δl BK162.out 0).trans rfl,(δl BK162.out 1).trans rfl,(δl BK162.out 2).trans rfl,(δl BK162.out 3).trans rfl⟩ (fun hHeld => ?_)
          clear hK K
          refine nm 49 ?_
          exact norm_ (by simp only [putAll,ζl,δa,δb,δc]) (hCont (v179,v182,v185) _ ⟨hHeld,(by exact Kd.R_mono HO0_1.out (fun _ hk=>⟨hk.1.1,⟨hk.2,hk.1.2⟩⟩)),(by exact HO183.out),(by exact Kd.R_mono HO186.out (fun _ hk=>⟨hk.1.1,⟨hk.1.2,hk.2⟩⟩)),(by exact BK161.out),(by exact BK162.out),(by exact BK163.out),(by exact HK.out),(by exact HB.out)⟩)
        ·
         skip
         refine Kd.R_lit_step k39 _ 39 ?hg (N:=55) ?hd (xs:=([(⟨a1_1,a1_3⟩:S39)]:List (S39))) (inner:=[.int .i64 a1_1,.string a1_3]) (ok:=fun _=>True) (okp:=fun _=>True) ?hr ?hp (fun _ hk=>hk) trivial (Below.refl _ _) (Nat.le_refl _) (by simp) ?_;(case hd=>rfl);(case hg=>rfl);(case hr=>(go_simp;done));(case hp=>exact (Reps.c2 (show Kd.M k39 _ _ _ (⟨a1_1,a1_3⟩:S39) [.int .i64 a1_1,.string a1_3] from (k39_mkM _ _ _ (⟨a1_1,a1_3⟩:S39) )) (Reps.none _ _)))
         intro v185 w75 ho76 hb hg_ hnew_
         clear hg_ hnew_
         (rw [← Ny184.out] at ho76)
         have HO186:=ζa (Kd.R_lower (Kd.R_new' (Kd.R_newM (M:=fun k_=>(P0_1_ k_ ∨ w.heap.size≤k_)) ho76 (by exact HK.out.1) (fun k_ h_ => .inr h_)) (Kd.R_lt (by exact HO0_1.out))) (δs (by exact HB.out)))
         replace HO0_1:=ζa (Kd.R_elder' (by exact HO0_1.out) (Kd.R_base ho76) hb)
         replace BK161:=ζa (blk_below (g:=gb161) (o:=.cells #[.string a0_0,.slice Ao64 l0_1.length co64] 25 (0,0)) (by exact BK161.out) hb)
         replace BK162:=ζa (blk_below (g:=gb162) (o:=.cells #[.int .i64 a1_0,.int .i64 a1_1,.string a1_2,.string a1_3] 28 (0,0)) (by exact BK162.out) hb)
         replace BK163:=ζa (blk_below (g:=gb163) (o:=.cells #[.string (⟨#[]⟩:ByteArray),.slice none 0 0] 25 (0,0)) (by exact BK163.out) hb)
         replace HK:=ζa (Kept.below (S:=(fun k_=>P0_1_ k_)) (by exact HK.out) hb)
         replace HB:=ζa (δr (by exact HB.out) hb)
         clear hb ho76
         refine hK.out _ _ ⟨(δl BK161.out 0).trans rfl,(δl BK161.out 1).trans rfl,(δl BK162.out 0).trans rfl,(δl BK162.out 1).trans rfl,(δl BK162.out 2).trans rfl,(δl BK162.out 3).trans rfl⟩ (fun hHeld => ?_)
         clear hK K
         refine nm 55 ?_
         refine on 0 46 (fun K hK => ?_)
         refine Kd.R_lit_step k39 _ 39 ?hg (N:=46) ?hd (xs:=([]:List (S39))) (inner:=[]) (ok:=fun _=>True) (okp:=fun _=>True) ?hr ?hp (fun _ hk=>hk) trivial (Below.refl _ _) (Nat.le_refl _) (by simp) ?_;(case hd=>rfl);(case hg=>rfl);(case hr=>(go_simp;done));(case hp=>exact (Reps.none _ _))
         intro v179 w77 ho78 hb hg_ hnew_
         clear hg_ hnew_
         (rw [← Ny178.out] at ho78)
         have HO180:=ζa (Kd.R_lower (Kd.R_new' (Kd.R_new' (Kd.R_newM (M:=fun k_=>(P0_1_ k_ ∨ w.heap.size≤k_)) ho78 (by exact HK.out.1) (fun k_ h_ => .inr h_)) (Kd.R_lt (by exact HO0_1.out))) (Kd.R_lt (by exact HO186.out))) (δs (by exact HB.out)))
         replace HO0_1:=ζa (Kd.R_elder' (by exact HO0_1.out) (Kd.R_base ho78) hb)
         replace HO186:=ζa (Kd.R_elder' (by exact HO186.out) (Kd.R_base ho78) hb)
         replace BK161:=ζa (blk_below (g:=gb161) (o:=.cells #[.string a0_0,.slice Ao64 l0_1.length co64] 25 (0,0)) (by exact BK161.out) hb)
         replace BK162:=ζa (blk_below (g:=gb162) (o:=.cells #[.int .i64 a1_0,.int .i64 a1_1,.string a1_2,.string a1_3] 28 (0,0)) (by exact BK162.out) hb)
         replace BK163:=ζa (blk_below (g:=gb163) (o:=.cells #[.string (⟨#[]⟩:ByteArray),.slice none 0 0] 25 (0,0)) (by exact BK163.out) hb)
         replace HK:=ζa (Kept.below (S:=(fun k_=>P0_1_ k_)) (by exact HK.out) hb)
         replace HB:=ζa (δr (by exact HB.out) hb)
         clear hb ho78
         refine hK.out _ _ ⟨(δl BK161.out 0).trans rfl,(δl BK161.out 1).trans rfl,(δl BK162.out 0).trans rfl,(δl BK162.out 1).trans rfl,(δl BK162.out 2).trans rfl,(δl BK162.out 3).trans rfl⟩ (fun hHeld => ?_)
         clear hK K
         refine nm 46 ?_
         refine on 3 49 (fun K hK => ?_)
         refine Kd.R_append_rows_step k39 (w0:=w0) w0.heap.size (by rfl) (.tmp 46) (.tmp 48) 23 39 (.agg #[(.int .i64 0),(.string ⟨#[]⟩)]) 24 rfl Try.underlying23 info39 rfl (by decide) (by omega) v179 y178 l0_1 _ _ _ (fun k_=>(P0_1_ k_ ∨ w.heap.size≤k_)∧some k_≠(.slice Ao64 l0_1.length co64:Value).ownBlock∧some k_≠(v185:Value).ownBlock) (fun _=>False) rfl rfl ?aO ?aR (fun _ _ h=>h) (fun _ h=>h.elim) ?aF ?aB ?aS ?aL ?_
         (case aR=>repeat (exact (ζg HO0_1.out).2.2))
         (case aB=>exact (by exact HB.out))
         (case aF=>exact (fun k_ hk=>⟨(.inr (Nat.le_trans (by exact HK.out.1) hk)),Kd.fresh' (Kd.R_lt (by exact HO0_1.out)) k_ hk,Kd.fresh' (Kd.R_lt (by exact HO186.out)) k_ hk⟩))
         (case aO=>exact (by exact Kd.R_mono HO180.out (fun _ hk=>⟨hk.1.1.1,⟨hk.1.2,hk.2⟩⟩)))
         (case aS=>exact (δs (by exact HB.out)))
         (case aL=>have:=LMc61.out;omega)
         intro v182 w79 ho hb hg hat
         rw [← Ny181.out] at ho
         have n0_:=ζa (Kd.R_after (ok:=(fun k_=>(P0_1_ k_ ∨ w.heap.size≤k_)∧some k_≠(v185:Value).ownBlock)) (by exact HO0_1.out) hg hat)
         have n1_:=ζa (blk_grown (g:=gb161) (o:=.cells #[.string a0_0,.slice Ao64 l0_1.length co64] 25 (0,0)) (by exact BK161.out) hg (ζf HO180.out BK161.out (by decide)))
         have n2_:=ζa (blk_grown (g:=gb162) (o:=.cells #[.int .i64 a1_0,.int .i64 a1_1,.string a1_2,.string a1_3] 28 (0,0)) (by exact BK162.out) hg (ζf HO180.out BK162.out (by decide)))
         have n3_:=ζa (blk_grown (g:=gb163) (o:=.cells #[.string (⟨#[]⟩:ByteArray),.slice none 0 0] 25 (0,0)) (by exact BK163.out) hg (ζf HO180.out BK163.out (by decide)))
         have n4_:=ζa (Kd.R_after (ok:=(fun k_=>(P0_1_ k_ ∨ w.heap.size≤k_)∧some k_≠(.slice Ao64 l0_1.length co64:Value).ownBlock)) (by exact Kd.R_mono HO186.out (fun _ hk=>⟨⟨hk.1.1.1,hk.1.2⟩,hk.2⟩)) hg hat)
         have n5_:=ζa (hb)
         have n6_:=ζa (Kept.of_grown (S:=(fun k_=>P0_1_ k_)) hg (by exact HK.out) (fun k_ e_=>(HO180.out.1 k_ e_).1.1.1))
         have n7_:=ζa (ho)
         clear HO0_1
         clear BK161
         clear BK162
         clear BK163
         clear HO186
         clear HB
         clear HK
         clear HO180
         have HO0_1:=n0_
         have BK161:=n1_
         have BK162:=n2_
         have BK163:=n3_
         have HO186:=n4_
         have HB:=n5_
         have HK:=n6_
         have HO183:=n7_
         clear n0_ n1_ n2_ n3_ n4_ n5_ n6_ n7_
         clear ho hb hg hat
         refine hK.out _ _ ⟨(δl BK161.out 0).trans rfl,(δl BK161.out 1).trans rfl,(δl BK162.out 0).trans rfl,(δl BK162.out 1).trans rfl,(δl BK162.out 2).trans rfl,(δl BK162.out 3).trans rfl⟩ (fun hHeld => ?_)
         clear hK K
         refine nm 49 ?_
         exact norm_ (by simp only [putAll,ζl,δa,δb,δc]) (hCont (v179,v182,v185) _ ⟨hHeld,(by exact Kd.R_mono HO0_1.out (fun _ hk=>⟨hk.1.1,⟨hk.2,hk.1.2⟩⟩)),(by exact HO183.out),(by exact Kd.R_mono HO186.out (fun _ hk=>⟨hk.1.1,⟨hk.1.2,hk.2⟩⟩)),(by exact BK161.out),(by exact BK162.out),(by exact BK163.out),(by exact HK.out),(by exact HB.out)⟩)
       rintro ⟨v179,v182,v185⟩ w80 ⟨hS_,h0_,h1_,h2_,h3_,h4_,h5_,h6_,h7_⟩
       have n0_:Aside0 (Kd.R k39 39 w80 w0.heap.size (fun k_=>(P0_1_ k_ ∨ w.heap.size≤k_)∧some k_≠(v182:Value).ownBlock∧some k_≠(v185:Value).ownBlock) (.slice Ao64 l0_1.length co64) l0_1):=⟨h0_⟩
       have n1_:Aside0 (Kd.R k39 39 w80 w0.heap.size (fun k_=>(P0_1_ k_ ∨ w.heap.size≤k_)∧some k_≠(.slice Ao64 l0_1.length co64:Value).ownBlock∧some k_≠(v185:Value).ownBlock) v182 y181):=⟨h1_⟩
       have n2_:Aside0 (Kd.R k39 39 w80 w0.heap.size (fun k_=>(P0_1_ k_ ∨ w.heap.size≤k_)∧some k_≠(.slice Ao64 l0_1.length co64:Value).ownBlock∧some k_≠(v182:Value).ownBlock) v185 y184):=⟨h2_⟩
       have n3_:Aside0 (w80.heap[gb161]? = some (.cells #[.string a0_0,.slice Ao64 l0_1.length co64] 25 (0,0))):=⟨h3_⟩
       have n4_:Aside0 (w80.heap[gb162]? = some (.cells #[.int .i64 a1_0,.int .i64 a1_1,.string a1_2,.string a1_3] 28 (0,0))):=⟨h4_⟩
       have n5_:Aside0 (w80.heap[gb163]? = some (.cells #[.string (⟨#[]⟩:ByteArray),.slice none 0 0] 25 (0,0))):=⟨h5_⟩
       have n6_:Aside0 (Kept w w80 (fun k_=>P0_1_ k_)):=⟨h6_⟩
       have n7_:Aside0 (Below w0.heap.size w0 w80):=⟨h7_⟩
       clear HO0_1
       clear BK161
       clear BK162
       clear BK163
       clear HK
       clear HB
       clear h0_ h1_ h2_ h3_ h4_ h5_ h6_ h7_
       have HO0_1:=n0_
       have HO183:=n1_
       have HO186:=n2_
       have BK161:=n3_
       have BK162:=n4_
       have BK163:=n5_
       have HK:=n6_
       have HB:=n7_
       clear n0_ n1_ n2_ n3_ n4_ n5_ n6_ n7_
       have hHeld:w80.cell? ⟨gb161,0,none⟩=some (.string a0_0)∧w80.cell? ⟨gb161,1,none⟩=some (.slice Ao64 l0_1.length co64)∧w80.cell? ⟨gb162,0,none⟩=some (.int .i64 a1_0)∧w80.cell? ⟨gb162,1,none⟩=some (.int .i64 a1_1)∧w80.cell? ⟨gb162,2,none⟩=some (.string a1_2)∧w80.cell? ⟨gb162,3,none⟩=some (.string a1_3):=hS_
       obtain ⟨Ao82,co82,eo82⟩:=Kd.R_slice HO186.out
       (subst eo82)
       refine norm_ (a':=?_) ?_ ?_
       rotate_left
       · simp only [putAll,ζl,δa,δb,δc];rfl
       refine on 10 56 (fun K hK => ?_)
       refine Kd.R_append_rows_step k39 (w0:=w0) w0.heap.size (by rfl) (.tmp 49) (.tmp 55) 23 39 (.agg #[(.int .i64 0),(.string ⟨#[]⟩)]) 24 rfl Try.underlying23 info39 rfl (by decide) (by omega) v182 y181 y184 _ _ _ (fun k_=>(P0_1_ k_ ∨ w.heap.size≤k_)∧some k_≠(.slice Ao64 l0_1.length co64:Value).ownBlock∧some k_≠(.slice Ao82 y184.length co82:Value).ownBlock) (fun _=>False) rfl rfl ?aO ?aR (fun _ _ h=>h) (fun _ h=>h.elim) ?aF ?aB ?aS ?aL ?_
       (case aR=>repeat (exact (ζg HO186.out).2.2))
       (case aB=>exact (by exact HB.out))
       (case aF=>exact (fun k_ hk=>⟨(.inr (Nat.le_trans (by exact HK.out.1) hk)),Kd.fresh' (Kd.R_lt (by exact HO0_1.out)) k_ hk,Kd.fresh' (Kd.R_lt (by exact HO186.out)) k_ hk⟩))
       (case aO=>exact (by exact HO183.out))
       (case aS=>exact (δs (by exact HB.out)))
       (case aL=>have:=LMc62.out;omega)
       intro v188 w81 ho hb hg hat
       rw [← Ny187.out] at ho
       have n0_:=ζa (Kd.R_after (ok:=(fun k_=>(P0_1_ k_ ∨ w.heap.size≤k_)∧some k_≠(.slice Ao82 y184.length co82:Value).ownBlock)) (by exact Kd.R_mono HO0_1.out (fun _ hk=>⟨⟨hk.1,hk.2.2⟩,hk.2.1⟩)) hg hat)
       have n1_:=ζa (blk_grown (g:=gb161) (o:=.cells #[.string a0_0,.slice Ao64 l0_1.length co64] 25 (0,0)) (by exact BK161.out) hg (ζf HO183.out BK161.out (by decide)))
       have n2_:=ζa (blk_grown (g:=gb162) (o:=.cells #[.int .i64 a1_0,.int .i64 a1_1,.string a1_2,.string a1_3] 28 (0,0)) (by exact BK162.out) hg (ζf HO183.out BK162.out (by decide)))
       have n3_:=ζa (blk_grown (g:=gb163) (o:=.cells #[.string (⟨#[]⟩:ByteArray),.slice none 0 0] 25 (0,0)) (by exact BK163.out) hg (ζf HO183.out BK163.out (by decide)))
       have n4_:=ζa (Kd.R_after (ok:=(fun k_=>(P0_1_ k_ ∨ w.heap.size≤k_)∧some k_≠(.slice Ao64 l0_1.length co64:Value).ownBlock)) (by exact Kd.R_mono HO186.out (fun _ hk=>⟨⟨hk.1,hk.2.1⟩,hk.2.2⟩)) hg hat)
       have n5_:=ζa (hb)
       have n6_:=ζa (Kept.of_grown (S:=(fun k_=>P0_1_ k_)) hg (by exact HK.out) (fun k_ e_=>(HO183.out.1 k_ e_).1))
       have n7_:=ζa (ho)
       clear HO0_1
       clear BK161
       clear BK162
       clear BK163
       clear HO186
       clear HB
       clear HK
       clear HO183
       have HO0_1:=n0_
       have BK161:=n1_
       have BK162:=n2_
       have BK163:=n3_
       have HO186:=n4_
       have HB:=n5_
       have HK:=n6_
       have HO189:=n7_
       clear n0_ n1_ n2_ n3_ n4_ n5_ n6_ n7_
       clear ho hb hg hat
       obtain ⟨Ao83,co83,eo83⟩:=Kd.R_slice HO189.out
       (subst eo83)
       refine hK.out _ _ ⟨(δl BK161.out 0).trans rfl,(δl BK161.out 1).trans rfl,(δl BK162.out 0).trans rfl,(δl BK162.out 1).trans rfl,(δl BK162.out 2).trans rfl,(δl BK162.out 3).trans rfl⟩ (fun hHeld => ?_)
       clear hK K
       refine nm 56 ?_
       refine pu 11 57 ?_
       refine last_ (i:=12) (N:=none) #[τ,τ,τ,τ,τ,τ,τ,τ,τ,τ,τ,τ,τ] rfl rfl (one_of HT_.out (by kernel_rfl)) (by decide) (fun K hK => ?_)
       have hs84:w81.cell? ⟨gb161,1,none⟩=some (.slice Ao64 l0_1.length co64):=(δl BK161.out 1).trans rfl
       have hfs84:=δm BK161.out 1
       have hns84_1:=NB162_161.out
       have hns84_2:=NB163_161.out
       have hms84_1:=NB161_162.out
       have hms84_2:=NB161_163.out
       refine skip_ (w1:=?_) (by rfl) rfl ?_ ?_
       rotate_left
       ·
        go_simp
        rfl
       refine hK.out _ _ ?_
       clear hK K
       refine done_ (done_of HT_.out (by kernel_rfl)) ?_
       have hcz85_0:w81.cell? ⟨gb162,0,none⟩=some (.int .i64 a1_0):=(δl BK162.out 0).trans rfl
       have hcz85_1:w81.cell? ⟨gb162,1,none⟩=some (.int .i64 a1_1):=(δl BK162.out 1).trans rfl
       have hcz85_2:w81.cell? ⟨gb162,2,none⟩=some (.string a1_2):=(δl BK162.out 2).trans rfl
       have hcz85_3:w81.cell? ⟨gb162,3,none⟩=some (.string a1_3):=(δl BK162.out 3).trans rfl
       have hfz85_0:=δm BK162.out 0
       have hfz85_1:=δm BK162.out 1
       have hfz85_2:=δm BK162.out 2
       have hfz85_3:=δm BK162.out 3
       try go_wp2_with (((with_reducible refine δv (f:=36) rfl ?_);refine gl 59 Try.func36 #[.agg #[.int .i64 a1_0,.int .i64 a1_1,.string a1_2,.string a1_3]] ?_;(with_reducible refine (spec_l06Hash.calls a1_0 a1_1 a1_2 a1_3 t190 _ A63.out).mono ?_);rintro e w86 ⟨rfl,hb⟩;refine ⟨_,rfl,?_⟩;replace HO0_1:=ζa (ζh (by exact (Kd.R_mono (ζi (p:=⟨gb161,1,none⟩) (Kd.R_types HO0_1.out BK161.out (by decide)) (fun _ hk=>hk.2) (.slice Ao83 y187.length co83)) (fun _ h_=>h_.1))) hb);replace HO186:=ζa (ζh (by exact (Kd.R_mono (ζi (p:=⟨gb161,1,none⟩) (Kd.R_types HO186.out BK161.out (by decide)) (fun _ hk=>hk.2) (.slice Ao83 y187.length co83)) (fun _ h_=>h_.1))) hb);replace HO189:=ζa (ζh (by exact (Kd.R_mono (ζi (p:=⟨gb161,1,none⟩) (Kd.R_types HO189.out BK161.out (by decide)) (fun _ hk=>hk.2) (.slice Ao83 y187.length co83)) (fun _ h_=>h_.1))) hb);replace BK161:=ζa (blk_below (g:=gb161) (o:=.cells #[.string a0_0,.slice Ao83 y187.length co83] 25 (0,0)) (by refine δw (cs:=#[.string a0_0,.slice Ao64 l0_1.length co64]) ?_ 1 _ rfl;exact BK161.out) hb);replace BK162:=ζa (blk_below (g:=gb162) (o:=.cells #[.int .i64 a1_0,.int .i64 a1_1,.string a1_2,.string a1_3] 28 (0,0)) (by refine blk_far ?_ NB162_161.out _;exact BK162.out) hb);replace BK163:=ζa (blk_below (g:=gb163) (o:=.cells #[.string (⟨#[]⟩:ByteArray),.slice none 0 0] 25 (0,0)) (by refine blk_far ?_ NB163_161.out _;exact BK163.out) hb);replace HK:=ζa (Kept.below (S:=(fun k_=>P0_1_ k_)) (by repeat ((with_reducible first|exact HK.out|refine Kept.setCell ?_ (.inr GW161.out) _))) hb);replace HB:=ζa (δr (by repeat ((with_reducible first|exact HB.out|refine δq ?_ GE161.out))) hb);(try clear hb);(try clear hb2);(try clear hk);(try clear hi);have hcz87_0:w86.cell? ⟨gb161,0,none⟩=some (.string a0_0):=(δl BK161.out 0).trans rfl;have hcz87_1:w86.cell? ⟨gb161,1,none⟩=some (.slice Ao83 y187.length co83):=(δl BK161.out 1).trans rfl;have hfz87_0:=δm BK161.out 0;have hfz87_1:=δm BK161.out 1;have hcz88_0:w86.cell? ⟨gb163,0,none⟩=some (.string (⟨#[]⟩:ByteArray)):=(δl BK163.out 0).trans rfl;have hcz88_1:w86.cell? ⟨gb163,1,none⟩=some (.slice none 0 0):=(δl BK163.out 1).trans rfl;have hfz88_0:=δm BK163.out 0;have hfz88_1:=δm BK163.out 1))
       refine bodyPost_ret (results_ct rfl _ _ gb163 25 #[.string t190,.slice Ao83 y187.length co83] (0,0) _ rfl (by refine δw (cs:=#[.string t190,.slice none 0 0]) ?_ 1 _ rfl;refine δw (cs:=#[.string (⟨#[]⟩:ByteArray),.slice none 0 0]) ?_ 0 _ rfl;refine blk_far ?_ NB163_161.out _;exact BK163.out) Try.underlying25 rfl (by kernel_rfl)) rfl ?_
       exact ⟨_,by rfl,by exact Kd.R_mono (ζi (p:=⟨gb163,1,none⟩) (ζi (p:=⟨gb163,0,none⟩) (ζi (p:=⟨gb161,0,none⟩) (Kd.R_types (Kd.R_types HO189.out BK161.out (by decide)) BK163.out (by decide)) (fun _ hk=>hk.1.2) (.string t190)) (fun _ hk=>hk.2) (.string t190)) (fun _ hk=>hk.2) (.slice Ao83 y187.length co83)) (fun _ hk=>hk.1.1.1),by repeat ((with_reducible first|exact HB.out|refine δq ?_ GE161.out|refine δq ?_ GE163.out)),by repeat ((with_reducible first|exact HK.out|refine Kept.setCell ?_ (.inr GW161.out) _|refine Kept.setCell ?_ (.inr GW163.out) _))⟩
      ·
       rw [if_neg c62] at H
       exact absurd H (by simp)
     ·
      rw [if_neg c61] at H
      exact absurd H (by simp)
   ·
    rw [if_neg c15] at H
    have c15b0:=beq_eq_false_iff_ne.mpr c15
    have c15b1:=bne_iff_ne.mpr c15
    simp only [Option.some.injEq,Prod.mk.injEq] at H
    obtain ⟨rfl,rfl,rfl⟩:=H
    obtain ⟨Ao89,co89,eo89⟩:=Kd.R_slice HO0_1.out
    subst eo89
    go_enter Try.func45,Try.ntmps45
    go_wp2_with (first|((with_reducible refine δx (N:=2) rfl ?_);refine bev 2 #[.string a0_0,.slice Ao89 l0_1.length co89] 25 ?_;intro gb161 hg w90 hbox hb;replace HO0_1:=ζa (ζh (by exact HO0_1.out) hb);have BK161:=ζa (hbox);have GW161:=ζa ((by rw [hg];exact (by exact HK.out.1):w.heap.size≤gb161));replace HK:=ζa (Kept.below (S:=(fun k_=>P0_1_ k_)) (by exact HK.out) hb);have GE161:=ζa ((by rw [hg];exact (δs (by exact HB.out)):w0.heap.size≤gb161));replace HB:=ζa (δr (by exact HB.out) hb);clear hb hbox hg)|((with_reducible refine δx (N:=3) rfl ?_);refine bev 3 #[.int .i64 a1_0,.int .i64 a1_1,.string a1_2,.string a1_3] 28 ?_;intro gb162 hg w91 hbox hb;replace HO0_1:=ζa (ζh (by exact HO0_1.out) hb);have BK162:=ζa (hbox);have GW162:=ζa ((by rw [hg];exact (by exact HK.out.1):w.heap.size≤gb162));replace HK:=ζa (Kept.below (S:=(fun k_=>P0_1_ k_)) (by exact HK.out) hb);have GE162:=ζa ((by rw [hg];exact (δs (by exact HB.out)):w0.heap.size≤gb162));replace HB:=ζa (δr (by exact HB.out) hb);have NB161_162:=ζa ((by rw [hg];exact Nat.ne_of_lt (blk_lt (g:=gb161) (o:=.cells #[.string a0_0,.slice Ao89 l0_1.length co89] 25 (0,0)) (by exact BK161.out)):gb161≠gb162));have NB162_161:=ζa ((by rw [hg];exact Nat.ne_of_gt (blk_lt (g:=gb161) (o:=.cells #[.string a0_0,.slice Ao89 l0_1.length co89] 25 (0,0)) (by exact BK161.out)):gb162≠gb161));replace BK161:=ζa (blk_below (g:=gb161) (o:=.cells #[.string a0_0,.slice Ao89 l0_1.length co89] 25 (0,0)) (by exact BK161.out) hb);clear hb hbox hg)|((with_reducible refine δx (N:=4) rfl ?_);refine bev 4 #[.string (⟨#[]⟩:ByteArray),.slice none 0 0] 25 ?_;intro gb163 hg w92 hbox hb;replace HO0_1:=ζa (ζh (by exact HO0_1.out) hb);have BK163:=ζa (hbox);have GW163:=ζa ((by rw [hg];exact (by exact HK.out.1):w.heap.size≤gb163));replace HK:=ζa (Kept.below (S:=(fun k_=>P0_1_ k_)) (by exact HK.out) hb);have GE163:=ζa ((by rw [hg];exact (δs (by exact HB.out)):w0.heap.size≤gb163));replace HB:=ζa (δr (by exact HB.out) hb);have NB161_163:=ζa ((by rw [hg];exact Nat.ne_of_lt (blk_lt (g:=gb161) (o:=.cells #[.string a0_0,.slice Ao89 l0_1.length co89] 25 (0,0)) (by exact BK161.out)):gb161≠gb163));have NB163_161:=ζa ((by rw [hg];exact Nat.ne_of_gt (blk_lt (g:=gb161) (o:=.cells #[.string a0_0,.slice Ao89 l0_1.length co89] 25 (0,0)) (by exact BK161.out)):gb163≠gb161));replace BK161:=ζa (blk_below (g:=gb161) (o:=.cells #[.string a0_0,.slice Ao89 l0_1.length co89] 25 (0,0)) (by exact BK161.out) hb);have NB162_163:=ζa ((by rw [hg];exact Nat.ne_of_lt (blk_lt (g:=gb162) (o:=.cells #[.int .i64 a1_0,.int .i64 a1_1,.string a1_2,.string a1_3] 28 (0,0)) (by exact BK162.out)):gb162≠gb163));have NB163_162:=ζa ((by rw [hg];exact Nat.ne_of_gt (blk_lt (g:=gb162) (o:=.cells #[.int .i64 a1_0,.int .i64 a1_1,.string a1_2,.string a1_3] 28 (0,0)) (by exact BK162.out)):gb163≠gb162));replace BK162:=ζa (blk_below (g:=gb162) (o:=.cells #[.int .i64 a1_0,.int .i64 a1_1,.string a1_2,.string a1_3] 28 (0,0)) (by exact BK162.out) hb);clear hb hbox hg;have hnb93:=NB161_162.out;have hnc93:=NB162_161.out;have hnb94:=NB161_163.out;have hnc94:=NB163_161.out;have hcz95_0:w92.cell? ⟨gb161,0,none⟩=some (.string a0_0):=(δl BK161.out 0).trans rfl;have hcz95_1:w92.cell? ⟨gb161,1,none⟩=some (.slice Ao89 l0_1.length co89):=(δl BK161.out 1).trans rfl;have hfz95_0:=δm BK161.out 0;have hfz95_1:=δm BK161.out 1;have hnb96:=NB162_163.out;have hnc96:=NB163_162.out;have hcz97_0:w92.cell? ⟨gb162,0,none⟩=some (.int .i64 a1_0):=(δl BK162.out 0).trans rfl;have hcz97_1:w92.cell? ⟨gb162,1,none⟩=some (.int .i64 a1_1):=(δl BK162.out 1).trans rfl;have hcz97_2:w92.cell? ⟨gb162,2,none⟩=some (.string a1_2):=(δl BK162.out 2).trans rfl;have hcz97_3:w92.cell? ⟨gb162,3,none⟩=some (.string a1_3):=(δl BK162.out 3).trans rfl;have hfz97_0:=δm BK162.out 0;have hfz97_1:=δm BK162.out 1;have hfz97_2:=δm BK162.out 2;have hfz97_3:=δm BK162.out 3;have hcz98_0:w92.cell? ⟨gb163,0,none⟩=some (.string (⟨#[]⟩:ByteArray)):=(δl BK163.out 0).trans rfl;have hcz98_1:w92.cell? ⟨gb163,1,none⟩=some (.slice none 0 0):=(δl BK163.out 1).trans rfl;have hfz98_0:=δm BK163.out 0;have hfz98_1:=δm BK163.out 1))
    refine bodyPost_ret (results_ct rfl _ _ gb163 25 #[.string a0_0,.slice Ao89 l0_1.length co89] (0,0) _ rfl (by refine δw (cs:=#[.string a0_0,.slice none 0 0]) ?_ 1 _ rfl;refine δw (cs:=#[.string (⟨#[]⟩:ByteArray),.slice none 0 0]) ?_ 0 _ rfl;exact BK163.out) Try.underlying25 rfl (by kernel_rfl)) rfl ?_
    exact ⟨_,by rfl,by exact Kd.R_mono (ζi (p:=⟨gb163,1,none⟩) (ζi (p:=⟨gb163,0,none⟩) (Kd.R_types HO0_1.out BK163.out (by decide)) (fun _ hk=>hk.2) (.string a0_0)) (fun _ hk=>hk.2) (.slice Ao89 l0_1.length co89)) (fun _ hk=>hk.1),by repeat ((with_reducible first|exact HB.out|refine δq ?_ GE163.out)),by repeat ((with_reducible first|exact HK.out|refine Kept.setCell ?_ (.inr GW163.out) _))⟩
  ·
   rw [if_neg c14] at H
   have c14b0:=beq_eq_false_iff_ne.mpr c14
   have c14b1:=bne_iff_ne.mpr c14
   simp only [Option.some.injEq,Prod.mk.injEq] at H
   obtain ⟨rfl,rfl,rfl⟩:=H
   obtain ⟨Ao99,co99,eo99⟩:=Kd.R_slice HO0_1.out
   subst eo99
   go_enter Try.func45,Try.ntmps45
   go_wp2_with (first|((with_reducible refine δx (N:=2) rfl ?_);refine bev 2 #[.string a0_0,.slice Ao99 l0_1.length co99] 25 ?_;intro gb161 hg w100 hbox hb;replace HO0_1:=ζa (ζh (by exact HO0_1.out) hb);have BK161:=ζa (hbox);have GW161:=ζa ((by rw [hg];exact (by exact HK.out.1):w.heap.size≤gb161));replace HK:=ζa (Kept.below (S:=(fun k_=>P0_1_ k_)) (by exact HK.out) hb);have GE161:=ζa ((by rw [hg];exact (δs (by exact HB.out)):w0.heap.size≤gb161));replace HB:=ζa (δr (by exact HB.out) hb);clear hb hbox hg)|((with_reducible refine δx (N:=3) rfl ?_);refine bev 3 #[.int .i64 a1_0,.int .i64 a1_1,.string a1_2,.string a1_3] 28 ?_;intro gb162 hg w101 hbox hb;replace HO0_1:=ζa (ζh (by exact HO0_1.out) hb);have BK162:=ζa (hbox);have GW162:=ζa ((by rw [hg];exact (by exact HK.out.1):w.heap.size≤gb162));replace HK:=ζa (Kept.below (S:=(fun k_=>P0_1_ k_)) (by exact HK.out) hb);have GE162:=ζa ((by rw [hg];exact (δs (by exact HB.out)):w0.heap.size≤gb162));replace HB:=ζa (δr (by exact HB.out) hb);have NB161_162:=ζa ((by rw [hg];exact Nat.ne_of_lt (blk_lt (g:=gb161) (o:=.cells #[.string a0_0,.slice Ao99 l0_1.length co99] 25 (0,0)) (by exact BK161.out)):gb161≠gb162));have NB162_161:=ζa ((by rw [hg];exact Nat.ne_of_gt (blk_lt (g:=gb161) (o:=.cells #[.string a0_0,.slice Ao99 l0_1.length co99] 25 (0,0)) (by exact BK161.out)):gb162≠gb161));replace BK161:=ζa (blk_below (g:=gb161) (o:=.cells #[.string a0_0,.slice Ao99 l0_1.length co99] 25 (0,0)) (by exact BK161.out) hb);clear hb hbox hg)|((with_reducible refine δx (N:=4) rfl ?_);refine bev 4 #[.string (⟨#[]⟩:ByteArray),.slice none 0 0] 25 ?_;intro gb163 hg w102 hbox hb;replace HO0_1:=ζa (ζh (by exact HO0_1.out) hb);have BK163:=ζa (hbox);have GW163:=ζa ((by rw [hg];exact (by exact HK.out.1):w.heap.size≤gb163));replace HK:=ζa (Kept.below (S:=(fun k_=>P0_1_ k_)) (by exact HK.out) hb);have GE163:=ζa ((by rw [hg];exact (δs (by exact HB.out)):w0.heap.size≤gb163));replace HB:=ζa (δr (by exact HB.out) hb);have NB161_163:=ζa ((by rw [hg];exact Nat.ne_of_lt (blk_lt (g:=gb161) (o:=.cells #[.string a0_0,.slice Ao99 l0_1.length co99] 25 (0,0)) (by exact BK161.out)):gb161≠gb163));have NB163_161:=ζa ((by rw [hg];exact Nat.ne_of_gt (blk_lt (g:=gb161) (o:=.cells #[.string a0_0,.slice Ao99 l0_1.length co99] 25 (0,0)) (by exact BK161.out)):gb163≠gb161));replace BK161:=ζa (blk_below (g:=gb161) (o:=.cells #[.string a0_0,.slice Ao99 l0_1.length co99] 25 (0,0)) (by exact BK161.out) hb);have NB162_163:=ζa ((by rw [hg];exact Nat.ne_of_lt (blk_lt (g:=gb162) (o:=.cells #[.int .i64 a1_0,.int .i64 a1_1,.string a1_2,.string a1_3] 28 (0,0)) (by exact BK162.out)):gb162≠gb163));have NB163_162:=ζa ((by rw [hg];exact Nat.ne_of_gt (blk_lt (g:=gb162) (o:=.cells #[.int .i64 a1_0,.int .i64 a1_1,.string a1_2,.string a1_3] 28 (0,0)) (by exact BK162.out)):gb163≠gb162));replace BK162:=ζa (blk_below (g:=gb162) (o:=.cells #[.int .i64 a1_0,.int .i64 a1_1,.string a1_2,.string a1_3] 28 (0,0)) (by exact BK162.out) hb);clear hb hbox hg;have hnb103:=NB161_162.out;have hnc103:=NB162_161.out;have hnb104:=NB161_163.out;have hnc104:=NB163_161.out;have hcz105_0:w102.cell? ⟨gb161,0,none⟩=some (.string a0_0):=(δl BK161.out 0).trans rfl;have hcz105_1:w102.cell? ⟨gb161,1,none⟩=some (.slice Ao99 l0_1.length co99):=(δl BK161.out 1).trans rfl;have hfz105_0:=δm BK161.out 0;have hfz105_1:=δm BK161.out 1;have hnb106:=NB162_163.out;have hnc106:=NB163_162.out;have hcz107_0:w102.cell? ⟨gb162,0,none⟩=some (.int .i64 a1_0):=(δl BK162.out 0).trans rfl;have hcz107_1:w102.cell? ⟨gb162,1,none⟩=some (.int .i64 a1_1):=(δl BK162.out 1).trans rfl;have hcz107_2:w102.cell? ⟨gb162,2,none⟩=some (.string a1_2):=(δl BK162.out 2).trans rfl;have hcz107_3:w102.cell? ⟨gb162,3,none⟩=some (.string a1_3):=(δl BK162.out 3).trans rfl;have hfz107_0:=δm BK162.out 0;have hfz107_1:=δm BK162.out 1;have hfz107_2:=δm BK162.out 2;have hfz107_3:=δm BK162.out 3;have hcz108_0:w102.cell? ⟨gb163,0,none⟩=some (.string (⟨#[]⟩:ByteArray)):=(δl BK163.out 0).trans rfl;have hcz108_1:w102.cell? ⟨gb163,1,none⟩=some (.slice none 0 0):=(δl BK163.out 1).trans rfl;have hfz108_0:=δm BK163.out 0;have hfz108_1:=δm BK163.out 1))
   refine bodyPost_ret (results_ct rfl _ _ gb163 25 #[.string a0_0,.slice Ao99 l0_1.length co99] (0,0) _ rfl (by refine δw (cs:=#[.string a0_0,.slice none 0 0]) ?_ 1 _ rfl;refine δw (cs:=#[.string (⟨#[]⟩:ByteArray),.slice none 0 0]) ?_ 0 _ rfl;exact BK163.out) Try.underlying25 rfl (by kernel_rfl)) rfl ?_
   exact ⟨_,by rfl,by exact Kd.R_mono (ζi (p:=⟨gb163,1,none⟩) (ζi (p:=⟨gb163,0,none⟩) (Kd.R_types HO0_1.out BK163.out (by decide)) (fun _ hk=>hk.2) (.string a0_0)) (fun _ hk=>hk.2) (.slice Ao99 l0_1.length co99)) (fun _ hk=>hk.1),by repeat ((with_reducible first|exact HB.out|refine δq ?_ GE163.out)),by repeat ((with_reducible first|exact HK.out|refine Kept.setCell ?_ (.inr GW163.out) _))⟩


open Go.Proofs.YtggemblkhckbpaaW.PrintWords renaming gate_dst → δx, below_step → δr, below_size → δs, blk_cell → δl, blk_frozen → δm, gate_builtin → δy, blk_put → δw, below_set → δq
open Go.Proofs.YtggemblkhckbpaaW.PrintWords.Kd renaming R_ne → ζf, R_far → ζi
set_option maxHeartbeats 8000000
set_option maxRecDepth 100000

/-! ### spec_l06Own: function 46 -/
def spec_l06Own.f (a0_0:ByteArray) (l0_1:List (S39)):Option (ByteArray × (List (S39))):=(some (([]:List (S39)):List (S39))).bind fun y193=>(if y193.length+l0_1.length<5864062014805 then (some (a0_0,(y193 ++ l0_1))) else (none))
theorem spec_l06Own.calls (a0_0:ByteArray) (A0_1:Option Addr) (c0_1:Nat) (l0_1:List (S39)) (r1:ByteArray) (r2:List (S39)) (w:World) (hr0_1:Kd.C k39 w A0_1 l0_1.length l0_1) (hc0_1:l0_1.length≤c0_1) (h:spec_l06Own.f a0_0 l0_1=some (r1,r2)) :
  Calls Try.prog 46 #[.agg #[.string a0_0,.slice A0_1 l0_1.length c0_1]] w fun e w' => ∃ v1_:Value,e = .returned (.agg #[.string r1,v1_])∧Kd.R k39 39 w' w.heap.size (fun _=>True) v1_ r2∧Below w.heap.size w w':=by
 have hu25:=Try.underlying25
 have HR0_1:=ζa hr0_1
 have HC0_1:=ζa hc0_1
 clear hr0_1 hc0_1
 have HB:=ζa (Below.refl w.heap.size w)
 have H:((some (([]:List (S39)):List (S39))).bind fun y193=>(if y193.length+l0_1.length<5864062014805 then (some (a0_0,(y193 ++ l0_1))) else (none)))=some (r1,r2):=h
 clear h
 obtain ⟨y193,hy193⟩ : ∃ y_:List (S39),y_=(([]:List (S39))):=⟨_,rfl⟩
 replace H:(if y193.length+l0_1.length<5864062014805 then (some (a0_0,(y193 ++ l0_1))) else (none))=some (r1,r2):=by (have H2_:=(Option.bind_some _ _).symm.trans H;rw [hy193];with_reducible exact H2_)
 have Ny193:=ζa hy193
 clear hy193
 by_cases c2:y193.length+l0_1.length<5864062014805
 ·
  rw [if_pos c2] at H
  have LMc2:=ζa c2
  clear c2
  obtain ⟨y196,hy196⟩ : ∃ y_:List (S39),y_=(y193 ++ l0_1):=⟨_,rfl⟩
  replace H:(some (a0_0,y196))=some (r1,r2):=by (rw [hy196];with_reducible exact H)
  have Ny196:=ζa hy196
  clear hy196
  simp only [Option.some.injEq,Prod.mk.injEq] at H
  obtain ⟨rfl,rfl⟩:=H
  go_enter Try.func46,Try.ntmps46
  go_wp2_with (first|((with_reducible refine δx (N:=1) rfl ?_);refine bev 1 #[.string a0_0,.slice A0_1 l0_1.length c0_1] 25 ?_;intro gb191 hg w3 hbox hb;have BK191:=ζa (hbox);have GW191:=ζa (gbw hg (by exact HB.out));have GE191:=ζa (gbw hg (by exact HB.out));replace HB:=ζa (δr (by exact HB.out) hb);clear hb hbox hg)|((with_reducible refine δx (N:=2) rfl ?_);refine bev 2 #[.string (⟨#[]⟩:ByteArray),.slice none 0 0] 25 ?_;intro gb192 hg w4 hbox hb;have BK192:=ζa (hbox);have GW192:=ζa (gbw hg (by exact HB.out));have GE192:=ζa (gbw hg (by exact HB.out));replace HB:=ζa (δr (by exact HB.out) hb);have NB191_192:=ζa ((by rw [hg];exact Nat.ne_of_lt (blk_lt (g:=gb191) (o:=.cells #[.string a0_0,.slice A0_1 l0_1.length c0_1] 25 (0,0)) (by exact BK191.out)):gb191≠gb192));have NB192_191:=ζa ((by rw [hg];exact Nat.ne_of_gt (blk_lt (g:=gb191) (o:=.cells #[.string a0_0,.slice A0_1 l0_1.length c0_1] 25 (0,0)) (by exact BK191.out)):gb192≠gb191));replace BK191:=ζa (blk_below (g:=gb191) (o:=.cells #[.string a0_0,.slice A0_1 l0_1.length c0_1] 25 (0,0)) (by exact BK191.out) hb);clear hb hbox hg)|((with_reducible refine δx (N:=3) rfl ?_);refine Kd.R_lit k39 _ 39 ?hg (N:=3) ?hd (xs:=([]:List (S39))) (inner:=[]) (ok:=fun _=>True) (okp:=fun _=>True) ?hr ?hp (fun _ hk=>hk) trivial (Below.refl _ _) (Nat.le_refl _) (by simp) ?_;(case hd=>rfl);(case hg=>rfl);(case hr=>(go_simp;done));(case hp=>exact (Reps.none _ _));intro v194 w5 ho6 hb hg_ hnew_;clear hg_ hnew_;(rw [← Ny193.out] at ho6);have HO195:=ζa (Kd.R_lower ho6 (δs (by exact HB.out)));replace BK191:=ζa (blk_below (g:=gb191) (o:=.cells #[.string a0_0,.slice A0_1 l0_1.length c0_1] 25 (0,0)) (by exact BK191.out) hb);replace BK192:=ζa (blk_below (g:=gb192) (o:=.cells #[.string (⟨#[]⟩:ByteArray),.slice none 0 0] 25 (0,0)) (by exact BK192.out) hb);replace HB:=ζa (δr (by exact HB.out) hb);clear hb ho6;have hnb7:=NB191_192.out;have hnc7:=NB192_191.out;have hcz8_0:w5.cell? ⟨gb191,0,none⟩=some (.string a0_0):=(δl BK191.out 0).trans rfl;have hcz8_1:w5.cell? ⟨gb191,1,none⟩=some (.slice A0_1 l0_1.length c0_1):=(δl BK191.out 1).trans rfl;have hfz8_0:=δm BK191.out 0;have hfz8_1:=δm BK191.out 1)|((with_reducible refine δy (b:=.append) (xs:=#[.tmp 3,.tmp 5]) rfl ?_);at_builtin;refine Kd.R_append_rows k39 (w0:=w) w.heap.size rfl (.tmp 3) (.tmp 5) 23 39 (.agg #[(.int .i64 0),(.string ⟨#[]⟩)]) 24 rfl Try.underlying23 info39 rfl (by decide) (by omega) v194 y193 l0_1 _ _ _ (fun _=>True) (fun _=>False) rfl rfl ?aO ?aR (fun _ _ h=>h) (fun _ h=>h.elim) ?aF ?aB ?aS ?aL ?_;(case aR=>repeat (exact (Kd.C_below HR0_1.out HB.out)));(case aB=>exact (by exact HB.out));(case aF=>exact (fun _ _=>trivial));(case aO=>exact (by exact HO195.out));(case aS=>exact (δs (by exact HB.out)));(case aL=>have:=LMc2.out;omega);intro v197 w9 ho hb hg hat;rw [← Ny196.out] at ho;have n0_:=ζa (blk_grown (g:=gb191) (o:=.cells #[.string a0_0,.slice A0_1 l0_1.length c0_1] 25 (0,0)) (by exact BK191.out) hg (ζf HO195.out BK191.out (by decide)));have n1_:=ζa (blk_grown (g:=gb192) (o:=.cells #[.string (⟨#[]⟩:ByteArray),.slice none 0 0] 25 (0,0)) (by exact BK192.out) hg (ζf HO195.out BK192.out (by decide)));have n2_:=ζa (hb);have n3_:=ζa (ho);clear BK191;clear BK192;clear HB;clear HO195;have BK191:=n0_;have BK192:=n1_;have HB:=n2_;have HO198:=n3_;clear n0_ n1_ n2_ n3_;clear ho hb hg hat;obtain ⟨Ao10,co10,eo10⟩:=Kd.R_slice HO198.out;subst eo10;have hcz11_0:w9.cell? ⟨gb191,0,none⟩=some (.string a0_0):=(δl BK191.out 0).trans rfl;have hcz11_1:w9.cell? ⟨gb191,1,none⟩=some (.slice A0_1 l0_1.length c0_1):=(δl BK191.out 1).trans rfl;have hfz11_0:=δm BK191.out 0;have hfz11_1:=δm BK191.out 1;have hcz12_0:w9.cell? ⟨gb192,0,none⟩=some (.string (⟨#[]⟩:ByteArray)):=(δl BK192.out 0).trans rfl;have hcz12_1:w9.cell? ⟨gb192,1,none⟩=some (.slice none 0 0):=(δl BK192.out 1).trans rfl;have hfz12_0:=δm BK192.out 0;have hfz12_1:=δm BK192.out 1))
  refine bodyPost_ret (results_cell_row rfl _ _ gb192 25 #[.string a0_0,.slice Ao10 y196.length co10] (0,0) _ rfl (by refine δw (cs:=#[.string a0_0,.slice none 0 0]) ?_ 1 _ rfl;refine δw (cs:=#[.string (⟨#[]⟩:ByteArray),.slice none 0 0]) ?_ 0 _ rfl;refine blk_far ?_ NB192_191.out _;exact BK192.out) Try.underlying25 rfl (by kernel_rfl)) rfl ?_
  exact ⟨_,by rfl,by exact Kd.R_mono (ζi (p:=⟨gb192,1,none⟩) (ζi (p:=⟨gb192,0,none⟩) (ζi (p:=⟨gb191,1,none⟩) (Kd.R_types (Kd.R_types HO198.out BK191.out (by decide)) BK192.out (by decide)) (fun _ hk=>hk.1.2) (.slice Ao10 y196.length co10)) (fun _ hk=>hk.2) (.string a0_0)) (fun _ hk=>hk.2) (.slice Ao10 y196.length co10)) (fun _ hk=>trivial),by repeat ((with_reducible first|exact HB.out|refine δq ?_ GE191.out|refine δq ?_ GE192.out))⟩
 ·
  rw [if_neg c2] at H
  exact absurd H (by simp)


open Go.Proofs.YtggemblkhckbpaaW.PrintWords renaming gate_dst → δx, below_size → δs, below_step → δr, blk_cell → δl, blk_frozen → δm, gate_callee → δv, blk_put → δw, below_set → δq
open Go.Proofs.YtggemblkhckbpaaW.PrintWords.Kd renaming R_below → ζh, R_reads' → ζg, R_ne → ζf, R_far → ζi
set_option maxHeartbeats 8000000
set_option maxRecDepth 100000

/-! ### spec_UpdateClient: function 18 -/
def spec_UpdateClient.j0:Nat→Bool→ByteArray→List (S39)→Int→Int→ByteArray→ByteArray→Option (ByteArray × (List (S39)) × Int)
 | 0,_,_,_,_,_,_,_=>none
 | k+1,x15,x200000,x200001,x201000,x201001,x201002,x201003=>if x15=τ then (some ((⟨#[]⟩:ByteArray),([]:List (S39)),1)) else ((spec_l06Update.f x200000 x200001 x201000 x201001 x201002 x201003).bind fun bt204=>((spec_l06Own.f bt204.1 bt204.2.1).bind fun bt210=>(some (bt210.1,bt210.2,bt204.2.2))))
def spec_UpdateClient.f (k:Nat) (a0_0:ByteArray) (l0_1:List (S39)) (a1_0:Int) (a1_1:Int) (a1_2:ByteArray) (a1_3:ByteArray):Option (ByteArray × (List (S39)) × Int):=(spec_ClientOK.f k a0_0 l0_1).bind fun t202=>(if t202=τ then ((spec_HeaderOK.f a1_0 a1_1 a1_2 a1_3).bind fun t203=>(spec_UpdateClient.j0 k (!t203) a0_0 l0_1 a1_0 a1_1 a1_2 a1_3)) else (spec_UpdateClient.j0 k τ a0_0 l0_1 a1_0 a1_1 a1_2 a1_3))
theorem spec_UpdateClient.calls (k:Nat) (a0_0:ByteArray) (P0_1_:Nat→Prop) (u9000_:Value) (l0_1:List (S39)) (a1_0:Int) (a1_1:Int) (a1_2:ByteArray) (a1_3:ByteArray) (r1:ByteArray) (r2:List (S39)) (r3:Int) (w0 w:World) (hB:Below w0.heap.size w0 w) (ho0_1:Kd.R k39 39 w w0.heap.size P0_1_ u9000_ l0_1) (h:spec_UpdateClient.f k a0_0 l0_1 a1_0 a1_1 a1_2 a1_3=some (r1,r2,r3)) :
  Calls Try.prog 18 #[.agg #[.string a0_0,u9000_],.agg #[.int .i64 a1_0,.int .i64 a1_1,.string a1_2,.string a1_3]] w fun e w' => ∃ v1_:Value,e = .returned (.tuple #[.agg #[.string r1,v1_],.int .i64 r3])∧Kd.R k39 39 w' w0.heap.size (fun k_=>(P0_1_ k_ ∨ w.heap.size≤k_)) v1_ r2∧Below w0.heap.size w0 w'∧Kept w w' (fun k_=>P0_1_ k_):=by
 have hu25:=Try.underlying25
 have hu28:=Try.underlying28
 have HO0_1:=ζa (show Kd.R k39 39 w w0.heap.size (fun k_=>(P0_1_ k_ ∨ w.heap.size≤k_)) u9000_ l0_1 from Kd.R_mono ho0_1 (fun k_ hk=>(.inl hk)))
 have HK:=ζa (Kept.refl w (fun k_=>P0_1_ k_))
 have HW0:=ζa hB.size
 have HB:=ζa hB
 clear hB
 have H:((spec_ClientOK.f k a0_0 l0_1).bind fun t202=>(if t202=τ then ((spec_HeaderOK.f a1_0 a1_1 a1_2 a1_3).bind fun t203=>(spec_UpdateClient.j0 k (!t203) a0_0 l0_1 a1_0 a1_1 a1_2 a1_3)) else (spec_UpdateClient.j0 k τ a0_0 l0_1 a1_0 a1_1 a1_2 a1_3)))=some (r1,r2,r3):=h
 clear h
 have HC3:=ζa H
 clear H
 obtain ⟨Ao4,co4,eo4⟩:=Kd.R_slice HO0_1.out
 subst eo4
 go_enter Try.func18,Try.ntmps18
 go_upto_region 1 with (first|((with_reducible refine δx (N:=2) rfl ?_);refine bev 2 #[.string a0_0,.slice Ao4 l0_1.length co4] 25 ?_;intro gb199 hg w5 hbox hb;replace HO0_1:=ζa (ζh (by exact HO0_1.out) hb);have BK199:=ζa (hbox);have GW199:=ζa ((by rw [hg];exact (by exact HK.out.1):w.heap.size≤gb199));replace HK:=ζa (Kept.below (S:=(fun k_=>P0_1_ k_)) (by exact HK.out) hb);have GE199:=ζa ((by rw [hg];exact (δs (by exact HB.out)):w0.heap.size≤gb199));replace HB:=ζa (δr (by exact HB.out) hb);clear hb hbox hg)|((with_reducible refine δx (N:=3) rfl ?_);refine bev 3 #[.int .i64 a1_0,.int .i64 a1_1,.string a1_2,.string a1_3] 28 ?_;intro gb200 hg w6 hbox hb;replace HO0_1:=ζa (ζh (by exact HO0_1.out) hb);have BK200:=ζa (hbox);have GW200:=ζa ((by rw [hg];exact (by exact HK.out.1):w.heap.size≤gb200));replace HK:=ζa (Kept.below (S:=(fun k_=>P0_1_ k_)) (by exact HK.out) hb);have GE200:=ζa ((by rw [hg];exact (δs (by exact HB.out)):w0.heap.size≤gb200));replace HB:=ζa (δr (by exact HB.out) hb);have NB199_200:=ζa ((by rw [hg];exact Nat.ne_of_lt (blk_lt (g:=gb199) (o:=.cells #[.string a0_0,.slice Ao4 l0_1.length co4] 25 (0,0)) (by exact BK199.out)):gb199≠gb200));have NB200_199:=ζa ((by rw [hg];exact Nat.ne_of_gt (blk_lt (g:=gb199) (o:=.cells #[.string a0_0,.slice Ao4 l0_1.length co4] 25 (0,0)) (by exact BK199.out)):gb200≠gb199));replace BK199:=ζa (blk_below (g:=gb199) (o:=.cells #[.string a0_0,.slice Ao4 l0_1.length co4] 25 (0,0)) (by exact BK199.out) hb);clear hb hbox hg)|((with_reducible refine δx (N:=4) rfl ?_);refine bev 4 #[.string (⟨#[]⟩:ByteArray),.slice none 0 0] 25 ?_;intro gb201 hg w7 hbox hb;replace HO0_1:=ζa (ζh (by exact HO0_1.out) hb);have BK201:=ζa (hbox);have GW201:=ζa ((by rw [hg];exact (by exact HK.out.1):w.heap.size≤gb201));replace HK:=ζa (Kept.below (S:=(fun k_=>P0_1_ k_)) (by exact HK.out) hb);have GE201:=ζa ((by rw [hg];exact (δs (by exact HB.out)):w0.heap.size≤gb201));replace HB:=ζa (δr (by exact HB.out) hb);have NB199_201:=ζa ((by rw [hg];exact Nat.ne_of_lt (blk_lt (g:=gb199) (o:=.cells #[.string a0_0,.slice Ao4 l0_1.length co4] 25 (0,0)) (by exact BK199.out)):gb199≠gb201));have NB201_199:=ζa ((by rw [hg];exact Nat.ne_of_gt (blk_lt (g:=gb199) (o:=.cells #[.string a0_0,.slice Ao4 l0_1.length co4] 25 (0,0)) (by exact BK199.out)):gb201≠gb199));replace BK199:=ζa (blk_below (g:=gb199) (o:=.cells #[.string a0_0,.slice Ao4 l0_1.length co4] 25 (0,0)) (by exact BK199.out) hb);have NB200_201:=ζa ((by rw [hg];exact Nat.ne_of_lt (blk_lt (g:=gb200) (o:=.cells #[.int .i64 a1_0,.int .i64 a1_1,.string a1_2,.string a1_3] 28 (0,0)) (by exact BK200.out)):gb200≠gb201));have NB201_200:=ζa ((by rw [hg];exact Nat.ne_of_gt (blk_lt (g:=gb200) (o:=.cells #[.int .i64 a1_0,.int .i64 a1_1,.string a1_2,.string a1_3] 28 (0,0)) (by exact BK200.out)):gb201≠gb200));replace BK200:=ζa (blk_below (g:=gb200) (o:=.cells #[.int .i64 a1_0,.int .i64 a1_1,.string a1_2,.string a1_3] 28 (0,0)) (by exact BK200.out) hb);clear hb hbox hg))
 (try simp only [ζl,δa,δb,δc])
 go_cut [15] (fun v15 wc => ∃ (kq:Nat) (x15_2:Bool),v15 = .bool x15_2∧Aside0 (spec_UpdateClient.j0 kq x15_2 a0_0 l0_1 a1_0 a1_1 a1_2 a1_3=some (r1,r2,r3))∧Aside0 (kq≤k)∧Aside0 (Kd.R k39 39 wc w0.heap.size (fun k_=>(P0_1_ k_ ∨ w.heap.size≤k_)) (.slice Ao4 l0_1.length co4) l0_1)∧Aside0 (wc.heap[gb199]? = some (.cells #[.string a0_0,(.slice Ao4 l0_1.length co4)] 25 (0,0)))∧Aside0 (wc.heap[gb200]? = some (.cells #[.int .i64 a1_0,.int .i64 a1_1,.string a1_2,.string a1_3] 28 (0,0)))∧Aside0 (wc.heap[gb201]? = some (.cells #[.string (⟨#[]⟩:ByteArray),(.slice none 0 0)] 25 (0,0)))∧Aside0 (Kept w wc (fun k_=>P0_1_ k_))∧Aside0 (Below w0.heap.size w0 wc))
 case first =>
  have H:=HC3.out
  clear HC3
  obtain ⟨t202,A8,H⟩:=bsm H
  by_cases c9:t202=τ
  ·
   subst c9
   rw [ifT] at H
   obtain ⟨t203,A10,H⟩:=bsm H
   have H':=ζa H
   clear H
   have hnb11:=NB199_200.out
   have hnc11:=NB200_199.out
   have hnb12:=NB199_201.out
   have hnc12:=NB201_199.out
   have hcz13_0:w7.cell? ⟨gb199,0,none⟩=some (.string a0_0):=(δl BK199.out 0).trans rfl
   have hcz13_1:w7.cell? ⟨gb199,1,none⟩=some (.slice Ao4 l0_1.length co4):=(δl BK199.out 1).trans rfl
   have hfz13_0:=δm BK199.out 0
   have hfz13_1:=δm BK199.out 1
   go_wp2_with (first|((with_reducible refine δv (f:=44) rfl ?_);refine gl 9 Try.func44 #[.agg #[.string a0_0,.slice Ao4 l0_1.length co4]] ?_;(with_reducible refine (spec_ClientOK.calls k a0_0 _ _ l0_1 τ _ ?side1 ?side2 A8.out).mono ?_);(case side1=>repeat (exact (ζg HO0_1.out).2.2));(case side2=>exact (ζg HO0_1.out).2.1);rintro e w14 ⟨rfl,hb⟩;refine ⟨_,rfl,?_⟩;replace HO0_1:=ζa (ζh (by exact HO0_1.out) hb);replace BK199:=ζa (blk_below (g:=gb199) (o:=.cells #[.string a0_0,.slice Ao4 l0_1.length co4] 25 (0,0)) (by exact BK199.out) hb);replace BK200:=ζa (blk_below (g:=gb200) (o:=.cells #[.int .i64 a1_0,.int .i64 a1_1,.string a1_2,.string a1_3] 28 (0,0)) (by exact BK200.out) hb);replace BK201:=ζa (blk_below (g:=gb201) (o:=.cells #[.string (⟨#[]⟩:ByteArray),.slice none 0 0] 25 (0,0)) (by exact BK201.out) hb);replace HK:=ζa (Kept.below (S:=(fun k_=>P0_1_ k_)) (by exact HK.out) hb);replace HB:=ζa (δr (by exact HB.out) hb);(try clear hb);(try clear hb2);(try clear hk);(try clear hi);have hnb15:=NB200_201.out;have hnc15:=NB201_200.out;have hcz16_0:w14.cell? ⟨gb200,0,none⟩=some (.int .i64 a1_0):=(δl BK200.out 0).trans rfl;have hcz16_1:w14.cell? ⟨gb200,1,none⟩=some (.int .i64 a1_1):=(δl BK200.out 1).trans rfl;have hcz16_2:w14.cell? ⟨gb200,2,none⟩=some (.string a1_2):=(δl BK200.out 2).trans rfl;have hcz16_3:w14.cell? ⟨gb200,3,none⟩=some (.string a1_3):=(δl BK200.out 3).trans rfl;have hfz16_0:=δm BK200.out 0;have hfz16_1:=δm BK200.out 1;have hfz16_2:=δm BK200.out 2;have hfz16_3:=δm BK200.out 3)|(go_at_call 35;(with_reducible refine (spec_HeaderOK.calls a1_0 a1_1 a1_2 a1_3 t203 _ A10.out).mono ?_);rintro e w17 ⟨rfl,hb⟩;replace HO0_1:=ζa (ζh (by exact HO0_1.out) hb);replace BK199:=ζa (blk_below (g:=gb199) (o:=.cells #[.string a0_0,.slice Ao4 l0_1.length co4] 25 (0,0)) (by exact BK199.out) hb);replace BK200:=ζa (blk_below (g:=gb200) (o:=.cells #[.int .i64 a1_0,.int .i64 a1_1,.string a1_2,.string a1_3] 28 (0,0)) (by exact BK200.out) hb);replace BK201:=ζa (blk_below (g:=gb201) (o:=.cells #[.string (⟨#[]⟩:ByteArray),.slice none 0 0] 25 (0,0)) (by exact BK201.out) hb);replace HK:=ζa (Kept.below (S:=(fun k_=>P0_1_ k_)) (by exact HK.out) hb);replace HB:=ζa (δr (by exact HB.out) hb);(try clear hb);(try clear hb2);(try clear hk);(try clear hi)))
   go_meet
   case rel=>exact ⟨_,(!t203),(by rfl),H',⟨by omega⟩,⟨by exact HO0_1.out⟩,⟨by exact BK199.out⟩,⟨by exact BK200.out⟩,⟨by exact BK201.out⟩,⟨by repeat ((with_reducible exact HK.out))⟩,⟨by repeat ((with_reducible exact HB.out))⟩⟩
  ·
   replace c9:=Bool.eq_false_iff.mpr c9
   subst c9
   rw [ifF] at H
   have H':=ζa H
   clear H
   have hnb18:=NB199_200.out
   have hnc18:=NB200_199.out
   have hnb19:=NB199_201.out
   have hnc19:=NB201_199.out
   have hcz20_0:w7.cell? ⟨gb199,0,none⟩=some (.string a0_0):=(δl BK199.out 0).trans rfl
   have hcz20_1:w7.cell? ⟨gb199,1,none⟩=some (.slice Ao4 l0_1.length co4):=(δl BK199.out 1).trans rfl
   have hfz20_0:=δm BK199.out 0
   have hfz20_1:=δm BK199.out 1
   go_wp2_with (((with_reducible refine δv (f:=44) rfl ?_);refine gl 9 Try.func44 #[.agg #[.string a0_0,.slice Ao4 l0_1.length co4]] ?_;(with_reducible refine (spec_ClientOK.calls k a0_0 _ _ l0_1 φ _ ?side1 ?side2 A8.out).mono ?_);(case side1=>repeat (exact (ζg HO0_1.out).2.2));(case side2=>exact (ζg HO0_1.out).2.1);rintro e w21 ⟨rfl,hb⟩;refine ⟨_,rfl,?_⟩;replace HO0_1:=ζa (ζh (by exact HO0_1.out) hb);replace BK199:=ζa (blk_below (g:=gb199) (o:=.cells #[.string a0_0,.slice Ao4 l0_1.length co4] 25 (0,0)) (by exact BK199.out) hb);replace BK200:=ζa (blk_below (g:=gb200) (o:=.cells #[.int .i64 a1_0,.int .i64 a1_1,.string a1_2,.string a1_3] 28 (0,0)) (by exact BK200.out) hb);replace BK201:=ζa (blk_below (g:=gb201) (o:=.cells #[.string (⟨#[]⟩:ByteArray),.slice none 0 0] 25 (0,0)) (by exact BK201.out) hb);replace HK:=ζa (Kept.below (S:=(fun k_=>P0_1_ k_)) (by exact HK.out) hb);replace HB:=ζa (δr (by exact HB.out) hb);(try clear hb);(try clear hb2);(try clear hk);(try clear hi)))
   go_meet
   case rel=>exact ⟨_,(τ),(by rfl),H',⟨by omega⟩,⟨by exact HO0_1.out⟩,⟨by exact BK199.out⟩,⟨by exact BK200.out⟩,⟨by exact BK201.out⟩,⟨by repeat ((with_reducible exact HK.out))⟩,⟨by repeat ((with_reducible exact HB.out))⟩⟩
 case rest =>
  clear HC3
  try clear c1
  try clear p2
  try clear c4
  try clear c9
  try clear c11
  try clear c12
  try clear c15
  try clear c18
  try clear c19
  try clear hcz13_0
  try clear hcz13_1
  try clear hcz16_0
  try clear hcz16_1
  try clear hcz16_2
  try clear hcz16_3
  try clear hcz20_0
  try clear hcz20_1
  try clear hfz13_0
  try clear hfz13_1
  try clear hfz16_0
  try clear hfz16_1
  try clear hfz16_2
  try clear hfz16_3
  try clear hfz20_0
  try clear hfz20_1
  obtain ⟨kq,x15_2,rfl,HA,HJ2,HO_200001,BK199,BK200,BK201,HK,HB⟩:=hcut
  cases kq with
  | zero=>exact absurd HA.out (by simp [spec_UpdateClient.j0])
  | succ kj2 =>
   have H:=HA.out
   clear HA
   simp only [spec_UpdateClient.j0] at H
   by_cases c22:x15_2=τ
   ·
    subst c22
    rw [ifT] at H
    simp only [Option.some.injEq,Prod.mk.injEq] at H
    obtain ⟨rfl,rfl,rfl⟩:=H
    have hnb23:=NB201_199.out
    have hnc23:=NB199_201.out
    have hnb24:=NB201_200.out
    have hnc24:=NB200_201.out
    have hcz25_0:wc.cell? ⟨gb201,0,none⟩=some (.string (⟨#[]⟩:ByteArray)):=(δl BK201.out 0).trans rfl
    have hcz25_1:wc.cell? ⟨gb201,1,none⟩=some (.slice none 0 0):=(δl BK201.out 1).trans rfl
    have hfz25_0:=δm BK201.out 0
    have hfz25_1:=δm BK201.out 1
    go_wp2
    refine bodyPost_ret (results_ct rfl _ _ gb201 25 #[.string (⟨#[]⟩:ByteArray),.slice none 0 0] (0,0) _ rfl (by refine δw (cs:=#[.string (⟨#[]⟩:ByteArray),.slice none 0 0]) ?_ 1 _ rfl;refine δw (cs:=#[.string (⟨#[]⟩:ByteArray),.slice none 0 0]) ?_ 0 _ rfl;exact BK201.out) Try.underlying25 rfl (by kernel_rfl)) rfl ?_
    exact ⟨_,by rfl,by exact Kd.R_nil _ _ _ _ _,by repeat ((with_reducible first|exact HB.out|refine δq ?_ GE201.out)),by repeat ((with_reducible first|exact HK.out|refine Kept.setCell ?_ (.inr GW201.out) _))⟩
   ·
    replace c22:=Bool.eq_false_iff.mpr c22
    subst c22
    rw [ifF] at H
    obtain ⟨⟨t204,t205,t208⟩,A26,H⟩:=bsm H
    dsimp only at H
    obtain ⟨⟨t210,t211⟩,A27,H⟩:=bsm H
    dsimp only at H
    simp only [Option.some.injEq,Prod.mk.injEq] at H
    obtain ⟨rfl,rfl,rfl⟩:=H
    have hnb28:=NB199_200.out
    have hnc28:=NB200_199.out
    have hnb29:=NB199_201.out
    have hnc29:=NB201_199.out
    have hcz30_0:wc.cell? ⟨gb199,0,none⟩=some (.string a0_0):=(δl BK199.out 0).trans rfl
    have hcz30_1:wc.cell? ⟨gb199,1,none⟩=some (.slice Ao4 l0_1.length co4):=(δl BK199.out 1).trans rfl
    have hfz30_0:=δm BK199.out 0
    have hfz30_1:=δm BK199.out 1
    have hnb31:=NB200_201.out
    have hnc31:=NB201_200.out
    have hcz32_0:wc.cell? ⟨gb200,0,none⟩=some (.int .i64 a1_0):=(δl BK200.out 0).trans rfl
    have hcz32_1:wc.cell? ⟨gb200,1,none⟩=some (.int .i64 a1_1):=(δl BK200.out 1).trans rfl
    have hcz32_2:wc.cell? ⟨gb200,2,none⟩=some (.string a1_2):=(δl BK200.out 2).trans rfl
    have hcz32_3:wc.cell? ⟨gb200,3,none⟩=some (.string a1_3):=(δl BK200.out 3).trans rfl
    have hfz32_0:=δm BK200.out 0
    have hfz32_1:=δm BK200.out 1
    have hfz32_2:=δm BK200.out 2
    have hfz32_3:=δm BK200.out 3
    go_wp2_with (first|((with_reducible refine δv (f:=45) rfl ?_);refine gl 20 Try.func45 #[.agg #[.string a0_0,.slice Ao4 l0_1.length co4],.agg #[.int .i64 a1_0,.int .i64 a1_1,.string a1_2,.string a1_3]] ?_;(with_reducible refine (spec_l06Update.calls a0_0 (fun k_=>some k_=(.slice Ao4 l0_1.length co4:Value).ownBlock) (.slice Ao4 l0_1.length co4) l0_1 a1_0 a1_1 a1_2 a1_3 t204 t205 t208 w0 _ ?side1 ?side2 A26.out).mono ?_);(case side1=>repeat ((with_reducible exact HB.out)));(case side2=>exact Kd.R_tight rfl HO_200001.out);rintro e w33 ⟨v206,rfl,ho0,hb,hkp⟩;refine ⟨_,rfl,?_⟩;have n0_:=ζa (blk_kept (by exact BK199.out) hkp (fun hs_=>(fun e_=>(ζf HO_200001.out BK199.out (by decide)) e_) hs_));have n1_:=ζa (blk_kept (by exact BK200.out) hkp (fun hs_=>(fun e_=>(ζf HO_200001.out BK200.out (by decide)) e_) hs_));have n2_:=ζa (blk_kept (by exact BK201.out) hkp (fun hs_=>(fun e_=>(ζf HO_200001.out BK201.out (by decide)) e_) hs_));have n3_:=ζa (Kd.R_mono (ok':=fun k_=>(P0_1_ k_ ∨ w.heap.size≤k_)) ho0 (fun k_ hk_=>Or.elim hk_ (fun hs_=>(HO_200001.out.1 k_ (hs_).symm)) (fun hn_=>(.inr (Nat.le_trans (by exact HK.out.1) hn_)))));have n4_:=ζa (Kept.then_ (S:=(fun k_=>P0_1_ k_)) (by exact HK.out) hkp (fun k_ hs_=>(fun e_=>(HO_200001.out.1 k_ e_.symm)) hs_));have n5_:=ζa (hb);clear BK199;clear BK200;clear BK201;clear HK;clear HB;clear HO_200001;have BK199:=n0_;have BK200:=n1_;have BK201:=n2_;have HO207:=n3_;have HK:=n4_;have HB:=n5_;clear n0_ n1_ n2_ n3_ n4_ n5_;(try clear hb);(try clear hkp);(try clear ho0))|((with_reducible refine δx (N:=6) rfl ?_);refine bev 6 #[.string (⟨#[]⟩:ByteArray),.slice none 0 0] 25 ?_;intro gb209 hg w34 hbox hb;replace HO207:=ζa (ζh (by exact HO207.out) hb);have BK209:=ζa (hbox);have GW209:=ζa ((by rw [hg];exact (by exact HK.out.1):w.heap.size≤gb209));replace HK:=ζa (Kept.below (S:=(fun k_=>P0_1_ k_)) (by exact HK.out) hb);have GE209:=ζa ((by rw [hg];exact (δs (by exact HB.out)):w0.heap.size≤gb209));replace HB:=ζa (δr (by exact HB.out) hb);have NB199_209:=ζa ((by rw [hg];exact Nat.ne_of_lt (blk_lt (g:=gb199) (o:=.cells #[.string a0_0,.slice Ao4 l0_1.length co4] 25 (0,0)) (by exact BK199.out)):gb199≠gb209));have NB209_199:=ζa ((by rw [hg];exact Nat.ne_of_gt (blk_lt (g:=gb199) (o:=.cells #[.string a0_0,.slice Ao4 l0_1.length co4] 25 (0,0)) (by exact BK199.out)):gb209≠gb199));replace BK199:=ζa (blk_below (g:=gb199) (o:=.cells #[.string a0_0,.slice Ao4 l0_1.length co4] 25 (0,0)) (by exact BK199.out) hb);have NB200_209:=ζa ((by rw [hg];exact Nat.ne_of_lt (blk_lt (g:=gb200) (o:=.cells #[.int .i64 a1_0,.int .i64 a1_1,.string a1_2,.string a1_3] 28 (0,0)) (by exact BK200.out)):gb200≠gb209));have NB209_200:=ζa ((by rw [hg];exact Nat.ne_of_gt (blk_lt (g:=gb200) (o:=.cells #[.int .i64 a1_0,.int .i64 a1_1,.string a1_2,.string a1_3] 28 (0,0)) (by exact BK200.out)):gb209≠gb200));replace BK200:=ζa (blk_below (g:=gb200) (o:=.cells #[.int .i64 a1_0,.int .i64 a1_1,.string a1_2,.string a1_3] 28 (0,0)) (by exact BK200.out) hb);have NB201_209:=ζa ((by rw [hg];exact Nat.ne_of_lt (blk_lt (g:=gb201) (o:=.cells #[.string (⟨#[]⟩:ByteArray),.slice none 0 0] 25 (0,0)) (by exact BK201.out)):gb201≠gb209));have NB209_201:=ζa ((by rw [hg];exact Nat.ne_of_gt (blk_lt (g:=gb201) (o:=.cells #[.string (⟨#[]⟩:ByteArray),.slice none 0 0] 25 (0,0)) (by exact BK201.out)):gb209≠gb201));replace BK201:=ζa (blk_below (g:=gb201) (o:=.cells #[.string (⟨#[]⟩:ByteArray),.slice none 0 0] 25 (0,0)) (by exact BK201.out) hb);clear hb hbox hg;have hnb35:=NB209_199.out;have hnc35:=NB199_209.out;have hnb36:=NB209_200.out;have hnc36:=NB200_209.out;have hnb37:=NB209_201.out;have hnc37:=NB201_209.out;have hcz38_0:w34.cell? ⟨gb209,0,none⟩=some (.string (⟨#[]⟩:ByteArray)):=(δl BK209.out 0).trans rfl;have hcz38_1:w34.cell? ⟨gb209,1,none⟩=some (.slice none 0 0):=(δl BK209.out 1).trans rfl;have hfz38_0:=δm BK209.out 0;have hfz38_1:=δm BK209.out 1;obtain ⟨Ao39,co39,eo39⟩:=Kd.R_slice HO207.out;subst eo39)|((with_reducible refine δv (f:=46) rfl ?_);refine gl 24 Try.func46 #[.agg #[.string t204,.slice Ao39 t205.length co39]] ?_;(with_reducible refine (spec_l06Own.calls t204 _ _ t205 t210 t211 _ ?side1 ?side2 A27.out).mono ?_);(case side1=>refine (ζg (e:=39) (base:=w0.heap.size) (ok:=fun k_=>(P0_1_ k_ ∨ w.heap.size≤k_)) (n:=t205.length) (c:=co39) ?_).2.2;exact (by exact (Kd.R_mono (ζi (p:=⟨gb209,1,none⟩) (ζi (p:=⟨gb209,0,none⟩) (Kd.R_types HO207.out BK209.out (by decide)) (fun _ hk=>hk.2) (.string t204)) (fun _ hk=>hk.2) (.slice Ao39 t205.length co39)) (fun _ h_=>h_.1))));(case side2=>exact (ζg HO207.out).2.1);rintro e w40 ⟨v212,rfl,ho0,hb⟩;refine ⟨_,rfl,?_⟩;have HO213:=ζa (Kd.R_lower (Kd.R_new' (Kd.R_newM (M:=fun k_=>(P0_1_ k_ ∨ w.heap.size≤k_)) ho0 (show Kept w _ (fun k_=>P0_1_ k_) from by repeat ((with_reducible first|exact HK.out|refine Kept.setCell ?_ (.inr GW209.out) _))).1 (fun k_ h_ => .inr h_)) (Kd.R_lt (by exact (Kd.R_mono (ζi (p:=⟨gb209,1,none⟩) (ζi (p:=⟨gb209,0,none⟩) (Kd.R_types HO207.out BK209.out (by decide)) (fun _ hk=>hk.2) (.string t204)) (fun _ hk=>hk.2) (.slice Ao39 t205.length co39)) (fun _ h_=>h_.1))))) (δs (by repeat ((with_reducible first|exact HB.out|refine δq ?_ GE209.out)))));replace HO207:=ζa (Kd.R_elder' (by exact (Kd.R_mono (ζi (p:=⟨gb209,1,none⟩) (ζi (p:=⟨gb209,0,none⟩) (Kd.R_types HO207.out BK209.out (by decide)) (fun _ hk=>hk.2) (.string t204)) (fun _ hk=>hk.2) (.slice Ao39 t205.length co39)) (fun _ h_=>h_.1))) (Kd.R_base ho0) hb);replace BK199:=ζa (blk_below (g:=gb199) (o:=.cells #[.string a0_0,.slice Ao4 l0_1.length co4] 25 (0,0)) (by refine blk_far ?_ NB199_209.out _;refine blk_far ?_ NB199_209.out _;exact BK199.out) hb);replace BK200:=ζa (blk_below (g:=gb200) (o:=.cells #[.int .i64 a1_0,.int .i64 a1_1,.string a1_2,.string a1_3] 28 (0,0)) (by refine blk_far ?_ NB200_209.out _;refine blk_far ?_ NB200_209.out _;exact BK200.out) hb);replace BK201:=ζa (blk_below (g:=gb201) (o:=.cells #[.string (⟨#[]⟩:ByteArray),.slice none 0 0] 25 (0,0)) (by refine blk_far ?_ NB201_209.out _;refine blk_far ?_ NB201_209.out _;exact BK201.out) hb);replace BK209:=ζa (blk_below (g:=gb209) (o:=.cells #[.string t204,.slice Ao39 t205.length co39] 25 (0,0)) (by refine δw (cs:=#[.string t204,.slice none 0 0]) ?_ 1 _ rfl;refine δw (cs:=#[.string (⟨#[]⟩:ByteArray),.slice none 0 0]) ?_ 0 _ rfl;exact BK209.out) hb);replace HK:=ζa (Kept.below (S:=(fun k_=>P0_1_ k_)) (by repeat ((with_reducible first|exact HK.out|refine Kept.setCell ?_ (.inr GW209.out) _))) hb);replace HB:=ζa (δr (by repeat ((with_reducible first|exact HB.out|refine δq ?_ GE209.out))) hb);(try clear hb);(try clear hb2);(try clear hk);(try clear hi);(try clear ho0);have hcz41_0:w40.cell? ⟨gb201,0,none⟩=some (.string (⟨#[]⟩:ByteArray)):=(δl BK201.out 0).trans rfl;have hcz41_1:w40.cell? ⟨gb201,1,none⟩=some (.slice none 0 0):=(δl BK201.out 1).trans rfl;have hfz41_0:=δm BK201.out 0;have hfz41_1:=δm BK201.out 1;obtain ⟨Ao42,co42,eo42⟩:=Kd.R_slice HO213.out;subst eo42))
    refine bodyPost_ret (results_ct rfl _ _ gb201 25 #[.string t210,.slice Ao42 t211.length co42] (0,0) _ rfl (by refine δw (cs:=#[.string t210,.slice none 0 0]) ?_ 1 _ rfl;refine δw (cs:=#[.string (⟨#[]⟩:ByteArray),.slice none 0 0]) ?_ 0 _ rfl;exact BK201.out) Try.underlying25 rfl (by kernel_rfl)) rfl ?_
    exact ⟨_,by rfl,by exact Kd.R_mono (ζi (p:=⟨gb201,1,none⟩) (ζi (p:=⟨gb201,0,none⟩) (Kd.R_types HO213.out BK201.out (by decide)) (fun _ hk=>hk.2) (.string t210)) (fun _ hk=>hk.2) (.slice Ao42 t211.length co42)) (fun _ hk=>hk.1.1.1),by repeat ((with_reducible first|exact HB.out|refine δq ?_ GE201.out)),by repeat ((with_reducible first|exact HK.out|refine Kept.setCell ?_ (.inr GW201.out) _))⟩


open Go.Proofs.YtggemblkhckbpaaW.PrintWords renaming gate_dst → δx, below_step → δr, blk_cell → δl, blk_frozen → δm, blk_put → δw, below_set → δq
set_option maxHeartbeats 8000000
set_option maxRecDepth 100000

/-! ### laws_toState: function 71 -/
def laws_toState.f (a0_0:Int) (a0_1:ByteArray):Option (Int × ByteArray):=some (a0_0,a0_1)
theorem laws_toState.calls (a0_0:Int) (a0_1:ByteArray) (r1:Int) (r2:ByteArray) (w:World) (h:laws_toState.f a0_0 a0_1=some (r1,r2)) :
  Calls Try.prog 71 #[.agg #[.int .i64 a0_0,.string a0_1]] w fun e w'=>e = .returned (.agg #[.int .i64 r1,.string r2])∧Below w.heap.size w w':=by
 have hu98:=Try.underlying98
 have hu39:=Try.underlying39
 have HB:=ζa (Below.refl w.heap.size w)
 have H:(some (a0_0,a0_1))=some (r1,r2):=h
 clear h
 simp only [Option.some.injEq,Prod.mk.injEq] at H
 obtain ⟨rfl,rfl⟩:=H
 go_enter Try.func71,Try.ntmps71
 go_wp2_with (first|((with_reducible refine δx (N:=1) rfl ?_);refine bev 1 #[.int .i64 a0_0,.string a0_1] 98 ?_;intro gb214 hg w2 hbox hb;have BK214:=ζa (hbox);have GW214:=ζa (gbw hg (by exact HB.out));have GE214:=ζa (gbw hg (by exact HB.out));replace HB:=ζa (δr (by exact HB.out) hb);clear hb hbox hg)|((with_reducible refine δx (N:=2) rfl ?_);refine bev 2 #[.int .i64 0,.string (⟨#[]⟩:ByteArray)] 39 ?_;intro gb215 hg w3 hbox hb;have BK215:=ζa (hbox);have GW215:=ζa (gbw hg (by exact HB.out));have GE215:=ζa (gbw hg (by exact HB.out));replace HB:=ζa (δr (by exact HB.out) hb);have NB214_215:=ζa ((by rw [hg];exact Nat.ne_of_lt (blk_lt (g:=gb214) (o:=.cells #[.int .i64 a0_0,.string a0_1] 98 (0,0)) (by exact BK214.out)):gb214≠gb215));have NB215_214:=ζa ((by rw [hg];exact Nat.ne_of_gt (blk_lt (g:=gb214) (o:=.cells #[.int .i64 a0_0,.string a0_1] 98 (0,0)) (by exact BK214.out)):gb215≠gb214));replace BK214:=ζa (blk_below (g:=gb214) (o:=.cells #[.int .i64 a0_0,.string a0_1] 98 (0,0)) (by exact BK214.out) hb);clear hb hbox hg)|((with_reducible refine δx (N:=3) rfl ?_);refine bev 3 #[.int .i64 0,.string (⟨#[]⟩:ByteArray)] 39 ?_;intro gb216 hg w4 hbox hb;have BK216:=ζa (hbox);have GW216:=ζa (gbw hg (by exact HB.out));have GE216:=ζa (gbw hg (by exact HB.out));replace HB:=ζa (δr (by exact HB.out) hb);have NB214_216:=ζa ((by rw [hg];exact Nat.ne_of_lt (blk_lt (g:=gb214) (o:=.cells #[.int .i64 a0_0,.string a0_1] 98 (0,0)) (by exact BK214.out)):gb214≠gb216));have NB216_214:=ζa ((by rw [hg];exact Nat.ne_of_gt (blk_lt (g:=gb214) (o:=.cells #[.int .i64 a0_0,.string a0_1] 98 (0,0)) (by exact BK214.out)):gb216≠gb214));replace BK214:=ζa (blk_below (g:=gb214) (o:=.cells #[.int .i64 a0_0,.string a0_1] 98 (0,0)) (by exact BK214.out) hb);have NB215_216:=ζa ((by rw [hg];exact Nat.ne_of_lt (blk_lt (g:=gb215) (o:=.cells #[.int .i64 0,.string (⟨#[]⟩:ByteArray)] 39 (0,0)) (by exact BK215.out)):gb215≠gb216));have NB216_215:=ζa ((by rw [hg];exact Nat.ne_of_gt (blk_lt (g:=gb215) (o:=.cells #[.int .i64 0,.string (⟨#[]⟩:ByteArray)] 39 (0,0)) (by exact BK215.out)):gb216≠gb215));replace BK215:=ζa (blk_below (g:=gb215) (o:=.cells #[.int .i64 0,.string (⟨#[]⟩:ByteArray)] 39 (0,0)) (by exact BK215.out) hb);clear hb hbox hg;have hnb5:=NB214_215.out;have hnc5:=NB215_214.out;have hnb6:=NB214_216.out;have hnc6:=NB216_214.out;have hcz7_0:w4.cell? ⟨gb214,0,none⟩=some (.int .i64 a0_0):=(δl BK214.out 0).trans rfl;have hcz7_1:w4.cell? ⟨gb214,1,none⟩=some (.string a0_1):=(δl BK214.out 1).trans rfl;have hfz7_0:=δm BK214.out 0;have hfz7_1:=δm BK214.out 1;have hnb8:=NB216_215.out;have hnc8:=NB215_216.out;have hcz9_0:w4.cell? ⟨gb216,0,none⟩=some (.int .i64 0):=(δl BK216.out 0).trans rfl;have hcz9_1:w4.cell? ⟨gb216,1,none⟩=some (.string (⟨#[]⟩:ByteArray)):=(δl BK216.out 1).trans rfl;have hfz9_0:=δm BK216.out 0;have hfz9_1:=δm BK216.out 1;have hcz10_0:w4.cell? ⟨gb215,0,none⟩=some (.int .i64 0):=(δl BK215.out 0).trans rfl;have hcz10_1:w4.cell? ⟨gb215,1,none⟩=some (.string (⟨#[]⟩:ByteArray)):=(δl BK215.out 1).trans rfl;have hfz10_0:=δm BK215.out 0;have hfz10_1:=δm BK215.out 1))
 refine bodyPost_ret (results_cell_row rfl _ _ gb215 39 #[.int .i64 a0_0,.string a0_1] (0,0) _ rfl (by refine δw (cs:=#[.int .i64 a0_0,.string (⟨#[]⟩:ByteArray)]) ?_ 1 _ rfl;refine δw (cs:=#[.int .i64 0,.string (⟨#[]⟩:ByteArray)]) ?_ 0 _ rfl;refine blk_far ?_ NB215_216.out _;refine blk_far ?_ NB215_216.out _;exact BK215.out) Try.underlying39 rfl (by kernel_rfl)) rfl ?_
 exact ⟨by rfl,by repeat ((with_reducible first|exact HB.out|refine δq ?_ GE215.out|refine δq ?_ GE216.out))⟩


open Go.Proofs.YtggemblkhckbpaaW.PrintWords renaming gate_dst → δx, below_size → δs, below_step → δr, gate_callee → δv, below_set → δq
open Go.Proofs.YtggemblkhckbpaaW.PrintWords.Kd renaming R_below → ζh
open Bool renaming false → φ
set_option maxHeartbeats 8000000
set_option maxRecDepth 100000

/-! ### laws_toStateS: function 47 -/
def laws_toStateS.l0:Nat→List (S98)→List (S39)→Int→Option ((List (S39)))
 | 0,_,_,_=>none
 | k+1,x0,x3,x4=>if x4<(x0.length:Int) then (if 0≤x4 then ((laws_toState.f ((rd_T98 x0 x4).f0) ((rd_T98 x0 x4).f1)).bind fun bt221=>(if x4<(x3.length:Int) then (laws_toStateS.l0 k x0 (x3.set (x4:Int).toNat (⟨bt221.1,bt221.2⟩:S39)) (ζm (x4+1))) else (none))) else (none)) else (some x3)
def laws_toStateS.f (k:Nat) (l0:List (S98)):Option ((List (S39))):=if 0≤(l0.length:Int) then (if ((l0.length:Int):Int).toNat≤11728124029610 then (laws_toStateS.l0 k l0 (List.replicate ((l0.length:Int):Int).toNat z39) 0) else (none)) else (none)
theorem laws_toStateS.calls (k:Nat) (A0:Option Addr) (c0:Nat) (l0:List (S98)) (r:List (S39)) (w:World) (hr0:Kd.C k98 w A0 l0.length l0) (hc0:l0.length≤c0) (h:laws_toStateS.f k l0=some r) :
  Calls Try.prog 47 #[.slice A0 l0.length c0] w fun e w' => ∃ v0_:Value,e = .returned (v0_)∧Kd.R k39 39 w' w.heap.size (fun _=>True) v0_ r∧Below w.heap.size w w':=by
 have hu98:=Try.underlying98
 have hu39:=Try.underlying39
 have HR0:=ζa hr0
 have HC0:=ζa hc0
 clear hr0 hc0
 have HB:=ζa (Below.refl w.heap.size w)
 have H:(if 0≤(l0.length:Int) then (if ((l0.length:Int):Int).toNat≤11728124029610 then (laws_toStateS.l0 k l0 (List.replicate ((l0.length:Int):Int).toNat z39) 0) else (none)) else (none))=some r:=h
 clear h
 by_cases c2:0≤(l0.length:Int)
 ·
  rw [if_pos c2] at H
  have c2b0:=eq_true c2
  have c2b1:=decide_eq_true c2
  clear c2
  by_cases c3:((l0.length:Int):Int).toNat≤11728124029610
  ·
   rw [if_pos c3] at H
   have c3b0:=eq_true c3
   have c3b1:=decide_eq_true c3
   clear c3
   obtain ⟨y217,hy217⟩ : ∃ y_:List (S39),y_=(List.replicate ((l0.length:Int):Int).toNat z39):=⟨_,rfl⟩
   replace H:(laws_toStateS.l0 k l0 y217 0)=some r:=by (rw [hy217];with_reducible exact H)
   have Ny217:=ζa hy217
   clear hy217
   have H':=ζa H
   clear H
   go_enter Try.func47,Try.ntmps47
   go_wp2_with (((with_reducible refine δx (N:=7) rfl ?_);refine Kd.R_make k39 _ 39 rfl (N:=7) rfl 23 _ _ rfl (l0.length:Int) rfl rfl Try.underlying23 (.agg #[(.int .i64 0),(.string ⟨#[]⟩)]) 24 info39 rfl (by decide) (by omega) z39 (ok:=fun _=>True) (okp:=fun _=>True) (k39_mkM _ _ _ z39 ) (fun _ hk=>hk) trivial (of_decide_eq_true (by (with_reducible assumption))) (Nat.le_trans (Nat.mul_le_mul_right _ (of_decide_eq_true (by (with_reducible assumption)):(l0.length:Int).toNat≤11728124029610)) (by omega)) (Below.refl _ _) (Nat.le_refl _) ?_;intro v218 w4 ho5 hb hg_ hnew_;clear hg_ hnew_;(rw [← Ny217.out] at ho5);have HO219:=ζa (Kd.R_lower ho5 (δs (by exact HB.out)));replace HB:=ζa (δr (by exact HB.out) hb);clear hb ho5))
   go_loopg [4] k (fun kq v4 w' => ∃ (x3_1:List (S39)) (x4_1:Int),v4 = .int .i64 x4_1∧Aside0 (laws_toStateS.l0 kq l0 x3_1 x4_1=some r)∧Aside0 (kq≤k)∧Aside0 (Kd.R k39 39 w' w.heap.size (fun _=>True) v218 x3_1)∧Aside0 (Below w.heap.size w w'))
   case atStart=>exact ⟨(y217),(0),(by rfl),H',⟨Nat.le_refl _⟩,⟨by exact HO219.out⟩,⟨by repeat ((with_reducible exact HB.out))⟩⟩
   case round =>
    clear H'
    try clear c2
    try clear c2b0
    try clear c2b1
    try clear p2
    try clear c3
    try clear c3b0
    try clear c3b1
    try clear c4
    obtain ⟨x3_1,x4_1,rfl,HA,HK1,HO_3,HB⟩:=hrel
    cases gk with
    | zero=>exact absurd HA.out (by simp [laws_toStateS.l0])
    | succ k1 =>
     have H:=HA.out
     clear HA
     simp only [laws_toStateS.l0] at H
     by_cases c6:x4_1<(l0.length:Int)
     ·
      rw [if_pos c6] at H
      have c6b0:=decide_eq_true c6
      clear c6
      by_cases c7:0≤x4_1
      ·
       rw [if_pos c7] at H
       have c7b0:=decide_eq_true c7
       clear c7
       obtain ⟨⟨t221,t222⟩,A8,H⟩:=bsm H
       dsimp only at H
       by_cases c9:x4_1<(x3_1.length:Int)
       ·
        rw [if_pos c9] at H
        have c9b0:=decide_eq_true c9
        clear c9
        obtain ⟨y223,hy223⟩ : ∃ y_:List (S39),y_=(x3_1.set (x4_1:Int).toNat (⟨t221,t222⟩:S39)):=⟨_,rfl⟩
        replace H:(laws_toStateS.l0 k1 l0 y223 (ζm (x4_1+1)))=some r:=by (rw [hy223];with_reducible exact H)
        have Ny223:=ζa hy223
        clear hy223
        have H':=ζa H
        clear H
        have p220:0≤(x4_1:Int):=of_decide_eq_true (by (with_reducible assumption))
        have q220:x4_1<(l0.length:Int):=of_decide_eq_true (by (with_reducible assumption))
        obtain ⟨ad220,e220,hx220_0,hx220_1⟩:=at_T98 HR0.out x4_1 p220 q220
        cases e220
        replace hx220_0:=(HB.out.cell (World.block_lt_of_cell? w _ hx220_0)).trans hx220_0
        replace hx220_1:=(HB.out.cell (World.block_lt_of_cell? w _ hx220_1)).trans hx220_1
        replace p220:=eq_true p220
        replace q220:=eq_true q220
        go_wp2_with (first|((with_reducible refine δv (f:=71) rfl ?_);refine gl 20 Try.func71 #[.agg #[.int .i64 ((rd_T98 l0 x4_1).f0),.string ((rd_T98 l0 x4_1).f1)]] ?_;(with_reducible refine (laws_toState.calls ((rd_T98 l0 x4_1).f0) ((rd_T98 l0 x4_1).f1) t221 t222 _ A8.out).mono ?_);rintro e w11 ⟨rfl,hb⟩;refine ⟨_,rfl,?_⟩;replace HO_3:=ζa (ζh (by exact HO_3.out) hb);replace HB:=ζa (δr (by exact HB.out) hb);(try clear hb);(try clear hb2);(try clear hk);(try clear hi);have p10:0≤(x4_1:Int):=of_decide_eq_true (by (with_reducible assumption));have q10:(x4_1:Int)<((x3_1.length:Int):Int):=of_decide_eq_true (by (with_reducible assumption));obtain ⟨go10,co10,eo10,gb10,gl10,cl10,HG10⟩:=Kd.R_form HO_3.out (by omega);(cases eo10);have GB10:=ζa gb10;have GG10:=ζa HG10;clear gb10 gl10 HG10;obtain ⟨ce10,hcl10,hM10,hcc10,hfr10⟩:=Kd.R_elem HO_3.out z39 (x4_1:Int) p10 q10;obtain rfl:=k39_openM hM10;have hx10_0:w11.cell? ⟨go10,(x4_1:Int).toNat * 2,none⟩=some (.int .i64 ((rd_T39 x3_1 x4_1).f0)):=hcc10 0 _ rfl;have hx10_1:w11.cell? ⟨go10,(x4_1:Int).toNat * 2+1,none⟩=some (.string ((rd_T39 x3_1 x4_1).f1)):=hcc10 1 _ rfl;have hf10_0:w11.frozen? ⟨go10,(x4_1:Int).toNat * 2,none⟩=φ:=hfr10 0;have hf10_1:w11.frozen? ⟨go10,(x4_1:Int).toNat * 2+1,none⟩=φ:=hfr10 1;clear hcl10 hcc10 hfr10 hM10;replace p10:=eq_true p10;replace q10:=eq_true q10;have HX12:=ζa (show Kd.R k39 39 w11 w.heap.size (fun _=>True) (.slice (some ⟨go10,0,none⟩) x3_1.length co10) x3_1 from (by exact HO_3.out));obtain ⟨ce12,hcl12,hM12,hcc12,hfr12⟩:=Kd.R_elem HX12.out z39 (x4_1:Int) (of_decide_eq_true (by (with_reducible assumption))) (by have h_:(x4_1:Int)<((x3_1.length:Int):Int):=of_decide_eq_true (by (with_reducible assumption));exact h_);obtain rfl:=k39_openM hM12;have HP12:=Kd.R_seg HX12.out (x4_1:Int) (of_decide_eq_true (by (with_reducible assumption))) (by have h_:(x4_1:Int)<((x3_1.length:Int):Int):=of_decide_eq_true (by (with_reducible assumption));exact h_) (seg:=[.int .i64 t221,.string t222]) (j:=0) hcl12 hcc12 (show 2≤2 from by decide) (x':=(⟨t221,t222⟩:S39)) (k39_mkM _ _ _ (⟨t221,t222⟩:S39) ) (fun _ hk=>hk);have hx12_0:=hcc12 0 _ rfl;(try simp only [show (k39).sz=2 from rfl,Nat.mul_one,Nat.add_zero] at hx12_0);have hf12_0:=hfr12 0;(try simp only [show (k39).sz=2 from rfl,Nat.mul_one,Nat.add_zero] at hf12_0);have hx12_1:=hcc12 1 _ rfl;(try simp only [show (k39).sz=2 from rfl,Nat.mul_one,Nat.add_zero] at hx12_1);have hf12_1:=hfr12 1;(try simp only [show (k39).sz=2 from rfl,Nat.mul_one,Nat.add_zero] at hf12_1);clear hcl12 hcc12 hfr12 hM12)|((with_reducible refine gate_store (t:=39) (p:=21) rfl ?_);refine store_event (t:=39) (p:=21) (v:=?vo_w13) (w1:=((w11.setCell ⟨go10,(x4_1:Int).toNat * 2,none⟩ (.int .i64 t221)).setCell ⟨go10,(x4_1:Int).toNat * 2+1,none⟩ (.string t222))) ?hg ?ho ?hn ?hr ?_;(case ho=>rfl);(case hg=>rfl);(case hn=>rfl);(case hr=>(go_simp;done));intro w13 hw;have hg:w11.grownBy w13 (some go10):=(by rw [hw];exact HP12.2);have hp_:Kd.R k39 39 w13 w.heap.size (fun _=>True) (.slice (some ⟨go10,0,none⟩) x3_1.length co10) y223:=(by rw [hw,Ny223.out];exact HP12.1);clear HP12;replace HO_3:=ζa (hp_);replace HB:=ζa ((by rw [hw];exact δq (δq (HB.out) GB10.out) GB10.out:Below w.heap.size w w13));clear hg hw hp_))
        go_roundg k1
        case measure=>have:=HK1.out;omega
        case rel=>exact ⟨(y223),(ζm (x4_1+1)),(by rfl),H',⟨by have:=HK1.out;omega⟩,⟨by exact HO_3.out⟩,⟨by repeat ((with_reducible exact HB.out))⟩⟩
       ·
        rw [if_neg c9] at H
        exact absurd H (by simp)
      ·
       rw [if_neg c7] at H
       exact absurd H (by simp)
     ·
      rw [if_neg c6] at H
      have c6b0:=decide_eq_false c6
      clear c6
      obtain rfl:=Option.some.inj H
      go_wp2
      go_ret
      exact ⟨_,by rfl,by exact HO_3.out,by repeat ((with_reducible exact HB.out))⟩
  ·
   rw [if_neg c3] at H
   exact absurd H (by simp)
 ·
  rw [if_neg c2] at H
  exact absurd H (by simp)


open Go.Proofs.YtggemblkhckbpaaW.PrintWords renaming gate_dst → δx, below_step → δr, blk_cell → δl, blk_frozen → δm, gate_callee → δv, below_set → δq, below_size → δs, blk_put → δw
open Go.Proofs.YtggemblkhckbpaaW.PrintWords.Kd renaming R_far → ζi
set_option maxHeartbeats 8000000
set_option maxRecDepth 100000

/-! ### laws_toClient: function 19 -/
def laws_toClient.f (k:Nat) (a0_0:ByteArray) (l0_1:List (S98)):Option (ByteArray × (List (S39))):=(laws_toStateS.f k l0_1).bind fun t227=>(some (a0_0,t227))
theorem laws_toClient.calls (k:Nat) (a0_0:ByteArray) (A0_1:Option Addr) (c0_1:Nat) (l0_1:List (S98)) (r1:ByteArray) (r2:List (S39)) (w:World) (hr0_1:Kd.C k98 w A0_1 l0_1.length l0_1) (hc0_1:l0_1.length≤c0_1) (h:laws_toClient.f k a0_0 l0_1=some (r1,r2)) :
  Calls Try.prog 19 #[.agg #[.string a0_0,.slice A0_1 l0_1.length c0_1]] w fun e w' => ∃ v1_:Value,e = .returned (.agg #[.string r1,v1_])∧Kd.R k39 39 w' w.heap.size (fun _=>True) v1_ r2∧Below w.heap.size w w':=by
 have hu45:=Try.underlying45
 have hu25:=Try.underlying25
 have HR0_1:=ζa hr0_1
 have HC0_1:=ζa hc0_1
 clear hr0_1 hc0_1
 have HB:=ζa (Below.refl w.heap.size w)
 have H:((laws_toStateS.f k l0_1).bind fun t227=>(some (a0_0,t227)))=some (r1,r2):=h
 clear h
 obtain ⟨t227,A2,H⟩:=bsm H
 simp only [Option.some.injEq,Prod.mk.injEq] at H
 obtain ⟨rfl,rfl⟩:=H
 go_enter Try.func19,Try.ntmps19
 go_wp2_with (first|((with_reducible refine δx (N:=1) rfl ?_);refine bev 1 #[.string a0_0,.slice A0_1 l0_1.length c0_1] 45 ?_;intro gb224 hg w3 hbox hb;have BK224:=ζa (hbox);have GW224:=ζa (gbw hg (by exact HB.out));have GE224:=ζa (gbw hg (by exact HB.out));replace HB:=ζa (δr (by exact HB.out) hb);clear hb hbox hg)|((with_reducible refine δx (N:=2) rfl ?_);refine bev 2 #[.string (⟨#[]⟩:ByteArray),.slice none 0 0] 25 ?_;intro gb225 hg w4 hbox hb;have BK225:=ζa (hbox);have GW225:=ζa (gbw hg (by exact HB.out));have GE225:=ζa (gbw hg (by exact HB.out));replace HB:=ζa (δr (by exact HB.out) hb);have NB224_225:=ζa ((by rw [hg];exact Nat.ne_of_lt (blk_lt (g:=gb224) (o:=.cells #[.string a0_0,.slice A0_1 l0_1.length c0_1] 45 (0,0)) (by exact BK224.out)):gb224≠gb225));have NB225_224:=ζa ((by rw [hg];exact Nat.ne_of_gt (blk_lt (g:=gb224) (o:=.cells #[.string a0_0,.slice A0_1 l0_1.length c0_1] 45 (0,0)) (by exact BK224.out)):gb225≠gb224));replace BK224:=ζa (blk_below (g:=gb224) (o:=.cells #[.string a0_0,.slice A0_1 l0_1.length c0_1] 45 (0,0)) (by exact BK224.out) hb);clear hb hbox hg)|((with_reducible refine δx (N:=3) rfl ?_);refine bev 3 #[.string (⟨#[]⟩:ByteArray),.slice none 0 0] 25 ?_;intro gb226 hg w5 hbox hb;have BK226:=ζa (hbox);have GW226:=ζa (gbw hg (by exact HB.out));have GE226:=ζa (gbw hg (by exact HB.out));replace HB:=ζa (δr (by exact HB.out) hb);have NB224_226:=ζa ((by rw [hg];exact Nat.ne_of_lt (blk_lt (g:=gb224) (o:=.cells #[.string a0_0,.slice A0_1 l0_1.length c0_1] 45 (0,0)) (by exact BK224.out)):gb224≠gb226));have NB226_224:=ζa ((by rw [hg];exact Nat.ne_of_gt (blk_lt (g:=gb224) (o:=.cells #[.string a0_0,.slice A0_1 l0_1.length c0_1] 45 (0,0)) (by exact BK224.out)):gb226≠gb224));replace BK224:=ζa (blk_below (g:=gb224) (o:=.cells #[.string a0_0,.slice A0_1 l0_1.length c0_1] 45 (0,0)) (by exact BK224.out) hb);have NB225_226:=ζa ((by rw [hg];exact Nat.ne_of_lt (blk_lt (g:=gb225) (o:=.cells #[.string (⟨#[]⟩:ByteArray),.slice none 0 0] 25 (0,0)) (by exact BK225.out)):gb225≠gb226));have NB226_225:=ζa ((by rw [hg];exact Nat.ne_of_gt (blk_lt (g:=gb225) (o:=.cells #[.string (⟨#[]⟩:ByteArray),.slice none 0 0] 25 (0,0)) (by exact BK225.out)):gb226≠gb225));replace BK225:=ζa (blk_below (g:=gb225) (o:=.cells #[.string (⟨#[]⟩:ByteArray),.slice none 0 0] 25 (0,0)) (by exact BK225.out) hb);clear hb hbox hg;have hnb6:=NB224_225.out;have hnc6:=NB225_224.out;have hnb7:=NB224_226.out;have hnc7:=NB226_224.out;have hcz8_0:w5.cell? ⟨gb224,0,none⟩=some (.string a0_0):=(δl BK224.out 0).trans rfl;have hcz8_1:w5.cell? ⟨gb224,1,none⟩=some (.slice A0_1 l0_1.length c0_1):=(δl BK224.out 1).trans rfl;have hfz8_0:=δm BK224.out 0;have hfz8_1:=δm BK224.out 1;have hnb9:=NB226_225.out;have hnc9:=NB225_226.out;have hcz10_0:w5.cell? ⟨gb226,0,none⟩=some (.string (⟨#[]⟩:ByteArray)):=(δl BK226.out 0).trans rfl;have hcz10_1:w5.cell? ⟨gb226,1,none⟩=some (.slice none 0 0):=(δl BK226.out 1).trans rfl;have hfz10_0:=δm BK226.out 0;have hfz10_1:=δm BK226.out 1)|((with_reducible refine δv (f:=47) rfl ?_);refine gl 9 Try.func47 #[.slice A0_1 l0_1.length c0_1] ?_;(with_reducible refine (laws_toStateS.calls k _ _ l0_1 t227 _ ?side1 ?side2 A2.out).mono ?_);(case side1=>exact Kd.C_below HR0_1.out (by repeat ((with_reducible first|exact HB.out|refine δq ?_ GE226.out))));(case side2=>exact HC0_1.out);rintro e w11 ⟨v228,rfl,ho0,hb⟩;refine ⟨_,rfl,?_⟩;have HO229:=ζa (Kd.R_lower ho0 (δs (by repeat ((with_reducible first|exact HB.out|refine δq ?_ GE226.out)))));replace BK224:=ζa (blk_below (g:=gb224) (o:=.cells #[.string a0_0,.slice A0_1 l0_1.length c0_1] 45 (0,0)) (by refine blk_far ?_ NB224_226.out _;exact BK224.out) hb);replace BK225:=ζa (blk_below (g:=gb225) (o:=.cells #[.string (⟨#[]⟩:ByteArray),.slice none 0 0] 25 (0,0)) (by refine blk_far ?_ NB225_226.out _;exact BK225.out) hb);replace BK226:=ζa (blk_below (g:=gb226) (o:=.cells #[.string a0_0,.slice none 0 0] 25 (0,0)) (by refine δw (cs:=#[.string (⟨#[]⟩:ByteArray),.slice none 0 0]) ?_ 0 _ rfl;exact BK226.out) hb);replace HB:=ζa (δr (by repeat ((with_reducible first|exact HB.out|refine δq ?_ GE226.out))) hb);(try clear hb);(try clear hb2);(try clear hk);(try clear hi);(try clear ho0);obtain ⟨Ao12,co12,eo12⟩:=Kd.R_slice HO229.out;subst eo12;have hcz13_0:w11.cell? ⟨gb226,0,none⟩=some (.string a0_0):=(δl BK226.out 0).trans rfl;have hcz13_1:w11.cell? ⟨gb226,1,none⟩=some (.slice none 0 0):=(δl BK226.out 1).trans rfl;have hfz13_0:=δm BK226.out 0;have hfz13_1:=δm BK226.out 1;have hcz14_0:w11.cell? ⟨gb225,0,none⟩=some (.string (⟨#[]⟩:ByteArray)):=(δl BK225.out 0).trans rfl;have hcz14_1:w11.cell? ⟨gb225,1,none⟩=some (.slice none 0 0):=(δl BK225.out 1).trans rfl;have hfz14_0:=δm BK225.out 0;have hfz14_1:=δm BK225.out 1))
 refine bodyPost_ret (results_cell_row rfl _ _ gb225 25 #[.string a0_0,.slice Ao12 t227.length co12] (0,0) _ rfl (by refine δw (cs:=#[.string a0_0,.slice none 0 0]) ?_ 1 _ rfl;refine δw (cs:=#[.string (⟨#[]⟩:ByteArray),.slice none 0 0]) ?_ 0 _ rfl;refine blk_far ?_ NB225_226.out _;exact BK225.out) Try.underlying25 rfl (by kernel_rfl)) rfl ?_
 exact ⟨_,by rfl,by exact Kd.R_mono (ζi (p:=⟨gb225,1,none⟩) (ζi (p:=⟨gb225,0,none⟩) (ζi (p:=⟨gb226,1,none⟩) (Kd.R_types (Kd.R_types HO229.out BK226.out (by decide)) BK225.out (by decide)) (fun _ hk=>hk.1.2) (.slice Ao12 t227.length co12)) (fun _ hk=>hk.2) (.string a0_0)) (fun _ hk=>hk.2) (.slice Ao12 t227.length co12)) (fun _ hk=>trivial),by repeat ((with_reducible first|exact HB.out|refine δq ?_ GE225.out|refine δq ?_ GE226.out))⟩


set_option maxHeartbeats 8000000
set_option maxRecDepth 100000

/-! ### laws_toHeader: function 20 -/
def laws_toHeader.f (a0_0:Int) (a0_1:Int) (a0_2:ByteArray) (a0_3:ByteArray):Option (Int × Int × ByteArray × ByteArray):=some (a0_0,a0_1,a0_2,a0_3)
theorem laws_toHeader.calls (a0_0:Int) (a0_1:Int) (a0_2:ByteArray) (a0_3:ByteArray) (r1:Int) (r2:Int) (r3:ByteArray) (r4:ByteArray) (w:World) (h:laws_toHeader.f a0_0 a0_1 a0_2 a0_3=some (r1,r2,r3,r4)) :
  Calls Try.prog 20 #[.agg #[.int .i64 a0_0,.int .i64 a0_1,.string a0_2,.string a0_3]] w fun e w'=>e = .returned (.agg #[.int .i64 r1,.int .i64 r2,.string r3,.string r4])∧Below w.heap.size w w':=by
 have hu46:=Try.underlying46
 have hu28:=Try.underlying28
 have HB:=ζa (Below.refl w.heap.size w)
 have H:(some (a0_0,a0_1,a0_2,a0_3))=some (r1,r2,r3,r4):=h
 clear h
 simp only [Option.some.injEq,Prod.mk.injEq] at H
 obtain ⟨rfl,rfl,rfl,rfl⟩:=H
 go_enter Try.func20,Try.ntmps20
 go_wp2_with (first|((with_reducible refine δx (N:=1) rfl ?_);refine bev 1 #[.int .i64 a0_0,.int .i64 a0_1,.string a0_2,.string a0_3] 46 ?_;intro gb230 hg w2 hbox hb;have BK230:=ζa (hbox);have GW230:=ζa (gbw hg (by exact HB.out));have GE230:=ζa (gbw hg (by exact HB.out));replace HB:=ζa (δr (by exact HB.out) hb);clear hb hbox hg)|((with_reducible refine δx (N:=2) rfl ?_);refine bev 2 #[.int .i64 0,.int .i64 0,.string (⟨#[]⟩:ByteArray),.string (⟨#[]⟩:ByteArray)] 28 ?_;intro gb231 hg w3 hbox hb;have BK231:=ζa (hbox);have GW231:=ζa (gbw hg (by exact HB.out));have GE231:=ζa (gbw hg (by exact HB.out));replace HB:=ζa (δr (by exact HB.out) hb);have NB230_231:=ζa ((by rw [hg];exact Nat.ne_of_lt (blk_lt (g:=gb230) (o:=.cells #[.int .i64 a0_0,.int .i64 a0_1,.string a0_2,.string a0_3] 46 (0,0)) (by exact BK230.out)):gb230≠gb231));have NB231_230:=ζa ((by rw [hg];exact Nat.ne_of_gt (blk_lt (g:=gb230) (o:=.cells #[.int .i64 a0_0,.int .i64 a0_1,.string a0_2,.string a0_3] 46 (0,0)) (by exact BK230.out)):gb231≠gb230));replace BK230:=ζa (blk_below (g:=gb230) (o:=.cells #[.int .i64 a0_0,.int .i64 a0_1,.string a0_2,.string a0_3] 46 (0,0)) (by exact BK230.out) hb);clear hb hbox hg)|((with_reducible refine δx (N:=3) rfl ?_);refine bev 3 #[.int .i64 0,.int .i64 0,.string (⟨#[]⟩:ByteArray),.string (⟨#[]⟩:ByteArray)] 28 ?_;intro gb232 hg w4 hbox hb;have BK232:=ζa (hbox);have GW232:=ζa (gbw hg (by exact HB.out));have GE232:=ζa (gbw hg (by exact HB.out));replace HB:=ζa (δr (by exact HB.out) hb);have NB230_232:=ζa ((by rw [hg];exact Nat.ne_of_lt (blk_lt (g:=gb230) (o:=.cells #[.int .i64 a0_0,.int .i64 a0_1,.string a0_2,.string a0_3] 46 (0,0)) (by exact BK230.out)):gb230≠gb232));have NB232_230:=ζa ((by rw [hg];exact Nat.ne_of_gt (blk_lt (g:=gb230) (o:=.cells #[.int .i64 a0_0,.int .i64 a0_1,.string a0_2,.string a0_3] 46 (0,0)) (by exact BK230.out)):gb232≠gb230));replace BK230:=ζa (blk_below (g:=gb230) (o:=.cells #[.int .i64 a0_0,.int .i64 a0_1,.string a0_2,.string a0_3] 46 (0,0)) (by exact BK230.out) hb);have NB231_232:=ζa ((by rw [hg];exact Nat.ne_of_lt (blk_lt (g:=gb231) (o:=.cells #[.int .i64 0,.int .i64 0,.string (⟨#[]⟩:ByteArray),.string (⟨#[]⟩:ByteArray)] 28 (0,0)) (by exact BK231.out)):gb231≠gb232));have NB232_231:=ζa ((by rw [hg];exact Nat.ne_of_gt (blk_lt (g:=gb231) (o:=.cells #[.int .i64 0,.int .i64 0,.string (⟨#[]⟩:ByteArray),.string (⟨#[]⟩:ByteArray)] 28 (0,0)) (by exact BK231.out)):gb232≠gb231));replace BK231:=ζa (blk_below (g:=gb231) (o:=.cells #[.int .i64 0,.int .i64 0,.string (⟨#[]⟩:ByteArray),.string (⟨#[]⟩:ByteArray)] 28 (0,0)) (by exact BK231.out) hb);clear hb hbox hg;have hnb5:=NB230_231.out;have hnc5:=NB231_230.out;have hnb6:=NB230_232.out;have hnc6:=NB232_230.out;have hcz7_0:w4.cell? ⟨gb230,0,none⟩=some (.int .i64 a0_0):=(δl BK230.out 0).trans rfl;have hcz7_1:w4.cell? ⟨gb230,1,none⟩=some (.int .i64 a0_1):=(δl BK230.out 1).trans rfl;have hcz7_2:w4.cell? ⟨gb230,2,none⟩=some (.string a0_2):=(δl BK230.out 2).trans rfl;have hcz7_3:w4.cell? ⟨gb230,3,none⟩=some (.string a0_3):=(δl BK230.out 3).trans rfl;have hfz7_0:=δm BK230.out 0;have hfz7_1:=δm BK230.out 1;have hfz7_2:=δm BK230.out 2;have hfz7_3:=δm BK230.out 3;have hnb8:=NB232_231.out;have hnc8:=NB231_232.out;have hcz9_0:w4.cell? ⟨gb232,0,none⟩=some (.int .i64 0):=(δl BK232.out 0).trans rfl;have hcz9_1:w4.cell? ⟨gb232,1,none⟩=some (.int .i64 0):=(δl BK232.out 1).trans rfl;have hcz9_2:w4.cell? ⟨gb232,2,none⟩=some (.string (⟨#[]⟩:ByteArray)):=(δl BK232.out 2).trans rfl;have hcz9_3:w4.cell? ⟨gb232,3,none⟩=some (.string (⟨#[]⟩:ByteArray)):=(δl BK232.out 3).trans rfl;have hfz9_0:=δm BK232.out 0;have hfz9_1:=δm BK232.out 1;have hfz9_2:=δm BK232.out 2;have hfz9_3:=δm BK232.out 3;have hcz10_0:w4.cell? ⟨gb231,0,none⟩=some (.int .i64 0):=(δl BK231.out 0).trans rfl;have hcz10_1:w4.cell? ⟨gb231,1,none⟩=some (.int .i64 0):=(δl BK231.out 1).trans rfl;have hcz10_2:w4.cell? ⟨gb231,2,none⟩=some (.string (⟨#[]⟩:ByteArray)):=(δl BK231.out 2).trans rfl;have hcz10_3:w4.cell? ⟨gb231,3,none⟩=some (.string (⟨#[]⟩:ByteArray)):=(δl BK231.out 3).trans rfl;have hfz10_0:=δm BK231.out 0;have hfz10_1:=δm BK231.out 1;have hfz10_2:=δm BK231.out 2;have hfz10_3:=δm BK231.out 3))
 refine bodyPost_ret (results_cell_row rfl _ _ gb231 28 #[.int .i64 a0_0,.int .i64 a0_1,.string a0_2,.string a0_3] (0,0) _ rfl (by refine δw (cs:=#[.int .i64 a0_0,.int .i64 a0_1,.string a0_2,.string (⟨#[]⟩:ByteArray)]) ?_ 3 _ rfl;refine δw (cs:=#[.int .i64 a0_0,.int .i64 a0_1,.string (⟨#[]⟩:ByteArray),.string (⟨#[]⟩:ByteArray)]) ?_ 2 _ rfl;refine δw (cs:=#[.int .i64 a0_0,.int .i64 0,.string (⟨#[]⟩:ByteArray),.string (⟨#[]⟩:ByteArray)]) ?_ 1 _ rfl;refine δw (cs:=#[.int .i64 0,.int .i64 0,.string (⟨#[]⟩:ByteArray),.string (⟨#[]⟩:ByteArray)]) ?_ 0 _ rfl;refine blk_far ?_ NB231_232.out _;refine blk_far ?_ NB231_232.out _;refine blk_far ?_ NB231_232.out _;refine blk_far ?_ NB231_232.out _;exact BK231.out) Try.underlying28 rfl (by kernel_rfl)) rfl ?_
 exact ⟨by rfl,by repeat ((with_reducible first|exact HB.out|refine δq ?_ GE231.out|refine δq ?_ GE232.out))⟩


open Go.Proofs.YtggemblkhckbpaaW.PrintWords renaming gate_dst → δx, below_step → δr, blk_cell → δl, blk_frozen → δm
set_option maxHeartbeats 8000000
set_option maxRecDepth 100000

/-! ### laws_eqState: function 72 -/
def laws_eqState.f (a0_0:Int) (a0_1:ByteArray) (a1_0:Int) (a1_1:ByteArray):Option (Bool):=if a0_0=a1_0 then (if a0_1.toList=a1_1.toList then (some τ) else (some φ)) else (some φ)
theorem laws_eqState.calls (a0_0:Int) (a0_1:ByteArray) (a1_0:Int) (a1_1:ByteArray) (r:Bool) (w:World) (h:laws_eqState.f a0_0 a0_1 a1_0 a1_1=some r) :
  Calls Try.prog 72 #[.agg #[.int .i64 a0_0,.string a0_1],.agg #[.int .i64 a1_0,.string a1_1]] w fun e w'=>e = .returned (.bool r)∧Below w.heap.size w w':=by
 have hu39:=Try.underlying39
 have HB:=ζa (Below.refl w.heap.size w)
 have H:(if a0_0=a1_0 then (if a0_1.toList=a1_1.toList then (some τ) else (some φ)) else (some φ))=some r:=h
 clear h
 by_cases c3:a0_0=a1_0
 ·
  rw [if_pos c3] at H
  have c3b0:=beq_iff_eq.mpr c3
  have c3b1:=bne_eq_false_iff_eq.mpr c3
  clear c3
  by_cases c4:a0_1.toList=a1_1.toList
  ·
   rw [if_pos c4] at H
   have c4b0:=beq_iff_eq.mpr c4
   have c4b1:=bne_eq_false_iff_eq.mpr c4
   clear c4
   obtain rfl:=Option.some.inj H
   go_enter Try.func72,Try.ntmps72
   go_wp2_with (first|((with_reducible refine δx (N:=2) rfl ?_);refine bev 2 #[.int .i64 a0_0,.string a0_1] 39 ?_;intro gb233 hg w5 hbox hb;have BK233:=ζa (hbox);have GW233:=ζa (gbw hg (by exact HB.out));have GE233:=ζa (gbw hg (by exact HB.out));replace HB:=ζa (δr (by exact HB.out) hb);clear hb hbox hg)|((with_reducible refine δx (N:=3) rfl ?_);refine bev 3 #[.int .i64 a1_0,.string a1_1] 39 ?_;intro gb234 hg w6 hbox hb;have BK234:=ζa (hbox);have GW234:=ζa (gbw hg (by exact HB.out));have GE234:=ζa (gbw hg (by exact HB.out));replace HB:=ζa (δr (by exact HB.out) hb);have NB233_234:=ζa ((by rw [hg];exact Nat.ne_of_lt (blk_lt (g:=gb233) (o:=.cells #[.int .i64 a0_0,.string a0_1] 39 (0,0)) (by exact BK233.out)):gb233≠gb234));have NB234_233:=ζa ((by rw [hg];exact Nat.ne_of_gt (blk_lt (g:=gb233) (o:=.cells #[.int .i64 a0_0,.string a0_1] 39 (0,0)) (by exact BK233.out)):gb234≠gb233));replace BK233:=ζa (blk_below (g:=gb233) (o:=.cells #[.int .i64 a0_0,.string a0_1] 39 (0,0)) (by exact BK233.out) hb);clear hb hbox hg;have hnb7:=NB233_234.out;have hnc7:=NB234_233.out;have hcz8_0:w6.cell? ⟨gb233,0,none⟩=some (.int .i64 a0_0):=(δl BK233.out 0).trans rfl;have hcz8_1:w6.cell? ⟨gb233,1,none⟩=some (.string a0_1):=(δl BK233.out 1).trans rfl;have hfz8_0:=δm BK233.out 0;have hfz8_1:=δm BK233.out 1;have hcz9_0:w6.cell? ⟨gb234,0,none⟩=some (.int .i64 a1_0):=(δl BK234.out 0).trans rfl;have hcz9_1:w6.cell? ⟨gb234,1,none⟩=some (.string a1_1):=(δl BK234.out 1).trans rfl;have hfz9_0:=δm BK234.out 0;have hfz9_1:=δm BK234.out 1))
   go_ret
   exact ⟨by rfl,by repeat ((with_reducible exact HB.out))⟩
  ·
   rw [if_neg c4] at H
   have c4b0:=beq_eq_false_iff_ne.mpr c4
   have c4b1:=bne_iff_ne.mpr c4
   obtain rfl:=Option.some.inj H
   go_enter Try.func72,Try.ntmps72
   go_wp2_with (first|((with_reducible refine δx (N:=2) rfl ?_);refine bev 2 #[.int .i64 a0_0,.string a0_1] 39 ?_;intro gb233 hg w10 hbox hb;have BK233:=ζa (hbox);have GW233:=ζa (gbw hg (by exact HB.out));have GE233:=ζa (gbw hg (by exact HB.out));replace HB:=ζa (δr (by exact HB.out) hb);clear hb hbox hg)|((with_reducible refine δx (N:=3) rfl ?_);refine bev 3 #[.int .i64 a1_0,.string a1_1] 39 ?_;intro gb234 hg w11 hbox hb;have BK234:=ζa (hbox);have GW234:=ζa (gbw hg (by exact HB.out));have GE234:=ζa (gbw hg (by exact HB.out));replace HB:=ζa (δr (by exact HB.out) hb);have NB233_234:=ζa ((by rw [hg];exact Nat.ne_of_lt (blk_lt (g:=gb233) (o:=.cells #[.int .i64 a0_0,.string a0_1] 39 (0,0)) (by exact BK233.out)):gb233≠gb234));have NB234_233:=ζa ((by rw [hg];exact Nat.ne_of_gt (blk_lt (g:=gb233) (o:=.cells #[.int .i64 a0_0,.string a0_1] 39 (0,0)) (by exact BK233.out)):gb234≠gb233));replace BK233:=ζa (blk_below (g:=gb233) (o:=.cells #[.int .i64 a0_0,.string a0_1] 39 (0,0)) (by exact BK233.out) hb);clear hb hbox hg;have hnb12:=NB233_234.out;have hnc12:=NB234_233.out;have hcz13_0:w11.cell? ⟨gb233,0,none⟩=some (.int .i64 a0_0):=(δl BK233.out 0).trans rfl;have hcz13_1:w11.cell? ⟨gb233,1,none⟩=some (.string a0_1):=(δl BK233.out 1).trans rfl;have hfz13_0:=δm BK233.out 0;have hfz13_1:=δm BK233.out 1;have hcz14_0:w11.cell? ⟨gb234,0,none⟩=some (.int .i64 a1_0):=(δl BK234.out 0).trans rfl;have hcz14_1:w11.cell? ⟨gb234,1,none⟩=some (.string a1_1):=(δl BK234.out 1).trans rfl;have hfz14_0:=δm BK234.out 0;have hfz14_1:=δm BK234.out 1))
   go_ret
   exact ⟨by rfl,by repeat ((with_reducible exact HB.out))⟩
 ·
  rw [if_neg c3] at H
  have c3b0:=beq_eq_false_iff_ne.mpr c3
  have c3b1:=bne_iff_ne.mpr c3
  obtain rfl:=Option.some.inj H
  go_enter Try.func72,Try.ntmps72
  go_wp2_with (first|((with_reducible refine δx (N:=2) rfl ?_);refine bev 2 #[.int .i64 a0_0,.string a0_1] 39 ?_;intro gb233 hg w15 hbox hb;have BK233:=ζa (hbox);have GW233:=ζa (gbw hg (by exact HB.out));have GE233:=ζa (gbw hg (by exact HB.out));replace HB:=ζa (δr (by exact HB.out) hb);clear hb hbox hg)|((with_reducible refine δx (N:=3) rfl ?_);refine bev 3 #[.int .i64 a1_0,.string a1_1] 39 ?_;intro gb234 hg w16 hbox hb;have BK234:=ζa (hbox);have GW234:=ζa (gbw hg (by exact HB.out));have GE234:=ζa (gbw hg (by exact HB.out));replace HB:=ζa (δr (by exact HB.out) hb);have NB233_234:=ζa ((by rw [hg];exact Nat.ne_of_lt (blk_lt (g:=gb233) (o:=.cells #[.int .i64 a0_0,.string a0_1] 39 (0,0)) (by exact BK233.out)):gb233≠gb234));have NB234_233:=ζa ((by rw [hg];exact Nat.ne_of_gt (blk_lt (g:=gb233) (o:=.cells #[.int .i64 a0_0,.string a0_1] 39 (0,0)) (by exact BK233.out)):gb234≠gb233));replace BK233:=ζa (blk_below (g:=gb233) (o:=.cells #[.int .i64 a0_0,.string a0_1] 39 (0,0)) (by exact BK233.out) hb);clear hb hbox hg;have hnb17:=NB233_234.out;have hnc17:=NB234_233.out;have hcz18_0:w16.cell? ⟨gb233,0,none⟩=some (.int .i64 a0_0):=(δl BK233.out 0).trans rfl;have hcz18_1:w16.cell? ⟨gb233,1,none⟩=some (.string a0_1):=(δl BK233.out 1).trans rfl;have hfz18_0:=δm BK233.out 0;have hfz18_1:=δm BK233.out 1;have hcz19_0:w16.cell? ⟨gb234,0,none⟩=some (.int .i64 a1_0):=(δl BK234.out 0).trans rfl;have hcz19_1:w16.cell? ⟨gb234,1,none⟩=some (.string a1_1):=(δl BK234.out 1).trans rfl;have hfz19_0:=δm BK234.out 0;have hfz19_1:=δm BK234.out 1))
  go_ret
  exact ⟨by rfl,by repeat ((with_reducible exact HB.out))⟩


open Go.Proofs.YtggemblkhckbpaaW.PrintWords renaming below_drew1 → δj, below_step → δr
set_option maxHeartbeats 8000000
set_option maxRecDepth 100000

/-! ### laws_eqStateS: function 48 -/
def laws_eqStateS.l0:Nat→List (S39)→List (S39)→Int→Option (Bool)
 | 0,_,_,_=>none
 | k+1,x0,x1,x5=>if x5<(x0.length:Int) then (if 0≤x5 then (if x5<(x1.length:Int) then ((laws_eqState.f ((rd_T39 x0 x5).f0) ((rd_T39 x0 x5).f1) ((rd_T39 x1 x5).f0) ((rd_T39 x1 x5).f1)).bind fun t237=>(if t237=τ then (laws_eqStateS.l0 k x0 x1 (ζm (x5+1))) else (some φ))) else (none)) else (none)) else (some τ)
def laws_eqStateS.f (k:Nat) (l0:List (S39)) (l1:List (S39)):Option (Bool):=if (l0.length:Int)=(l1.length:Int) then (laws_eqStateS.l0 k l0 l1 0) else (some φ)
def laws_eqStateS.T6:Bool × List (List Nat × List Nat):=(τ,[([],[]),([],[]),([0,1],[0,1]),([2],[2]),([],[]),([],[]),([4,5],[4,5]),([6],[6]),([3,7],[3,7]),([8],[8])])
def laws_eqStateS.B6:List Nat:=[0,0,3,7,0,0,48,112,255,511]
theorem laws_eqStateS.tab6:rtab .any (opsOf Try.f48 6)=laws_eqStateS.T6:=by kernel_rfl
theorem laws_eqStateS.bits6:waitsOk laws_eqStateS.T6.2 laws_eqStateS.B6=τ:=by kernel_rfl
theorem laws_eqStateS.calls (k:Nat) (A0:Option Addr) (c0:Nat) (l0:List (S39)) (A1:Option Addr) (c1:Nat) (l1:List (S39)) (r:Bool) (w:World) (hr0:Kd.C k39 w A0 l0.length l0) (hc0:l0.length≤c0) (hr1:Kd.C k39 w A1 l1.length l1) (hc1:l1.length≤c1) (h:laws_eqStateS.f k l0 l1=some r) :
  Calls Try.prog 48 #[.slice A0 l0.length c0,.slice A1 l1.length c1] w fun e w'=>e = .returned (.bool r)∧Below w.heap.size w w':=by
 have hu39:=Try.underlying39
 have HR0:=ζa hr0
 have HC0:=ζa hc0
 clear hr0 hc0
 have HR1:=ζa hr1
 have HC1:=ζa hc1
 clear hr1 hc1
 have HB:=ζa (Below.refl w.heap.size w)
 have H:(if (l0.length:Int)=(l1.length:Int) then (laws_eqStateS.l0 k l0 l1 0) else (some φ))=some r:=h
 clear h
 by_cases c3:(l0.length:Int)=(l1.length:Int)
 ·
  rw [if_pos c3] at H
  have c3b0:=beq_iff_eq.mpr c3
  have c3b1:=bne_eq_false_iff_eq.mpr c3
  have c3b2:(l0.length == l1.length)=τ:=by (simp at c3 ⊢;omega)
  clear c3
  have H':=ζa H
  clear H
  go_enter Try.func48,Try.ntmps48
  go_wp2
  go_loopg [5] k (fun kq v5 w' => ∃ (x5_1:Int),v5 = .int .i64 x5_1∧Aside0 (laws_eqStateS.l0 kq l0 l1 x5_1=some r)∧Aside0 (kq≤k)∧Aside0 (Below w.heap.size w w'))
  case atStart=>exact ⟨(0),(by rfl),H',⟨Nat.le_refl _⟩,⟨by repeat ((with_reducible exact HB.out))⟩⟩
  case round =>
   clear H'
   try clear c1
   try clear p2
   try clear c3
   try clear c3b0
   try clear c3b1
   try clear c3b2
   obtain ⟨x5_1,rfl,HA,HK1,HB⟩:=hrel
   cases gk with
   | zero=>exact absurd HA.out (by simp [laws_eqStateS.l0])
   | succ k1 =>
    have H:=HA.out
    clear HA
    simp only [laws_eqStateS.l0] at H
    by_cases c4:x5_1<(l0.length:Int)
    ·
     rw [if_pos c4] at H
     have c4b0:=decide_eq_true c4
     clear c4
     by_cases c5:0≤x5_1
     ·
      rw [if_pos c5] at H
      have c5b0:=decide_eq_true c5
      clear c5
      by_cases c6:x5_1<(l1.length:Int)
      ·
       rw [if_pos c6] at H
       have c6b0:=decide_eq_true c6
       clear c6
       obtain ⟨t237,A7,H⟩:=bsm H
       by_cases c8:t237=τ
       ·
        subst c8
        rw [ifT] at H
        have H':=ζa H
        clear H
        try go_wp2
        replace HB:=ζa (δj HB.out)
        have p235:0≤(x5_1:Int):=of_decide_eq_true (by (with_reducible assumption))
        have q235:x5_1<(l0.length:Int):=of_decide_eq_true (by (with_reducible assumption))
        obtain ⟨ad235,e235,hx235_0,hx235_1⟩:=at_T39 HR0.out x5_1 p235 q235
        have hw235_1:=hx235_1
        have hw235_0:=hx235_0
        cases e235
        replace hx235_0:=(HB.out.cell (World.block_lt_of_cell? w _ hx235_0)).trans hx235_0
        replace hx235_1:=(HB.out.cell (World.block_lt_of_cell? w _ hx235_1)).trans hx235_1
        replace p235:=eq_true p235
        replace q235:=eq_true q235
        have p236:0≤(x5_1:Int):=of_decide_eq_true (by (with_reducible assumption))
        have q236:x5_1<(l1.length:Int):=of_decide_eq_true (by (with_reducible assumption))
        obtain ⟨ad236,e236,hx236_0,hx236_1⟩:=at_T39 HR1.out x5_1 p236 q236
        have hw236_1:=hx236_1
        have hw236_0:=hx236_0
        cases e236
        replace hx236_0:=(HB.out.cell (World.block_lt_of_cell? w _ hx236_0)).trans hx236_0
        replace hx236_1:=(HB.out.cell (World.block_lt_of_cell? w _ hx236_1)).trans hx236_1
        replace p236:=eq_true p236
        replace q236:=eq_true q236
        refine sta 10 (fun w'=>w'.cell? (ad235.add ((x5_1).toNat * 2))=some (.int .i64 ((rd_T39 l0 x5_1).f0))∧w'.cell? ⟨(ad235.add ((x5_1).toNat * 2)).block,(ad235.add ((x5_1).toNat * 2)).off+1,none⟩=some (.string ((rd_T39 l0 x5_1).f1))∧w'.cell? (ad236.add ((x5_1).toNat * 2))=some (.int .i64 ((rd_T39 l1 x5_1).f0))∧w'.cell? ⟨(ad236.add ((x5_1).toNat * 2)).block,(ad236.add ((x5_1).toNat * 2)).off+1,none⟩=some (.string ((rd_T39 l1 x5_1).f1))) [] laws_eqStateS.tab6 laws_eqStateS.bits6 ⟨((HB.out.cell (World.block_lt_of_cell? w _ hw235_0)).trans hw235_0),((HB.out.cell (World.block_lt_of_cell? w _ hw235_1)).trans hw235_1),((HB.out.cell (World.block_lt_of_cell? w _ hw236_0)).trans hw236_0),((HB.out.cell (World.block_lt_of_cell? w _ hw236_1)).trans hw236_1)⟩ (fun hHeld HT_ HW_ => ?_)
        generalize wr.drew=w9 at HB hx235_0 hx235_1 hx236_0 hx236_1 hHeld ⊢
        refine pu 0 17 ?_
        refine pu 1 18 ?_
        refine pu 2 19 ?_
        refine pu 4 21 ?_
        refine pu 5 22 ?_
        refine pu 6 23 ?_
        refine ta 3 20 ?_
        refine ta 7 24 ?_
        refine on 8 25 (fun K hK => ?_)
        refine gs Try.func72 #[.agg #[.int .i64 ((rd_T39 l0 x5_1).f0),.string ((rd_T39 l0 x5_1).f1)],.agg #[.int .i64 ((rd_T39 l1 x5_1).f0),.string ((rd_T39 l1 x5_1).f1)]] ?_
        with_reducible refine (laws_eqState.calls ((rd_T39 l0 x5_1).f0) ((rd_T39 l0 x5_1).f1) ((rd_T39 l1 x5_1).f0) ((rd_T39 l1 x5_1).f1) τ _ A7.out).mono ?_
        rintro e w10 ⟨rfl,hb⟩
        refine ⟨_,rfl,?_⟩
        replace HB:=ζa (δr (by exact HB.out) hb)
        (try clear hb)
        (try clear hb2)
        (try clear hk)
        (try clear hi)
        refine hK.out _ _ ⟨((HB.out.cell (World.block_lt_of_cell? w _ hw235_0)).trans hw235_0),((HB.out.cell (World.block_lt_of_cell? w _ hw235_1)).trans hw235_1),((HB.out.cell (World.block_lt_of_cell? w _ hw236_0)).trans hw236_0),((HB.out.cell (World.block_lt_of_cell? w _ hw236_1)).trans hw236_1)⟩ (fun hHeld => ?_)
        clear hK K
        refine nm 25 ?_
        refine pu 9 26 ?_
        refine done_ (done_of HT_.out (by kernel_rfl)) ?_
        try go_wp2
        go_roundg k1
        case measure=>have:=HK1.out;omega
        case rel=>exact ⟨(ζm (x5_1+1)),(by rfl),H',⟨by have:=HK1.out;omega⟩,⟨by repeat ((with_reducible exact HB.out))⟩⟩
       ·
        replace c8:=Bool.eq_false_iff.mpr c8
        subst c8
        rw [ifF] at H
        obtain rfl:=Option.some.inj H
        try go_wp2
        replace HB:=ζa (δj HB.out)
        have p235:0≤(x5_1:Int):=of_decide_eq_true (by (with_reducible assumption))
        have q235:x5_1<(l0.length:Int):=of_decide_eq_true (by (with_reducible assumption))
        obtain ⟨ad235,e235,hx235_0,hx235_1⟩:=at_T39 HR0.out x5_1 p235 q235
        have hw235_1:=hx235_1
        have hw235_0:=hx235_0
        cases e235
        replace hx235_0:=(HB.out.cell (World.block_lt_of_cell? w _ hx235_0)).trans hx235_0
        replace hx235_1:=(HB.out.cell (World.block_lt_of_cell? w _ hx235_1)).trans hx235_1
        replace p235:=eq_true p235
        replace q235:=eq_true q235
        have p236:0≤(x5_1:Int):=of_decide_eq_true (by (with_reducible assumption))
        have q236:x5_1<(l1.length:Int):=of_decide_eq_true (by (with_reducible assumption))
        obtain ⟨ad236,e236,hx236_0,hx236_1⟩:=at_T39 HR1.out x5_1 p236 q236
        have hw236_1:=hx236_1
        have hw236_0:=hx236_0
        cases e236
        replace hx236_0:=(HB.out.cell (World.block_lt_of_cell? w _ hx236_0)).trans hx236_0
        replace hx236_1:=(HB.out.cell (World.block_lt_of_cell? w _ hx236_1)).trans hx236_1
        replace p236:=eq_true p236
        replace q236:=eq_true q236
        refine sta 10 (fun w'=>w'.cell? (ad235.add ((x5_1).toNat * 2))=some (.int .i64 ((rd_T39 l0 x5_1).f0))∧w'.cell? ⟨(ad235.add ((x5_1).toNat * 2)).block,(ad235.add ((x5_1).toNat * 2)).off+1,none⟩=some (.string ((rd_T39 l0 x5_1).f1))∧w'.cell? (ad236.add ((x5_1).toNat * 2))=some (.int .i64 ((rd_T39 l1 x5_1).f0))∧w'.cell? ⟨(ad236.add ((x5_1).toNat * 2)).block,(ad236.add ((x5_1).toNat * 2)).off+1,none⟩=some (.string ((rd_T39 l1 x5_1).f1))) [] laws_eqStateS.tab6 laws_eqStateS.bits6 ⟨((HB.out.cell (World.block_lt_of_cell? w _ hw235_0)).trans hw235_0),((HB.out.cell (World.block_lt_of_cell? w _ hw235_1)).trans hw235_1),((HB.out.cell (World.block_lt_of_cell? w _ hw236_0)).trans hw236_0),((HB.out.cell (World.block_lt_of_cell? w _ hw236_1)).trans hw236_1)⟩ (fun hHeld HT_ HW_ => ?_)
        generalize wr.drew=w11 at HB hx235_0 hx235_1 hx236_0 hx236_1 hHeld ⊢
        refine pu 0 17 ?_
        refine pu 1 18 ?_
        refine pu 2 19 ?_
        refine pu 4 21 ?_
        refine pu 5 22 ?_
        refine pu 6 23 ?_
        refine ta 3 20 ?_
        refine ta 7 24 ?_
        refine on 8 25 (fun K hK => ?_)
        refine gs Try.func72 #[.agg #[.int .i64 ((rd_T39 l0 x5_1).f0),.string ((rd_T39 l0 x5_1).f1)],.agg #[.int .i64 ((rd_T39 l1 x5_1).f0),.string ((rd_T39 l1 x5_1).f1)]] ?_
        with_reducible refine (laws_eqState.calls ((rd_T39 l0 x5_1).f0) ((rd_T39 l0 x5_1).f1) ((rd_T39 l1 x5_1).f0) ((rd_T39 l1 x5_1).f1) φ _ A7.out).mono ?_
        rintro e w12 ⟨rfl,hb⟩
        refine ⟨_,rfl,?_⟩
        replace HB:=ζa (δr (by exact HB.out) hb)
        (try clear hb)
        (try clear hb2)
        (try clear hk)
        (try clear hi)
        refine hK.out _ _ ⟨((HB.out.cell (World.block_lt_of_cell? w _ hw235_0)).trans hw235_0),((HB.out.cell (World.block_lt_of_cell? w _ hw235_1)).trans hw235_1),((HB.out.cell (World.block_lt_of_cell? w _ hw236_0)).trans hw236_0),((HB.out.cell (World.block_lt_of_cell? w _ hw236_1)).trans hw236_1)⟩ (fun hHeld => ?_)
        clear hK K
        refine nm 25 ?_
        refine pu 9 26 ?_
        refine done_ (done_of HT_.out (by kernel_rfl)) ?_
        try go_wp2
        go_ret
        exact ⟨by rfl,by repeat ((with_reducible exact HB.out))⟩
      ·
       rw [if_neg c6] at H
       exact absurd H (by simp)
     ·
      rw [if_neg c5] at H
      exact absurd H (by simp)
    ·
     rw [if_neg c4] at H
     have c4b0:=decide_eq_false c4
     clear c4
     obtain rfl:=Option.some.inj H
     go_wp2
     go_ret
     exact ⟨by rfl,by repeat ((with_reducible exact HB.out))⟩
 ·
  rw [if_neg c3] at H
  have c3b0:=beq_eq_false_iff_ne.mpr c3
  have c3b1:=bne_iff_ne.mpr c3
  have c3b2:(l0.length == l1.length)=φ:=by (simp at c3 ⊢;omega)
  obtain rfl:=Option.some.inj H
  go_enter Try.func48,Try.ntmps48
  go_wp2
  go_ret
  exact ⟨by rfl,by repeat ((with_reducible exact HB.out))⟩


open Go.Proofs.YtggemblkhckbpaaW.PrintWords renaming gate_dst → δx, below_step → δr, blk_cell → δl, blk_frozen → δm, gate_callee → δv
set_option maxHeartbeats 8000000
set_option maxRecDepth 100000

/-! ### laws_eqClient: function 21 -/
def laws_eqClient.f (k:Nat) (a0_0:ByteArray) (l0_1:List (S39)) (a1_0:ByteArray) (l1_1:List (S39)):Option (Bool):=if a0_0.toList=a1_0.toList then ((laws_eqStateS.f k l0_1 l1_1).bind fun t240=>(if t240=τ then (some τ) else (some φ))) else (some φ)
theorem laws_eqClient.calls (k:Nat) (a0_0:ByteArray) (A0_1:Option Addr) (c0_1:Nat) (l0_1:List (S39)) (a1_0:ByteArray) (A1_1:Option Addr) (c1_1:Nat) (l1_1:List (S39)) (r:Bool) (w:World) (hr0_1:Kd.C k39 w A0_1 l0_1.length l0_1) (hc0_1:l0_1.length≤c0_1) (hr1_1:Kd.C k39 w A1_1 l1_1.length l1_1) (hc1_1:l1_1.length≤c1_1) (h:laws_eqClient.f k a0_0 l0_1 a1_0 l1_1=some r) :
  Calls Try.prog 21 #[.agg #[.string a0_0,.slice A0_1 l0_1.length c0_1],.agg #[.string a1_0,.slice A1_1 l1_1.length c1_1]] w fun e w'=>e = .returned (.bool r)∧Below w.heap.size w w':=by
 have hu25:=Try.underlying25
 have HR0_1:=ζa hr0_1
 have HC0_1:=ζa hc0_1
 clear hr0_1 hc0_1
 have HR1_1:=ζa hr1_1
 have HC1_1:=ζa hc1_1
 clear hr1_1 hc1_1
 have HB:=ζa (Below.refl w.heap.size w)
 have H:(if a0_0.toList=a1_0.toList then ((laws_eqStateS.f k l0_1 l1_1).bind fun t240=>(if t240=τ then (some τ) else (some φ))) else (some φ))=some r:=h
 clear h
 by_cases c3:a0_0.toList=a1_0.toList
 ·
  rw [if_pos c3] at H
  have c3b0:=beq_iff_eq.mpr c3
  have c3b1:=bne_eq_false_iff_eq.mpr c3
  clear c3
  obtain ⟨t240,A4,H⟩:=bsm H
  by_cases c5:t240=τ
  ·
   subst c5
   rw [ifT] at H
   obtain rfl:=Option.some.inj H
   go_enter Try.func21,Try.ntmps21
   go_wp2_with (first|((with_reducible refine δx (N:=2) rfl ?_);refine bev 2 #[.string a0_0,.slice A0_1 l0_1.length c0_1] 25 ?_;intro gb238 hg w6 hbox hb;have BK238:=ζa (hbox);have GW238:=ζa (gbw hg (by exact HB.out));have GE238:=ζa (gbw hg (by exact HB.out));replace HB:=ζa (δr (by exact HB.out) hb);clear hb hbox hg)|((with_reducible refine δx (N:=3) rfl ?_);refine bev 3 #[.string a1_0,.slice A1_1 l1_1.length c1_1] 25 ?_;intro gb239 hg w7 hbox hb;have BK239:=ζa (hbox);have GW239:=ζa (gbw hg (by exact HB.out));have GE239:=ζa (gbw hg (by exact HB.out));replace HB:=ζa (δr (by exact HB.out) hb);have NB238_239:=ζa ((by rw [hg];exact Nat.ne_of_lt (blk_lt (g:=gb238) (o:=.cells #[.string a0_0,.slice A0_1 l0_1.length c0_1] 25 (0,0)) (by exact BK238.out)):gb238≠gb239));have NB239_238:=ζa ((by rw [hg];exact Nat.ne_of_gt (blk_lt (g:=gb238) (o:=.cells #[.string a0_0,.slice A0_1 l0_1.length c0_1] 25 (0,0)) (by exact BK238.out)):gb239≠gb238));replace BK238:=ζa (blk_below (g:=gb238) (o:=.cells #[.string a0_0,.slice A0_1 l0_1.length c0_1] 25 (0,0)) (by exact BK238.out) hb);clear hb hbox hg;have hnb8:=NB238_239.out;have hnc8:=NB239_238.out;have hcz9_0:w7.cell? ⟨gb238,0,none⟩=some (.string a0_0):=(δl BK238.out 0).trans rfl;have hcz9_1:w7.cell? ⟨gb238,1,none⟩=some (.slice A0_1 l0_1.length c0_1):=(δl BK238.out 1).trans rfl;have hfz9_0:=δm BK238.out 0;have hfz9_1:=δm BK238.out 1;have hcz10_0:w7.cell? ⟨gb239,0,none⟩=some (.string a1_0):=(δl BK239.out 0).trans rfl;have hcz10_1:w7.cell? ⟨gb239,1,none⟩=some (.slice A1_1 l1_1.length c1_1):=(δl BK239.out 1).trans rfl;have hfz10_0:=δm BK239.out 0;have hfz10_1:=δm BK239.out 1)|((with_reducible refine δv (f:=48) rfl ?_);refine gl 14 Try.func48 #[.slice A0_1 l0_1.length c0_1,.slice A1_1 l1_1.length c1_1] ?_;(with_reducible refine (laws_eqStateS.calls k _ _ l0_1 _ _ l1_1 τ _ ?side1 ?side2 ?side3 ?side4 A4.out).mono ?_);(case side1=>repeat (exact (Kd.C_below HR0_1.out HB.out)));(case side2=>exact HC0_1.out);(case side3=>repeat (exact (Kd.C_below HR1_1.out HB.out)));(case side4=>exact HC1_1.out);rintro e w11 ⟨rfl,hb⟩;refine ⟨_,rfl,?_⟩;replace BK238:=ζa (blk_below (g:=gb238) (o:=.cells #[.string a0_0,.slice A0_1 l0_1.length c0_1] 25 (0,0)) (by exact BK238.out) hb);replace BK239:=ζa (blk_below (g:=gb239) (o:=.cells #[.string a1_0,.slice A1_1 l1_1.length c1_1] 25 (0,0)) (by exact BK239.out) hb);replace HB:=ζa (δr (by exact HB.out) hb);(try clear hb);(try clear hb2);(try clear hk);(try clear hi)))
   go_ret
   exact ⟨by rfl,by repeat ((with_reducible exact HB.out))⟩
  ·
   replace c5:=Bool.eq_false_iff.mpr c5
   subst c5
   rw [ifF] at H
   obtain rfl:=Option.some.inj H
   go_enter Try.func21,Try.ntmps21
   go_wp2_with (first|((with_reducible refine δx (N:=2) rfl ?_);refine bev 2 #[.string a0_0,.slice A0_1 l0_1.length c0_1] 25 ?_;intro gb238 hg w12 hbox hb;have BK238:=ζa (hbox);have GW238:=ζa (gbw hg (by exact HB.out));have GE238:=ζa (gbw hg (by exact HB.out));replace HB:=ζa (δr (by exact HB.out) hb);clear hb hbox hg)|((with_reducible refine δx (N:=3) rfl ?_);refine bev 3 #[.string a1_0,.slice A1_1 l1_1.length c1_1] 25 ?_;intro gb239 hg w13 hbox hb;have BK239:=ζa (hbox);have GW239:=ζa (gbw hg (by exact HB.out));have GE239:=ζa (gbw hg (by exact HB.out));replace HB:=ζa (δr (by exact HB.out) hb);have NB238_239:=ζa ((by rw [hg];exact Nat.ne_of_lt (blk_lt (g:=gb238) (o:=.cells #[.string a0_0,.slice A0_1 l0_1.length c0_1] 25 (0,0)) (by exact BK238.out)):gb238≠gb239));have NB239_238:=ζa ((by rw [hg];exact Nat.ne_of_gt (blk_lt (g:=gb238) (o:=.cells #[.string a0_0,.slice A0_1 l0_1.length c0_1] 25 (0,0)) (by exact BK238.out)):gb239≠gb238));replace BK238:=ζa (blk_below (g:=gb238) (o:=.cells #[.string a0_0,.slice A0_1 l0_1.length c0_1] 25 (0,0)) (by exact BK238.out) hb);clear hb hbox hg;have hnb14:=NB238_239.out;have hnc14:=NB239_238.out;have hcz15_0:w13.cell? ⟨gb238,0,none⟩=some (.string a0_0):=(δl BK238.out 0).trans rfl;have hcz15_1:w13.cell? ⟨gb238,1,none⟩=some (.slice A0_1 l0_1.length c0_1):=(δl BK238.out 1).trans rfl;have hfz15_0:=δm BK238.out 0;have hfz15_1:=δm BK238.out 1;have hcz16_0:w13.cell? ⟨gb239,0,none⟩=some (.string a1_0):=(δl BK239.out 0).trans rfl;have hcz16_1:w13.cell? ⟨gb239,1,none⟩=some (.slice A1_1 l1_1.length c1_1):=(δl BK239.out 1).trans rfl;have hfz16_0:=δm BK239.out 0;have hfz16_1:=δm BK239.out 1)|((with_reducible refine δv (f:=48) rfl ?_);refine gl 14 Try.func48 #[.slice A0_1 l0_1.length c0_1,.slice A1_1 l1_1.length c1_1] ?_;(with_reducible refine (laws_eqStateS.calls k _ _ l0_1 _ _ l1_1 φ _ ?side1 ?side2 ?side3 ?side4 A4.out).mono ?_);(case side1=>repeat (exact (Kd.C_below HR0_1.out HB.out)));(case side2=>exact HC0_1.out);(case side3=>repeat (exact (Kd.C_below HR1_1.out HB.out)));(case side4=>exact HC1_1.out);rintro e w17 ⟨rfl,hb⟩;refine ⟨_,rfl,?_⟩;replace BK238:=ζa (blk_below (g:=gb238) (o:=.cells #[.string a0_0,.slice A0_1 l0_1.length c0_1] 25 (0,0)) (by exact BK238.out) hb);replace BK239:=ζa (blk_below (g:=gb239) (o:=.cells #[.string a1_0,.slice A1_1 l1_1.length c1_1] 25 (0,0)) (by exact BK239.out) hb);replace HB:=ζa (δr (by exact HB.out) hb);(try clear hb);(try clear hb2);(try clear hk);(try clear hi)))
   go_ret
   exact ⟨by rfl,by repeat ((with_reducible exact HB.out))⟩
 ·
  rw [if_neg c3] at H
  have c3b0:=beq_eq_false_iff_ne.mpr c3
  have c3b1:=bne_iff_ne.mpr c3
  obtain rfl:=Option.some.inj H
  go_enter Try.func21,Try.ntmps21
  go_wp2_with (first|((with_reducible refine δx (N:=2) rfl ?_);refine bev 2 #[.string a0_0,.slice A0_1 l0_1.length c0_1] 25 ?_;intro gb238 hg w18 hbox hb;have BK238:=ζa (hbox);have GW238:=ζa (gbw hg (by exact HB.out));have GE238:=ζa (gbw hg (by exact HB.out));replace HB:=ζa (δr (by exact HB.out) hb);clear hb hbox hg)|((with_reducible refine δx (N:=3) rfl ?_);refine bev 3 #[.string a1_0,.slice A1_1 l1_1.length c1_1] 25 ?_;intro gb239 hg w19 hbox hb;have BK239:=ζa (hbox);have GW239:=ζa (gbw hg (by exact HB.out));have GE239:=ζa (gbw hg (by exact HB.out));replace HB:=ζa (δr (by exact HB.out) hb);have NB238_239:=ζa ((by rw [hg];exact Nat.ne_of_lt (blk_lt (g:=gb238) (o:=.cells #[.string a0_0,.slice A0_1 l0_1.length c0_1] 25 (0,0)) (by exact BK238.out)):gb238≠gb239));have NB239_238:=ζa ((by rw [hg];exact Nat.ne_of_gt (blk_lt (g:=gb238) (o:=.cells #[.string a0_0,.slice A0_1 l0_1.length c0_1] 25 (0,0)) (by exact BK238.out)):gb239≠gb238));replace BK238:=ζa (blk_below (g:=gb238) (o:=.cells #[.string a0_0,.slice A0_1 l0_1.length c0_1] 25 (0,0)) (by exact BK238.out) hb);clear hb hbox hg;have hnb20:=NB238_239.out;have hnc20:=NB239_238.out;have hcz21_0:w19.cell? ⟨gb238,0,none⟩=some (.string a0_0):=(δl BK238.out 0).trans rfl;have hcz21_1:w19.cell? ⟨gb238,1,none⟩=some (.slice A0_1 l0_1.length c0_1):=(δl BK238.out 1).trans rfl;have hfz21_0:=δm BK238.out 0;have hfz21_1:=δm BK238.out 1;have hcz22_0:w19.cell? ⟨gb239,0,none⟩=some (.string a1_0):=(δl BK239.out 0).trans rfl;have hcz22_1:w19.cell? ⟨gb239,1,none⟩=some (.slice A1_1 l1_1.length c1_1):=(δl BK239.out 1).trans rfl;have hfz22_0:=δm BK239.out 0;have hfz22_1:=δm BK239.out 1))
  go_ret
  exact ⟨by rfl,by repeat ((with_reducible exact HB.out))⟩


open Go.Proofs.YtggemblkhckbpaaW.PrintWords renaming gate_dst → δx, below_size → δs, below_step → δr
set_option maxHeartbeats 8000000
set_option maxRecDepth 100000

/-! ### laws_markText: function 73 -/
def laws_markText.l0:Nat→Int→ByteArray→Option (ByteArray)
 | 0,_,_=>none
 | k+1,x0,x3=>if x0 > 0 then ((some (([(ζm (48+(Int.tmod x0 10))) % 256]:List Int):List Int)).bind fun y241=>(if (strOfNums y241).size+x3.size≤9223372036854775807 then (laws_markText.l0 k (ζm (Int.tdiv x0 10)) ((strOfNums y241) ++ x3)) else (none))) else (if 1+x3.size≤9223372036854775807 then (some ((⟨#[109]⟩:ByteArray) ++ x3)) else (none))
def laws_markText.f (k:Nat) (a0:Int):Option (ByteArray):=if a0≤0 then (some (⟨#[109,48]⟩:ByteArray)) else (laws_markText.l0 k a0 (⟨#[]⟩:ByteArray))
theorem laws_markText.calls (k:Nat) (a0:Int) (r:ByteArray) (w:World) (h:laws_markText.f k a0=some r) :
  Calls Try.prog 73 #[.int .i64 a0] w fun e w'=>e = .returned (.string r)∧Below w.heap.size w w':=by
 have HB:=ζa (Below.refl w.heap.size w)
 have H:(if a0≤0 then (some (⟨#[109,48]⟩:ByteArray)) else (laws_markText.l0 k a0 (⟨#[]⟩:ByteArray)))=some r:=h
 clear h
 by_cases c2:a0≤0
 ·
  rw [if_pos c2] at H
  have c2b0:=decide_eq_true c2
  clear c2
  obtain rfl:=Option.some.inj H
  go_enter Try.func73,Try.ntmps73
  go_wp2
  go_ret
  exact ⟨by rfl,by repeat ((with_reducible exact HB.out))⟩
 ·
  rw [if_neg c2] at H
  have c2b0:=decide_eq_false c2
  clear c2
  have H':=ζa H
  clear H
  go_enter Try.func73,Try.ntmps73
  go_wp2
  go_loopg [0,3] k (fun kq v0 v3 w' => ∃ (x0_1:Int) (x3_1:ByteArray),v0 = .int .i64 x0_1∧v3 = .string x3_1∧Aside0 (laws_markText.l0 kq x0_1 x3_1=some r)∧Aside0 (kq≤k)∧Aside0 (Below w.heap.size w w'))
  case atStart=>exact ⟨(a0),((⟨#[]⟩:ByteArray)),(by rfl),(by rfl),H',⟨Nat.le_refl _⟩,⟨by repeat ((with_reducible exact HB.out))⟩⟩
  case round =>
   clear H'
   try clear c2
   try clear c2b0
   try clear p2
   obtain ⟨x0_1,x3_1,rfl,rfl,HA,HK1,HB⟩:=hrel
   cases gk with
   | zero=>exact absurd HA.out (by simp [laws_markText.l0])
   | succ k1 =>
    have H:=HA.out
    clear HA
    simp only [laws_markText.l0] at H
    by_cases c3:x0_1 > 0
    ·
     rw [if_pos c3] at H
     have c3b0:decide (0<x0_1)=τ:=decide_eq_true c3
     clear c3
     obtain ⟨y241,hy241⟩ : ∃ y_:List Int,y_=(([(ζm (48+(Int.tmod x0_1 10))) % 256]:List Int)):=⟨_,rfl⟩
     replace H:(if (strOfNums y241).size+x3_1.size≤9223372036854775807 then (laws_markText.l0 k1 (ζm (Int.tdiv x0_1 10)) ((strOfNums y241) ++ x3_1)) else (none))=some r:=by (have H2_:=(Option.bind_some _ _).symm.trans H;rw [hy241];with_reducible exact H2_)
     have Ny241:=ζa hy241
     clear hy241
     by_cases c4:(strOfNums y241).size+x3_1.size≤9223372036854775807
     ·
      rw [if_pos c4] at H
      have c4b0:=eq_true c4
      have c4b1:=decide_eq_true c4
      try have c4b2:(9223372036854775807<(strOfNums y241).size+x3_1.size)=False:=eq_false (Nat.not_lt.2 c4)
      have H':=ζa H
      clear H
      go_wp2_with (((with_reducible refine δx (N:=12) rfl ?_);refine Kd.R_lit (Kd.int .u8) _ 5 ?hg (N:=12) ?hd (xs:=([(ζm (48+(Int.tmod x0_1 10))) % 256]:List Int)) (inner:=[.int .u8 ((ζm (48+(Int.tmod x0_1 10))) % 256)]) (ok:=fun _=>True) (okp:=fun _=>True) ?hr ?hp (fun _ hk=>hk) trivial (Below.refl _ _) (Nat.le_refl _) (by simp) ?_;(case hd=>rfl);(case hg=>rfl);(case hr=>(go_simp;done));(case hp=>exact (Reps.one (show Kd.M (Kd.int .u8) _ _ _ ((ζm (48+(Int.tmod x0_1 10))) % 256) [.int .u8 ((ζm (48+(Int.tmod x0_1 10))) % 256)] from rfl) (Reps.none _ _)));intro v242 w5 ho6 hb hg_ hnew_;clear hg_ hnew_;(rw [← Ny241.out] at ho6);have HO243:=ζa (Kd.R_lower ho6 (δs (by exact HB.out)));replace HB:=ζa (δr (by exact HB.out) hb);clear hb ho6;have hcv7:=own_string (P:=Try.prog) Try.underlying22 Try.underlying5 Try.underlying9 (Kd.own_of_R HO243.out)))
      go_roundg k1
      case measure=>have:=HK1.out;omega
      case rel=>exact ⟨(ζm (Int.tdiv x0_1 10)),((strOfNums y241) ++ x3_1),(by rfl),(by rfl),H',⟨by have:=HK1.out;omega⟩,⟨by repeat ((with_reducible exact HB.out))⟩⟩
     ·
      rw [if_neg c4] at H
      exact absurd H (by simp)
    ·
     rw [if_neg c3] at H
     have c3b0:decide (0<x0_1)=φ:=decide_eq_false c3
     clear c3
     by_cases c8:1+x3_1.size≤9223372036854775807
     ·
      rw [if_pos c8] at H
      have c8b0:=eq_true c8
      have c8b1:=decide_eq_true c8
      try have c8b2:(9223372036854775807<1+x3_1.size)=False:=eq_false (Nat.not_lt.2 c8)
      obtain rfl:=Option.some.inj H
      go_wp2
      go_ret
      exact ⟨by rfl,by repeat ((with_reducible exact HB.out))⟩
     ·
      rw [if_neg c8] at H
      exact absurd H (by simp)


open Go.Proofs.YtggemblkhckbpaaW.PrintWords renaming below_set → δq, gate_callee → δv, below_step → δr
set_option maxHeartbeats 8000000
set_option maxRecDepth 100000

/-! ### laws_markStateS: function 49 -/
def laws_markStateS.l0:Nat→List (S39)→Int→Int→Option (Int × (List (S39)))
 | 0,_,_,_=>none
 | k+1,x0,x1,x5=>if x5<(x0.length:Int) then (if 0≤x5 then ((some (x0.set (x5:Int).toNat (⟨x1,(rd_T39 x0 x5).f1⟩:S39):List (S39))).bind fun y244=>((laws_markText.f k (ζm (x1+1))).bind fun t245=>(laws_markStateS.l0 k (y244.set (x5:Int).toNat (⟨(rd_T39 y244 x5).f0,t245⟩:S39)) (ζm ((ζm (x1+1))+1)) (ζm (x5+1))))) else (none)) else (some (x1,x0))
def laws_markStateS.f (k:Nat) (l0:List (S39)) (a1:Int):Option (Int × (List (S39))):=laws_markStateS.l0 k l0 a1 0
theorem laws_markStateS.calls (k:Nat) (P0_:Nat→Prop) (u9000_:Value) (l0:List (S39)) (a1:Int) (r1:Int) (r2:List (S39)) (w0 w:World) (hB:Below w0.heap.size w0 w) (ho0:Kd.R k39 39 w w0.heap.size P0_ u9000_ l0) (h:laws_markStateS.f k l0 a1=some (r1,r2)) :
  Calls Try.prog 49 #[u9000_,.int .i64 a1] w fun e w'=>e = .returned (.int .i64 r1)∧Kd.R k39 39 w' w0.heap.size (fun k_=>(P0_ k_ ∨ w.heap.size≤k_)) u9000_ r2∧Below w0.heap.size w0 w'∧Kept w w' (fun k_=>P0_ k_):=by
 have HO0:=ζa (show Kd.R k39 39 w w0.heap.size (fun k_=>(P0_ k_ ∨ w.heap.size≤k_)) u9000_ l0 from Kd.R_mono ho0 (fun k_ hk=>(.inl hk)))
 have HK:=ζa (Kept.refl w (fun k_=>P0_ k_))
 have HW0:=ζa hB.size
 have HB:=ζa hB
 clear hB
 have H:(laws_markStateS.l0 k l0 a1 0)=some (r1,r2):=h
 clear h
 have H':=ζa H
 clear H
 go_enter Try.func49,Try.ntmps49
 go_wp2
 go_loopg [1,5] k (fun kq v1 v5 w' => ∃ (x0_1:List (S39)) (x1_1:Int) (x5_1:Int),v1 = .int .i64 x1_1∧v5 = .int .i64 x5_1∧Aside0 (laws_markStateS.l0 kq x0_1 x1_1 x5_1=some (r1,r2))∧Aside0 (kq≤k)∧Aside0 (Kd.R k39 39 w' w0.heap.size (fun k_=>(P0_ k_ ∨ w.heap.size≤k_)) u9000_ x0_1)∧Aside0 (Kept w w' (fun k_=>P0_ k_))∧Aside0 (Below w0.heap.size w0 w'))
 case atStart=>exact ⟨(l0),(a1),(0),(by rfl),(by rfl),H',⟨Nat.le_refl _⟩,⟨by exact HO0.out⟩,⟨by repeat ((with_reducible exact HK.out))⟩,⟨by repeat ((with_reducible exact HB.out))⟩⟩
 case round =>
  clear H'
  try clear p2
  obtain ⟨x0_1,x1_1,x5_1,rfl,rfl,HA,HK1,HO_0,HK,HB⟩:=hrel
  cases gk with
  | zero=>exact absurd HA.out (by simp [laws_markStateS.l0])
  | succ k1 =>
   have H:=HA.out
   clear HA
   simp only [laws_markStateS.l0] at H
   by_cases c3:x5_1<(x0_1.length:Int)
   ·
    rw [if_pos c3] at H
    have c3b0:=decide_eq_true c3
    clear c3
    by_cases c4:0≤x5_1
    ·
     rw [if_pos c4] at H
     have c4b0:=decide_eq_true c4
     clear c4
     obtain ⟨y244,hy244⟩ : ∃ y_:List (S39),y_=(x0_1.set (x5_1:Int).toNat (⟨x1_1,(rd_T39 x0_1 x5_1).f1⟩:S39)):=⟨_,rfl⟩
     replace H:((laws_markText.f k1 (ζm (x1_1+1))).bind fun t245=>(laws_markStateS.l0 k1 (y244.set (x5_1:Int).toNat (⟨(rd_T39 y244 x5_1).f0,t245⟩:S39)) (ζm ((ζm (x1_1+1))+1)) (ζm (x5_1+1))))=some (r1,r2):=by (have H2_:=(Option.bind_some _ _).symm.trans H;rw [hy244];with_reducible exact H2_)
     have Ny244:=ζa hy244
     clear hy244
     obtain ⟨t245,A6,H⟩:=bsm H
     obtain ⟨y246,hy246⟩ : ∃ y_:List (S39),y_=(y244.set (x5_1:Int).toNat (⟨(rd_T39 y244 x5_1).f0,t245⟩:S39)):=⟨_,rfl⟩
     replace H:(laws_markStateS.l0 k1 y246 (ζm ((ζm (x1_1+1))+1)) (ζm (x5_1+1)))=some (r1,r2):=by (rw [hy246];with_reducible exact H)
     have Ny246:=ζa hy246
     clear hy246
     have H':=ζa H
     clear H
     obtain ⟨Ao8,co8,eo8⟩:=Kd.R_slice HO_0.out
     subst eo8
     have p5:0≤(x5_1:Int):=of_decide_eq_true (by (with_reducible assumption))
     have q5:(x5_1:Int)<((x0_1.length:Int):Int):=of_decide_eq_true (by (with_reducible assumption))
     obtain ⟨go5,co5,eo5,gb5,gl5,cl5,HG5⟩:=Kd.R_form HO_0.out (by omega)
     (cases eo5)
     have GB5:=ζa gb5
     have GG5:=ζa HG5
     clear gb5 gl5 HG5
     have HMgo5:=ζa (show (P0_ go5 ∨ w.heap.size≤go5) from (HO_0.out.1 _ rfl))
     obtain ⟨ce5,hcl5,hM5,hcc5,hfr5⟩:=Kd.R_elem HO_0.out z39 (x5_1:Int) p5 q5
     obtain rfl:=k39_openM hM5
     have hx5_0:wr.cell? ⟨go5,(x5_1:Int).toNat * 2,none⟩=some (.int .i64 ((rd_T39 x0_1 x5_1).f0)):=hcc5 0 _ rfl
     have hx5_1:wr.cell? ⟨go5,(x5_1:Int).toNat * 2+1,none⟩=some (.string ((rd_T39 x0_1 x5_1).f1)):=hcc5 1 _ rfl
     have hf5_0:wr.frozen? ⟨go5,(x5_1:Int).toNat * 2,none⟩=φ:=hfr5 0
     have hf5_1:wr.frozen? ⟨go5,(x5_1:Int).toNat * 2+1,none⟩=φ:=hfr5 1
     clear hcl5 hcc5 hfr5 hM5
     replace p5:=eq_true p5
     replace q5:=eq_true q5
     have HX9:=ζa (show Kd.R k39 39 wr w0.heap.size (fun k_=>(P0_ k_ ∨ w.heap.size≤k_)) (.slice (some ⟨go5,0,none⟩) x0_1.length co8) x0_1 from (by exact HO_0.out))
     obtain ⟨ce9,hcl9,hM9,hcc9,hfr9⟩:=Kd.R_elem HX9.out z39 (x5_1:Int) (of_decide_eq_true (by (with_reducible assumption))) (by have h_:(x5_1:Int)<((x0_1.length:Int):Int):=of_decide_eq_true (by (with_reducible assumption));exact h_)
     obtain rfl:=k39_openM hM9
     have HP9:=Kd.R_seg HX9.out (x5_1:Int) (of_decide_eq_true (by (with_reducible assumption))) (by have h_:(x5_1:Int)<((x0_1.length:Int):Int):=of_decide_eq_true (by (with_reducible assumption));exact h_) (seg:=[.int .i64 x1_1]) (j:=0) hcl9 hcc9 (show 1≤2 from by decide) (x':=(⟨x1_1,(rd_T39 x0_1 x5_1).f1⟩:S39)) (k39_mkM _ _ _ (⟨x1_1,(rd_T39 x0_1 x5_1).f1⟩:S39) ) (fun _ hk=>hk)
     have hx9_0:=hcc9 0 _ rfl
     (try simp only [show (k39).sz=2 from rfl,Nat.mul_one,Nat.add_zero] at hx9_0)
     have hf9_0:=hfr9 0
     (try simp only [show (k39).sz=2 from rfl,Nat.mul_one,Nat.add_zero] at hf9_0)
     clear hcl9 hcc9 hfr9 hM9
     go_wp2_with (first|((with_reducible refine gate_store (t:=3) (p:=16) rfl ?_);refine store_event (t:=3) (p:=16) (v:=?vo_w10) (w1:=(wr.setCell ⟨go5,(x5_1:Int).toNat * 2,none⟩ (.int .i64 x1_1))) ?hg ?ho ?hn ?hr ?_;(case ho=>rfl);(case hg=>rfl);(case hn=>rfl);(case hr=>(go_simp;done));intro w10 hw;have hg:wr.grownBy w10 (some go5):=(by rw [hw];exact HP9.2);have hp_:Kd.R k39 39 w10 w0.heap.size (fun k_=>(P0_ k_ ∨ w.heap.size≤k_)) (.slice (some ⟨go5,0,none⟩) x0_1.length co8) y244:=(by rw [hw,Ny244.out];exact HP9.1);clear HP9;replace HB:=ζa ((by rw [hw];exact δq (HB.out) GB5.out:Below w0.heap.size w0 w10));replace HK:=ζa (Kept.of_grown (S:=(fun k_=>P0_ k_)) hg (by exact HK.out) (fun k_ e_=>(HO_0.out.1 k_ e_)));replace HO_0:=ζa (hp_);clear hg hw hp_)|((with_reducible refine δv (f:=73) rfl ?_);refine gl 22 Try.func73 #[.int .i64 (ζm (x1_1+1))] ?_;(with_reducible refine (laws_markText.calls k1 (ζm (x1_1+1)) t245 _ A6.out).mono ?_);rintro e w11 ⟨rfl,hb⟩;refine ⟨_,rfl,?_⟩;replace HO_0:=ζa (ζh (by exact HO_0.out) hb);replace HK:=ζa (Kept.below (S:=(fun k_=>P0_ k_)) (by exact HK.out) hb);replace HB:=ζa (δr (by exact HB.out) hb);(try clear hb);(try clear hb2);(try clear hk);(try clear hi);have p7:0≤(x5_1:Int):=of_decide_eq_true (by (with_reducible assumption));have q7:(x5_1:Int)<((x0_1.length:Int):Int):=of_decide_eq_true (by (with_reducible assumption));obtain ⟨ce7,hcl7,hM7,hcc7,hfr7⟩:=Kd.R_elem HO_0.out z39 (x5_1:Int) p7 q7;obtain rfl:=k39_openM hM7;have hx7_0:w11.cell? ⟨go5,(x5_1:Int).toNat * 2,none⟩=some (.int .i64 ((rd_T39 y244 x5_1).f0)):=hcc7 0 _ rfl;have hx7_1:w11.cell? ⟨go5,(x5_1:Int).toNat * 2+1,none⟩=some (.string ((rd_T39 y244 x5_1).f1)):=hcc7 1 _ rfl;have hf7_0:w11.frozen? ⟨go5,(x5_1:Int).toNat * 2,none⟩=φ:=hfr7 0;have hf7_1:w11.frozen? ⟨go5,(x5_1:Int).toNat * 2+1,none⟩=φ:=hfr7 1;clear hcl7 hcc7 hfr7 hM7;replace p7:=eq_true p7;replace q7:=eq_true q7;have HX12:=ζa (show Kd.R k39 39 w11 w0.heap.size (fun k_=>(P0_ k_ ∨ w.heap.size≤k_)) (.slice (some ⟨go5,0,none⟩) x0_1.length co8) y244 from (by exact HO_0.out));obtain ⟨ce12,hcl12,hM12,hcc12,hfr12⟩:=Kd.R_elem HX12.out z39 (x5_1:Int) (of_decide_eq_true (by (with_reducible assumption))) (by have h_:(x5_1:Int)<((x0_1.length:Int):Int):=of_decide_eq_true (by (with_reducible assumption));exact h_);obtain rfl:=k39_openM hM12;have HP12:=Kd.R_seg HX12.out (x5_1:Int) (of_decide_eq_true (by (with_reducible assumption))) (by have h_:(x5_1:Int)<((x0_1.length:Int):Int):=of_decide_eq_true (by (with_reducible assumption));exact h_) (seg:=[.string t245]) (j:=1) hcl12 hcc12 (show 2≤2 from by decide) (x':=(⟨(rd_T39 y244 x5_1).f0,t245⟩:S39)) (k39_mkM _ _ _ (⟨(rd_T39 y244 x5_1).f0,t245⟩:S39) ) (fun _ hk=>hk);have hx12_1:=hcc12 1 _ rfl;(try simp only [show (k39).sz=2 from rfl,Nat.mul_one,Nat.add_zero] at hx12_1);have hf12_1:=hfr12 1;(try simp only [show (k39).sz=2 from rfl,Nat.mul_one,Nat.add_zero] at hf12_1);clear hcl12 hcc12 hfr12 hM12)|((with_reducible refine gate_store (t:=9) (p:=24) rfl ?_);refine store_event (t:=9) (p:=24) (v:=?vo_w13) (w1:=(w11.setCell ⟨go5,(x5_1:Int).toNat * 2+1,none⟩ (.string t245))) ?hg ?ho ?hn ?hr ?_;(case ho=>rfl);(case hg=>rfl);(case hn=>rfl);(case hr=>(go_simp;done));intro w13 hw;have hg:w11.grownBy w13 (some go5):=(by rw [hw];exact HP12.2);have hp_:Kd.R k39 39 w13 w0.heap.size (fun k_=>(P0_ k_ ∨ w.heap.size≤k_)) (.slice (some ⟨go5,0,none⟩) x0_1.length co8) y246:=(by rw [hw,Ny246.out];exact HP12.1);clear HP12;replace HB:=ζa ((by rw [hw];exact δq (HB.out) GB5.out:Below w0.heap.size w0 w13));replace HK:=ζa (Kept.of_grown (S:=(fun k_=>P0_ k_)) hg (by exact HK.out) (fun k_ e_=>(HO_0.out.1 k_ e_)));replace HO_0:=ζa (hp_);clear hg hw hp_))
     go_roundg k1
     case measure=>have:=HK1.out;omega
     case rel=>exact ⟨(y246),(ζm ((ζm (x1_1+1))+1)),(ζm (x5_1+1)),(by rfl),(by rfl),H',⟨by have:=HK1.out;omega⟩,⟨by exact HO_0.out⟩,⟨by repeat ((with_reducible exact HK.out))⟩,⟨by repeat ((with_reducible exact HB.out))⟩⟩
    ·
     rw [if_neg c4] at H
     exact absurd H (by simp)
   ·
    rw [if_neg c3] at H
    have c3b0:=decide_eq_false c3
    clear c3
    simp only [Option.some.injEq,Prod.mk.injEq] at H
    obtain ⟨rfl,rfl⟩:=H
    obtain ⟨Ao14,co14,eo14⟩:=Kd.R_slice HO_0.out
    subst eo14
    go_wp2
    go_ret
    exact ⟨by rfl,by exact HO_0.out,by repeat ((with_reducible exact HB.out)),by repeat ((with_reducible exact HK.out))⟩


open Go.Proofs.YtggemblkhckbpaaW.PrintWords renaming gate_dst → δx, below_size → δs, below_step → δr, blk_cell → δl, blk_frozen → δm, gate_callee → δv
open Go.Proofs.YtggemblkhckbpaaW.PrintWords.Kd renaming R_below → ζh, R_ne → ζf
set_option maxHeartbeats 8000000
set_option maxRecDepth 100000

/-! ### laws_markClient: function 22 -/
def laws_markClient.f (k:Nat) (a0_0:ByteArray) (l0_1:List (S39)) (a1:Int):Option (Int × (List (S39))):=(laws_markStateS.f k l0_1 a1).bind fun bt248=>(some (bt248.1,bt248.2))
theorem laws_markClient.calls (k:Nat) (a0_0:ByteArray) (P0_1_:Nat→Prop) (u9000_:Value) (l0_1:List (S39)) (a1:Int) (r1:Int) (r2:List (S39)) (w0 w:World) (hB:Below w0.heap.size w0 w) (ho0_1:Kd.R k39 39 w w0.heap.size P0_1_ u9000_ l0_1) (h:laws_markClient.f k a0_0 l0_1 a1=some (r1,r2)) :
  Calls Try.prog 22 #[.agg #[.string a0_0,u9000_],.int .i64 a1] w fun e w'=>e = .returned (.int .i64 r1)∧Kd.R k39 39 w' w0.heap.size (fun k_=>(P0_1_ k_ ∨ w.heap.size≤k_)) u9000_ r2∧Below w0.heap.size w0 w'∧Kept w w' (fun k_=>P0_1_ k_):=by
 have hu25:=Try.underlying25
 have HO0_1:=ζa (show Kd.R k39 39 w w0.heap.size (fun k_=>(P0_1_ k_ ∨ w.heap.size≤k_)) u9000_ l0_1 from Kd.R_mono ho0_1 (fun k_ hk=>(.inl hk)))
 have HK:=ζa (Kept.refl w (fun k_=>P0_1_ k_))
 have HW0:=ζa hB.size
 have HB:=ζa hB
 clear hB
 have H:((laws_markStateS.f k l0_1 a1).bind fun bt248=>(some (bt248.1,bt248.2)))=some (r1,r2):=h
 clear h
 obtain ⟨⟨t248,t249⟩,A3,H⟩:=bsm H
 dsimp only at H
 simp only [Option.some.injEq,Prod.mk.injEq] at H
 obtain ⟨rfl,rfl⟩:=H
 obtain ⟨Ao4,co4,eo4⟩:=Kd.R_slice HO0_1.out
 subst eo4
 go_enter Try.func22,Try.ntmps22
 go_wp2_with (first|((with_reducible refine δx (N:=2) rfl ?_);refine bev 2 #[.string a0_0,.slice Ao4 l0_1.length co4] 25 ?_;intro gb247 hg w5 hbox hb;replace HO0_1:=ζa (ζh (by exact HO0_1.out) hb);have BK247:=ζa (hbox);have GW247:=ζa ((by rw [hg];exact (by exact HK.out.1):w.heap.size≤gb247));replace HK:=ζa (Kept.below (S:=(fun k_=>P0_1_ k_)) (by exact HK.out) hb);have GE247:=ζa ((by rw [hg];exact (δs (by exact HB.out)):w0.heap.size≤gb247));replace HB:=ζa (δr (by exact HB.out) hb);clear hb hbox hg;have hcz6_0:w5.cell? ⟨gb247,0,none⟩=some (.string a0_0):=(δl BK247.out 0).trans rfl;have hcz6_1:w5.cell? ⟨gb247,1,none⟩=some (.slice Ao4 l0_1.length co4):=(δl BK247.out 1).trans rfl;have hfz6_0:=δm BK247.out 0;have hfz6_1:=δm BK247.out 1)|((with_reducible refine δv (f:=49) rfl ?_);refine gl 8 Try.func49 #[.slice Ao4 l0_1.length co4,.int .i64 a1] ?_;(with_reducible refine (laws_markStateS.calls k (fun k_=>some k_=(.slice Ao4 l0_1.length co4:Value).ownBlock) (.slice Ao4 l0_1.length co4) l0_1 a1 t248 t249 w0 _ ?side1 ?side2 A3.out).mono ?_);(case side1=>repeat ((with_reducible exact HB.out)));(case side2=>exact Kd.R_tight rfl HO0_1.out);rintro e w7 ⟨rfl,hy0,hb,hkp⟩;refine ⟨_,rfl,?_⟩;replace BK247:=ζa (blk_kept (by exact BK247.out) hkp (fun hs_=>(fun e_=>(ζf HO0_1.out BK247.out (by decide)) e_) hs_));replace HK:=ζa (Kept.then_ (S:=(fun k_=>P0_1_ k_)) (by exact HK.out) hkp (fun k_ hs_=>(fun e_=>(HO0_1.out.1 k_ e_.symm)) hs_));replace HO0_1:=ζa (Kd.R_reok rfl hy0 (fun k_ e_=>HO0_1.out.1 k_ e_));replace HB:=ζa (hb);(try clear hb);(try clear hkp);(try clear hy0)))
 go_ret
 exact ⟨by rfl,by exact HO0_1.out,by repeat ((with_reducible exact HB.out)),by repeat ((with_reducible exact HK.out))⟩


open Bool renaming true → τ
set_option maxHeartbeats 8000000
set_option maxRecDepth 100000

/-! ### laws_heldStateS: function 50 -/
def laws_heldStateS.l0:Nat→List (S39)→Int→Int→Option (Int)
 | 0,_,_,_=>none
 | k+1,x0,x1,x5=>if x5<(x0.length:Int) then (if 0≤x5 then (if ((rd_T39 x0 x5).f0)=x1 then ((laws_markText.f k (ζm (x1+1))).bind fun t252=>(if ((rd_T39 x0 x5).f1).toList=t252.toList then (laws_heldStateS.l0 k x0 (ζm ((ζm (x1+1))+1)) (ζm (x5+1))) else (some (-1)))) else (some (-1))) else (none)) else (some x1)
def laws_heldStateS.f (k:Nat) (l0:List (S39)) (a1:Int):Option (Int):=laws_heldStateS.l0 k l0 a1 0
def laws_heldStateS.T7:Bool × List (List Nat × List Nat):=(τ,[([],[]),([],[]),([0,1],[0,1]),([2],[2]),([3],[3]),([],[]),([5],[5]),([4,6],[4,6])])
def laws_heldStateS.B7:List Nat:=[0,0,3,7,15,0,32,127]
theorem laws_heldStateS.tab7:rtab .any (opsOf Try.f50 7)=laws_heldStateS.T7:=by kernel_rfl
theorem laws_heldStateS.bits7:waitsOk laws_heldStateS.T7.2 laws_heldStateS.B7=τ:=by kernel_rfl
theorem laws_heldStateS.calls (k:Nat) (A0:Option Addr) (c0:Nat) (l0:List (S39)) (a1:Int) (r:Int) (w:World) (hr0:Kd.C k39 w A0 l0.length l0) (hc0:l0.length≤c0) (h:laws_heldStateS.f k l0 a1=some r) :
  Calls Try.prog 50 #[.slice A0 l0.length c0,.int .i64 a1] w fun e w'=>e = .returned (.int .i64 r)∧Below w.heap.size w w':=by
 have HR0:=ζa hr0
 have HC0:=ζa hc0
 clear hr0 hc0
 have HB:=ζa (Below.refl w.heap.size w)
 have H:(laws_heldStateS.l0 k l0 a1 0)=some r:=h
 clear h
 have H':=ζa H
 clear H
 go_enter Try.func50,Try.ntmps50
 go_wp2
 go_loopg [1,5] k (fun kq v1 v5 w' => ∃ (x1_1:Int) (x5_1:Int),v1 = .int .i64 x1_1∧v5 = .int .i64 x5_1∧Aside0 (laws_heldStateS.l0 kq l0 x1_1 x5_1=some r)∧Aside0 (kq≤k)∧Aside0 (Below w.heap.size w w'))
 case atStart=>exact ⟨(a1),(0),(by rfl),(by rfl),H',⟨Nat.le_refl _⟩,⟨by repeat ((with_reducible exact HB.out))⟩⟩
 case round =>
  clear H'
  try clear p2
  obtain ⟨x1_1,x5_1,rfl,rfl,HA,HK1,HB⟩:=hrel
  cases gk with
  | zero=>exact absurd HA.out (by simp [laws_heldStateS.l0])
  | succ k1 =>
   have H:=HA.out
   clear HA
   simp only [laws_heldStateS.l0] at H
   by_cases c3:x5_1<(l0.length:Int)
   ·
    rw [if_pos c3] at H
    have c3b0:=decide_eq_true c3
    clear c3
    by_cases c4:0≤x5_1
    ·
     rw [if_pos c4] at H
     have c4b0:=decide_eq_true c4
     clear c4
     by_cases c5:((rd_T39 l0 x5_1).f0)=x1_1
     ·
      rw [if_pos c5] at H
      have c5b0:=beq_iff_eq.mpr c5
      have c5b1:=bne_eq_false_iff_eq.mpr c5
      clear c5
      obtain ⟨t252,A6,H⟩:=bsm H
      by_cases c7:((rd_T39 l0 x5_1).f1).toList=t252.toList
      ·
       rw [if_pos c7] at H
       have c7b0:=beq_iff_eq.mpr c7
       have c7b1:=bne_eq_false_iff_eq.mpr c7
       clear c7
       have H':=ζa H
       clear H
       have p250:0≤(x5_1:Int):=of_decide_eq_true (by (with_reducible assumption))
       have q250:x5_1<(l0.length:Int):=of_decide_eq_true (by (with_reducible assumption))
       obtain ⟨ad250,e250,hx250_0,hx250_1⟩:=at_T39 HR0.out x5_1 p250 q250
       cases e250
       replace hx250_0:=(HB.out.cell (World.block_lt_of_cell? w _ hx250_0)).trans hx250_0
       replace hx250_1:=(HB.out.cell (World.block_lt_of_cell? w _ hx250_1)).trans hx250_1
       replace p250:=eq_true p250
       replace q250:=eq_true q250
       try go_wp2
       replace HB:=ζa (δj HB.out)
       have p251:0≤(x5_1:Int):=of_decide_eq_true (by (with_reducible assumption))
       have q251:x5_1<(l0.length:Int):=of_decide_eq_true (by (with_reducible assumption))
       obtain ⟨ad251,e251,hx251_0,hx251_1⟩:=at_T39 HR0.out x5_1 p251 q251
       have hw251_1:=hx251_1
       have hw251_0:=hx251_0
       obtain rfl:ad250=ad251:=(by injection e251)
       replace hx251_0:=(HB.out.cell (World.block_lt_of_cell? w _ hx251_0)).trans hx251_0
       replace hx251_1:=(HB.out.cell (World.block_lt_of_cell? w _ hx251_1)).trans hx251_1
       replace p251:=eq_true p251
       replace q251:=eq_true q251
       refine sta 8 (fun w'=>w'.cell? (ad250.add ((x5_1).toNat * 2))=some (.int .i64 ((rd_T39 l0 x5_1).f0))∧w'.cell? ⟨(ad250.add ((x5_1).toNat * 2)).block,(ad250.add ((x5_1).toNat * 2)).off+1,none⟩=some (.string ((rd_T39 l0 x5_1).f1))) [] laws_heldStateS.tab7 laws_heldStateS.bits7 ⟨((HB.out.cell (World.block_lt_of_cell? w _ hw251_0)).trans hw251_0),((HB.out.cell (World.block_lt_of_cell? w _ hw251_1)).trans hw251_1)⟩ (fun hHeld HT_ HW_ => ?_)
       generalize wr.drew=w8 at HB hx251_0 hx251_1 hHeld ⊢
       refine pu 0 21 ?_
       refine pu 1 22 ?_
       refine pu 2 23 ?_
       refine pu 3 24 ?_
       refine pu 5 26 ?_
       refine ta 4 25 ?_
       refine on 6 27 (fun K hK => ?_)
       refine gs Try.func73 #[.int .i64 (ζm (x1_1+1))] ?_
       with_reducible refine (laws_markText.calls k1 (ζm (x1_1+1)) t252 _ A6.out).mono ?_
       rintro e w9 ⟨rfl,hb⟩
       refine ⟨_,rfl,?_⟩
       replace HB:=ζa (δr (by exact HB.out) hb)
       (try clear hb)
       (try clear hb2)
       (try clear hk)
       (try clear hi)
       refine hK.out _ _ ⟨((HB.out.cell (World.block_lt_of_cell? w _ hw251_0)).trans hw251_0),((HB.out.cell (World.block_lt_of_cell? w _ hw251_1)).trans hw251_1)⟩ (fun hHeld => ?_)
       clear hK K
       refine nm 27 ?_
       refine pu 7 28 ?_
       refine done_ (done_of HT_.out (by kernel_rfl)) ?_
       try go_wp2
       go_roundg k1
       case measure=>have:=HK1.out;omega
       case rel=>exact ⟨(ζm ((ζm (x1_1+1))+1)),(ζm (x5_1+1)),(by rfl),(by rfl),H',⟨by have:=HK1.out;omega⟩,⟨by repeat ((with_reducible exact HB.out))⟩⟩
      ·
       rw [if_neg c7] at H
       have c7b0:=beq_eq_false_iff_ne.mpr c7
       have c7b1:=bne_iff_ne.mpr c7
       obtain rfl:=Option.some.inj H
       have p250:0≤(x5_1:Int):=of_decide_eq_true (by (with_reducible assumption))
       have q250:x5_1<(l0.length:Int):=of_decide_eq_true (by (with_reducible assumption))
       obtain ⟨ad250,e250,hx250_0,hx250_1⟩:=at_T39 HR0.out x5_1 p250 q250
       cases e250
       replace hx250_0:=(HB.out.cell (World.block_lt_of_cell? w _ hx250_0)).trans hx250_0
       replace hx250_1:=(HB.out.cell (World.block_lt_of_cell? w _ hx250_1)).trans hx250_1
       replace p250:=eq_true p250
       replace q250:=eq_true q250
       try go_wp2
       replace HB:=ζa (δj HB.out)
       have p251:0≤(x5_1:Int):=of_decide_eq_true (by (with_reducible assumption))
       have q251:x5_1<(l0.length:Int):=of_decide_eq_true (by (with_reducible assumption))
       obtain ⟨ad251,e251,hx251_0,hx251_1⟩:=at_T39 HR0.out x5_1 p251 q251
       have hw251_1:=hx251_1
       have hw251_0:=hx251_0
       obtain rfl:ad250=ad251:=(by injection e251)
       replace hx251_0:=(HB.out.cell (World.block_lt_of_cell? w _ hx251_0)).trans hx251_0
       replace hx251_1:=(HB.out.cell (World.block_lt_of_cell? w _ hx251_1)).trans hx251_1
       replace p251:=eq_true p251
       replace q251:=eq_true q251
       refine sta 8 (fun w'=>w'.cell? (ad250.add ((x5_1).toNat * 2))=some (.int .i64 ((rd_T39 l0 x5_1).f0))∧w'.cell? ⟨(ad250.add ((x5_1).toNat * 2)).block,(ad250.add ((x5_1).toNat * 2)).off+1,none⟩=some (.string ((rd_T39 l0 x5_1).f1))) [] laws_heldStateS.tab7 laws_heldStateS.bits7 ⟨((HB.out.cell (World.block_lt_of_cell? w _ hw251_0)).trans hw251_0),((HB.out.cell (World.block_lt_of_cell? w _ hw251_1)).trans hw251_1)⟩ (fun hHeld HT_ HW_ => ?_)
       generalize wr.drew=w10 at HB hx251_0 hx251_1 hHeld ⊢
       refine pu 0 21 ?_
       refine pu 1 22 ?_
       refine pu 2 23 ?_
       refine pu 3 24 ?_
       refine pu 5 26 ?_
       refine ta 4 25 ?_
       refine on 6 27 (fun K hK => ?_)
       refine gs Try.func73 #[.int .i64 (ζm (x1_1+1))] ?_
       with_reducible refine (laws_markText.calls k1 (ζm (x1_1+1)) t252 _ A6.out).mono ?_
       rintro e w11 ⟨rfl,hb⟩
       refine ⟨_,rfl,?_⟩
       replace HB:=ζa (δr (by exact HB.out) hb)
       (try clear hb)
       (try clear hb2)
       (try clear hk)
       (try clear hi)
       refine hK.out _ _ ⟨((HB.out.cell (World.block_lt_of_cell? w _ hw251_0)).trans hw251_0),((HB.out.cell (World.block_lt_of_cell? w _ hw251_1)).trans hw251_1)⟩ (fun hHeld => ?_)
       clear hK K
       refine nm 27 ?_
       refine pu 7 28 ?_
       refine done_ (done_of HT_.out (by kernel_rfl)) ?_
       try go_wp2
       go_ret
       exact ⟨by rfl,by repeat ((with_reducible exact HB.out))⟩
     ·
      rw [if_neg c5] at H
      have c5b0:=beq_eq_false_iff_ne.mpr c5
      have c5b1:=bne_iff_ne.mpr c5
      obtain rfl:=Option.some.inj H
      have p250:0≤(x5_1:Int):=of_decide_eq_true (by (with_reducible assumption))
      have q250:x5_1<(l0.length:Int):=of_decide_eq_true (by (with_reducible assumption))
      obtain ⟨ad250,e250,hx250_0,hx250_1⟩:=at_T39 HR0.out x5_1 p250 q250
      cases e250
      replace hx250_0:=(HB.out.cell (World.block_lt_of_cell? w _ hx250_0)).trans hx250_0
      replace hx250_1:=(HB.out.cell (World.block_lt_of_cell? w _ hx250_1)).trans hx250_1
      replace p250:=eq_true p250
      replace q250:=eq_true q250
      go_wp2
      go_ret
      exact ⟨by rfl,by repeat ((with_reducible exact HB.out))⟩
    ·
     rw [if_neg c4] at H
     exact absurd H (by simp)
   ·
    rw [if_neg c3] at H
    have c3b0:=decide_eq_false c3
    clear c3
    obtain rfl:=Option.some.inj H
    go_wp2
    go_ret
    exact ⟨by rfl,by repeat ((with_reducible exact HB.out))⟩


set_option maxHeartbeats 8000000
set_option maxRecDepth 100000

/-! ### laws_heldClient: function 23 -/
def laws_heldClient.f (k:Nat) (a0_0:ByteArray) (l0_1:List (S39)) (a1:Int):Option (Int):=(laws_heldStateS.f k l0_1 a1).bind fun t254=>(if t254<0 then (some (-1)) else (some t254))
theorem laws_heldClient.calls (k:Nat) (a0_0:ByteArray) (A0_1:Option Addr) (c0_1:Nat) (l0_1:List (S39)) (a1:Int) (r:Int) (w:World) (hr0_1:Kd.C k39 w A0_1 l0_1.length l0_1) (hc0_1:l0_1.length≤c0_1) (h:laws_heldClient.f k a0_0 l0_1 a1=some r) :
  Calls Try.prog 23 #[.agg #[.string a0_0,.slice A0_1 l0_1.length c0_1],.int .i64 a1] w fun e w'=>e = .returned (.int .i64 r)∧Below w.heap.size w w':=by
 have hu25:=Try.underlying25
 have HR0_1:=ζa hr0_1
 have HC0_1:=ζa hc0_1
 clear hr0_1 hc0_1
 have HB:=ζa (Below.refl w.heap.size w)
 have H:((laws_heldStateS.f k l0_1 a1).bind fun t254=>(if t254<0 then (some (-1)) else (some t254)))=some r:=h
 clear h
 obtain ⟨t254,A3,H⟩:=bsm H
 by_cases c4:t254<0
 ·
  rw [if_pos c4] at H
  have c4b0:=decide_eq_true c4
  clear c4
  obtain rfl:=Option.some.inj H
  go_enter Try.func23,Try.ntmps23
  go_wp2_with (first|((with_reducible refine δx (N:=2) rfl ?_);refine bev 2 #[.string a0_0,.slice A0_1 l0_1.length c0_1] 25 ?_;intro gb253 hg w5 hbox hb;have BK253:=ζa (hbox);have GW253:=ζa (gbw hg (by exact HB.out));have GE253:=ζa (gbw hg (by exact HB.out));replace HB:=ζa (δr (by exact HB.out) hb);clear hb hbox hg;have hcz6_0:w5.cell? ⟨gb253,0,none⟩=some (.string a0_0):=(δl BK253.out 0).trans rfl;have hcz6_1:w5.cell? ⟨gb253,1,none⟩=some (.slice A0_1 l0_1.length c0_1):=(δl BK253.out 1).trans rfl;have hfz6_0:=δm BK253.out 0;have hfz6_1:=δm BK253.out 1)|((with_reducible refine δv (f:=50) rfl ?_);refine gl 8 Try.func50 #[.slice A0_1 l0_1.length c0_1,.int .i64 a1] ?_;(with_reducible refine (laws_heldStateS.calls k _ _ l0_1 a1 t254 _ ?side1 ?side2 A3.out).mono ?_);(case side1=>repeat (exact (Kd.C_below HR0_1.out HB.out)));(case side2=>exact HC0_1.out);rintro e w7 ⟨rfl,hb⟩;refine ⟨_,rfl,?_⟩;replace BK253:=ζa (blk_below (g:=gb253) (o:=.cells #[.string a0_0,.slice A0_1 l0_1.length c0_1] 25 (0,0)) (by exact BK253.out) hb);replace HB:=ζa (δr (by exact HB.out) hb);(try clear hb);(try clear hb2);(try clear hk);(try clear hi)))
  go_ret
  exact ⟨by rfl,by repeat ((with_reducible exact HB.out))⟩
 ·
  rw [if_neg c4] at H
  have c4b0:=decide_eq_false c4
  clear c4
  obtain rfl:=Option.some.inj H
  go_enter Try.func23,Try.ntmps23
  go_wp2_with (first|((with_reducible refine δx (N:=2) rfl ?_);refine bev 2 #[.string a0_0,.slice A0_1 l0_1.length c0_1] 25 ?_;intro gb253 hg w8 hbox hb;have BK253:=ζa (hbox);have GW253:=ζa (gbw hg (by exact HB.out));have GE253:=ζa (gbw hg (by exact HB.out));replace HB:=ζa (δr (by exact HB.out) hb);clear hb hbox hg;have hcz9_0:w8.cell? ⟨gb253,0,none⟩=some (.string a0_0):=(δl BK253.out 0).trans rfl;have hcz9_1:w8.cell? ⟨gb253,1,none⟩=some (.slice A0_1 l0_1.length c0_1):=(δl BK253.out 1).trans rfl;have hfz9_0:=δm BK253.out 0;have hfz9_1:=δm BK253.out 1)|((with_reducible refine δv (f:=50) rfl ?_);refine gl 8 Try.func50 #[.slice A0_1 l0_1.length c0_1,.int .i64 a1] ?_;(with_reducible refine (laws_heldStateS.calls k _ _ l0_1 a1 t254 _ ?side1 ?side2 A3.out).mono ?_);(case side1=>repeat (exact (Kd.C_below HR0_1.out HB.out)));(case side2=>exact HC0_1.out);rintro e w10 ⟨rfl,hb⟩;refine ⟨_,rfl,?_⟩;replace BK253:=ζa (blk_below (g:=gb253) (o:=.cells #[.string a0_0,.slice A0_1 l0_1.length c0_1] 25 (0,0)) (by exact BK253.out) hb);replace HB:=ζa (δr (by exact HB.out) hb);(try clear hb);(try clear hb2);(try clear hk);(try clear hi)))
  go_ret
  exact ⟨by rfl,by repeat ((with_reducible exact HB.out))⟩

end Go.Proofs.Ytggemblkhckbpaa.Q
