/- Parts of the proof: what single Go functions compute, each with its walk, and plain laws over these. -/
import Derived.Test.YtggemblkhckbpaaVMac
import Derived.Test.YtggemblkhckbpaaM0
import Derived.Test.YtggemblkhckbpaaM1
import Derived.Test.YtggemblkhckbpaaM2
import Derived.IntWalk
import Derived.Laws.BitsLemmas
import Derived.Test.YtggemblkhckbpaaVMore
import Derived.Lib.ItoaNum
import Derived.Laws.Entries
namespace Go.Proofs.Ytggemblkhckbpaa.Q
open Go.RowKit Go.Proofs.YtggemblkhckbpaaW.PrintWords Go.Proofs.YtggemblkhckbpaaW.PrintLast Go.Proofs.YtggemblkhckbpaaW.PrintMore
open Go.Proofs.YtggemblkhckbpaaW.PrintWords.Aside0 renaming mk → ζa
open Go.Proofs.YtggemblkhckbpaaW.PrintWords renaming gate_dst → δx, below_step → δr, blk_cell → δl, blk_frozen → δm, gate_callee → δv, blk_drew → δp, below_drew1 → δj, below_size → δs, cell_far → δt, below_set → δq, blk_put → δw
open Go.Proofs.YtggemblkhckbpaaW.PrintWords.Kd renaming R_below → ζh, R_ne → ζf, R_far → ζi, R_drew → ζe, R_reads' → ζg
open Go.Act renaming put → ζl
open List renaming setIfInBounds_toArray → δa, set_cons_zero → δb, set_cons_succ → δc, map_toArray → δd, map_cons → δe, map_nil → δf
open Go.Proofs.YtggemblkhckbpaaW.PrintLast renaming pure_ → ζk
open Bool renaming true → τ, false → φ
attribute [local go_sem] max2_int min2_int max_two min_two max_three min_three max_four min_four   -- for this text's walks alone
set_option linter.unusedVariables false
set_option linter.unusedSimpArgs false
set_option maxHeartbeats 8000000
set_option maxRecDepth 100000

/-! ### laws_FnExactUpdateClient: function 4 -/
mutual
def laws_FnExactUpdateClient.j0:Nat→Int→Int→Bool→ByteArray→List (S98)→Int→Int→ByteArray→ByteArray→ByteArray→List (S39)→ByteArray→List (S39)→ByteArray→List (S39)→Option (Bool)
 | 0,_,_,_,_,_,_,_,_,_,_,_,_,_,_,_=>none
 | k+1,x7,x10,x51,x256000,x256001,x257000,x257001,x257002,x257003,x273000,x273001,x278000,x278001,x288000,x288001=>if x51=τ then (some φ) else ((laws_toClient.f k x256000 x256001).bind fun bt289=>((laws_eqClient.f k x278000 x278001 bt289.1 bt289.2).bind fun t293=>(if t293=τ then ((laws_markClient.f k x278000 x278001 1).bind fun bt294=>(if bt294.1<0 then (laws_FnExactUpdateClient.j1 k x7 τ x256000 x256001 x257000 x257001 x257002 x257003 x273000 x273001 x288000 x288001) else ((laws_eqClient.f k x288000 x288001 x273000 x273001).bind fun t296=>(if t296=τ then (laws_FnExactUpdateClient.j1 k x7 (x10 != x7) x256000 x256001 x257000 x257001 x257002 x257003 x273000 x273001 x288000 x288001) else (laws_FnExactUpdateClient.j1 k x7 τ x256000 x256001 x257000 x257001 x257002 x257003 x273000 x273001 x288000 x288001))))) else (some φ))))
def laws_FnExactUpdateClient.j1:Nat→Int→Bool→ByteArray→List (S98)→Int→Int→ByteArray→ByteArray→ByteArray→List (S39)→ByteArray→List (S39)→Option (Bool)
 | 0,_,_,_,_,_,_,_,_,_,_,_,_=>none
 | k+1,x7,x72,x256000,x256001,x257000,x257001,x257002,x257003,x273000,x273001,x288000,x288001=>if x72=τ then (some φ) else ((laws_markClient.f k x288000 x288001 1).bind fun bt297=>((laws_heldClient.f k x288000 bt297.2 1).bind fun t299=>(if t299<0 then (some φ) else (if t299=bt297.1 then ((laws_toClient.f k x256000 x256001).bind fun bt300=>((laws_toHeader.f x257000 x257001 x257002 x257003).bind fun bt304=>((impl_UpdateClient.f k bt300.1 bt300.2 bt304.1 bt304.2.1 bt304.2.2.1 bt304.2.2.2).bind fun bt308=>((laws_eqClient.f k bt308.1 bt308.2.1 x273000 x273001).bind fun t314=>(if t314=τ then (laws_FnExactUpdateClient.j2 k bt297.1 (bt308.2.2 != x7) x288000 bt297.2) else (laws_FnExactUpdateClient.j2 k bt297.1 τ x288000 bt297.2)))))) else (some φ)))))
def laws_FnExactUpdateClient.j2:Nat→Int→Bool→ByteArray→List (S39)→Option (Bool)
 | 0,_,_,_,_=>none
 | k+1,x12,x100,x288000,x288001=>if x100=τ then (some φ) else ((laws_heldClient.f k x288000 x288001 1).bind fun t315=>(if t315<0 then (some φ) else (if t315=x12 then (some τ) else (some φ))))
end
def laws_FnExactUpdateClient.f (k:Nat) (a0_0:ByteArray) (l0_1:List (S98)) (a1_0:Int) (a1_1:Int) (a1_2:ByteArray) (a1_3:ByteArray):Option (Bool):=(laws_szClient.f k a0_0 l0_1 1048576).bind fun t257=>(if t257<0 then (some τ) else ((laws_szHeader.f a1_0 a1_1 a1_2 a1_3 t257).bind fun t258=>(if t258<0 then (some τ) else ((laws_toClient.f k a0_0 l0_1).bind fun bt259=>((laws_toHeader.f a1_0 a1_1 a1_2 a1_3).bind fun bt263=>((spec_UpdateClient.f k bt259.1 bt259.2 bt263.1 bt263.2.1 bt263.2.2.1 bt263.2.2.2).bind fun bt267=>((laws_toClient.f k a0_0 l0_1).bind fun bt273=>((laws_toHeader.f a1_0 a1_1 a1_2 a1_3).bind fun bt278=>((impl_UpdateClient.f k bt273.1 bt273.2 bt278.1 bt278.2.1 bt278.2.2.1 bt278.2.2.2).bind fun bt282=>((laws_eqClient.f k bt282.1 bt282.2.1 bt267.1 bt267.2.1).bind fun t288=>(if t288=τ then (laws_FnExactUpdateClient.j0 k bt267.2.2 bt282.2.2 (bt282.2.2 != bt267.2.2) a0_0 l0_1 a1_0 a1_1 a1_2 a1_3 bt267.1 bt267.2.1 bt273.1 bt273.2 bt282.1 bt282.2.1) else (laws_FnExactUpdateClient.j0 k bt267.2.2 bt282.2.2 τ a0_0 l0_1 a1_0 a1_1 a1_2 a1_3 bt267.1 bt267.2.1 bt273.1 bt273.2 bt282.1 bt282.2.1))))))))))))
def laws_FnExactUpdateClient.T8:Bool × List (List Nat × List Nat):=(τ,[([],[]),([0],[0]),([],[]),([2,1],[2]),([1,3,3],[1,3]),([4],[4]),([5],[5]),([5],[5]),([],[]),([8,6,4,0,1,2,3,4,5,6,8],[6,8]),([7,9,0,1,2,3,4,5,6,7,8,9],[7])])
def laws_FnExactUpdateClient.B8:List Nat:=[0,1,0,7,15,31,63,63,0,383,1023]
theorem laws_FnExactUpdateClient.tab8:rtab .any (opsOf Try.f4 8)=laws_FnExactUpdateClient.T8:=by kernel_rfl
theorem laws_FnExactUpdateClient.bits8:waitsOk laws_FnExactUpdateClient.T8.2 laws_FnExactUpdateClient.B8=τ:=by kernel_rfl
def laws_FnExactUpdateClient.T10:Bool × List (List Nat × List Nat):=(τ,[([],[]),([],[]),([1],[1]),([0,2,2],[0,2]),([3],[3]),([4],[4]),([4],[4]),([],[]),([7,5,3,0,1,2,3,4,5,7],[5,7]),([6,8,0,1,2,3,4,5,6,7,8],[6])])
def laws_FnExactUpdateClient.B10:List Nat:=[0,0,2,7,15,31,31,0,191,511]
theorem laws_FnExactUpdateClient.tab10:rtab .any (opsOf Try.f4 10)=laws_FnExactUpdateClient.T10:=by kernel_rfl
theorem laws_FnExactUpdateClient.bits10:waitsOk laws_FnExactUpdateClient.T10.2 laws_FnExactUpdateClient.B10=τ:=by kernel_rfl
def laws_FnExactUpdateClient.T27:Bool × List (List Nat × List Nat):=(τ,[([],[]),([0],[0]),([],[]),([2,1],[2]),([1,3,3],[1,3]),([4],[4]),([5],[5]),([5],[5]),([],[]),([8,6,4,0,1,2,3,4,5,6,8],[6,8]),([7,9,0,1,2,3,4,5,6,7,8,9],[7])])
def laws_FnExactUpdateClient.B27:List Nat:=[0,1,0,7,15,31,63,63,0,383,1023]
theorem laws_FnExactUpdateClient.tab27:rtab .any (opsOf Try.f4 27)=laws_FnExactUpdateClient.T27:=by kernel_rfl
theorem laws_FnExactUpdateClient.bits27:waitsOk laws_FnExactUpdateClient.T27.2 laws_FnExactUpdateClient.B27=τ:=by kernel_rfl
theorem laws_FnExactUpdateClient.calls (k:Nat) (a0_0:ByteArray) (A0_1:Option Addr) (c0_1:Nat) (l0_1:List (S98)) (a1_0:Int) (a1_1:Int) (a1_2:ByteArray) (a1_3:ByteArray) (r:Bool) (w:World) (hr0_1:Kd.C k98 w A0_1 l0_1.length l0_1) (hc0_1:l0_1.length≤c0_1) (h:laws_FnExactUpdateClient.f k a0_0 l0_1 a1_0 a1_1 a1_2 a1_3=some r) :
  Calls Try.prog 4 #[.agg #[.string a0_0,.slice A0_1 l0_1.length c0_1],.agg #[.int .i64 a1_0,.int .i64 a1_1,.string a1_2,.string a1_3]] w fun e w'=>e = .returned (.bool r)∧Below w.heap.size w w':=by
 have hu45:=Try.underlying45
 have hu46:=Try.underlying46
 have hu25:=Try.underlying25
 have HR0_1:=ζa hr0_1
 have HC0_1:=ζa hc0_1
 clear hr0_1 hc0_1
 have HB:=ζa (Below.refl w.heap.size w)
 have H:((laws_szClient.f k a0_0 l0_1 1048576).bind fun t257=>(if t257<0 then (some τ) else ((laws_szHeader.f a1_0 a1_1 a1_2 a1_3 t257).bind fun t258=>(if t258<0 then (some τ) else ((laws_toClient.f k a0_0 l0_1).bind fun bt259=>((laws_toHeader.f a1_0 a1_1 a1_2 a1_3).bind fun bt263=>((spec_UpdateClient.f k bt259.1 bt259.2 bt263.1 bt263.2.1 bt263.2.2.1 bt263.2.2.2).bind fun bt267=>((laws_toClient.f k a0_0 l0_1).bind fun bt273=>((laws_toHeader.f a1_0 a1_1 a1_2 a1_3).bind fun bt278=>((impl_UpdateClient.f k bt273.1 bt273.2 bt278.1 bt278.2.1 bt278.2.2.1 bt278.2.2.2).bind fun bt282=>((laws_eqClient.f k bt282.1 bt282.2.1 bt267.1 bt267.2.1).bind fun t288=>(if t288=τ then (laws_FnExactUpdateClient.j0 k bt267.2.2 bt282.2.2 (bt282.2.2 != bt267.2.2) a0_0 l0_1 a1_0 a1_1 a1_2 a1_3 bt267.1 bt267.2.1 bt273.1 bt273.2 bt282.1 bt282.2.1) else (laws_FnExactUpdateClient.j0 k bt267.2.2 bt282.2.2 τ a0_0 l0_1 a1_0 a1_1 a1_2 a1_3 bt267.1 bt267.2.1 bt273.1 bt273.2 bt282.1 bt282.2.1)))))))))))))=some r:=h
 clear h
 obtain ⟨t257,A3,H⟩:=bsm H
 by_cases c4:t257<0
 ·
  rw [if_pos c4] at H
  have c4b0:=decide_eq_true c4
  clear c4
  obtain rfl:=Option.some.inj H
  go_enter Try.func4,Try.ntmps4
  go_wp2_with (first|((with_reducible refine δx (N:=2) rfl ?_);refine bev 2 #[.string a0_0,.slice A0_1 l0_1.length c0_1] 45 ?_;intro gb255 hg w5 hbox hb;have BK255:=ζa (hbox);have GW255:=ζa (gbw hg (by exact HB.out));have GE255:=ζa (gbw hg (by exact HB.out));replace HB:=ζa (δr (by exact HB.out) hb);clear hb hbox hg)|((with_reducible refine δx (N:=3) rfl ?_);refine bev 3 #[.int .i64 a1_0,.int .i64 a1_1,.string a1_2,.string a1_3] 46 ?_;intro gb256 hg w6 hbox hb;have BK256:=ζa (hbox);have GW256:=ζa (gbw hg (by exact HB.out));have GE256:=ζa (gbw hg (by exact HB.out));replace HB:=ζa (δr (by exact HB.out) hb);have NB255_256:=ζa ((by rw [hg];exact Nat.ne_of_lt (blk_lt (g:=gb255) (o:=.cells #[.string a0_0,.slice A0_1 l0_1.length c0_1] 45 (0,0)) (by exact BK255.out)):gb255≠gb256));have NB256_255:=ζa ((by rw [hg];exact Nat.ne_of_gt (blk_lt (g:=gb255) (o:=.cells #[.string a0_0,.slice A0_1 l0_1.length c0_1] 45 (0,0)) (by exact BK255.out)):gb256≠gb255));replace BK255:=ζa (blk_below (g:=gb255) (o:=.cells #[.string a0_0,.slice A0_1 l0_1.length c0_1] 45 (0,0)) (by exact BK255.out) hb);clear hb hbox hg;have hnb7:=NB255_256.out;have hnc7:=NB256_255.out;have hcz8_0:w6.cell? ⟨gb255,0,none⟩=some (.string a0_0):=(δl BK255.out 0).trans rfl;have hcz8_1:w6.cell? ⟨gb255,1,none⟩=some (.slice A0_1 l0_1.length c0_1):=(δl BK255.out 1).trans rfl;have hfz8_0:=δm BK255.out 0;have hfz8_1:=δm BK255.out 1)|((with_reducible refine δv (f:=16) rfl ?_);refine gl 18 Try.func16 #[.agg #[.string a0_0,.slice A0_1 l0_1.length c0_1],.int .i64 1048576] ?_;(with_reducible refine (laws_szClient.calls k a0_0 _ _ l0_1 1048576 t257 _ ?side1 ?side2 A3.out).mono ?_);(case side1=>repeat (exact (Kd.C_below HR0_1.out HB.out)));(case side2=>exact HC0_1.out);rintro e w9 ⟨rfl,hb⟩;refine ⟨_,rfl,?_⟩;replace BK255:=ζa (blk_below (g:=gb255) (o:=.cells #[.string a0_0,.slice A0_1 l0_1.length c0_1] 45 (0,0)) (by exact BK255.out) hb);replace BK256:=ζa (blk_below (g:=gb256) (o:=.cells #[.int .i64 a1_0,.int .i64 a1_1,.string a1_2,.string a1_3] 46 (0,0)) (by exact BK256.out) hb);replace HB:=ζa (δr (by exact HB.out) hb);(try clear hb);(try clear hb2);(try clear hk);(try clear hi)))
  go_ret
  exact ⟨by rfl,by repeat ((with_reducible exact HB.out))⟩
 ·
  rw [if_neg c4] at H
  have c4b0:=decide_eq_false c4
  clear c4
  obtain ⟨t258,A10,H⟩:=bsm H
  by_cases c11:t258<0
  ·
   rw [if_pos c11] at H
   have c11b0:=decide_eq_true c11
   clear c11
   obtain rfl:=Option.some.inj H
   go_enter Try.func4,Try.ntmps4
   go_wp2_with (first|((with_reducible refine δx (N:=2) rfl ?_);refine bev 2 #[.string a0_0,.slice A0_1 l0_1.length c0_1] 45 ?_;intro gb255 hg w12 hbox hb;have BK255:=ζa (hbox);have GW255:=ζa (gbw hg (by exact HB.out));have GE255:=ζa (gbw hg (by exact HB.out));replace HB:=ζa (δr (by exact HB.out) hb);clear hb hbox hg)|((with_reducible refine δx (N:=3) rfl ?_);refine bev 3 #[.int .i64 a1_0,.int .i64 a1_1,.string a1_2,.string a1_3] 46 ?_;intro gb256 hg w13 hbox hb;have BK256:=ζa (hbox);have GW256:=ζa (gbw hg (by exact HB.out));have GE256:=ζa (gbw hg (by exact HB.out));replace HB:=ζa (δr (by exact HB.out) hb);have NB255_256:=ζa ((by rw [hg];exact Nat.ne_of_lt (blk_lt (g:=gb255) (o:=.cells #[.string a0_0,.slice A0_1 l0_1.length c0_1] 45 (0,0)) (by exact BK255.out)):gb255≠gb256));have NB256_255:=ζa ((by rw [hg];exact Nat.ne_of_gt (blk_lt (g:=gb255) (o:=.cells #[.string a0_0,.slice A0_1 l0_1.length c0_1] 45 (0,0)) (by exact BK255.out)):gb256≠gb255));replace BK255:=ζa (blk_below (g:=gb255) (o:=.cells #[.string a0_0,.slice A0_1 l0_1.length c0_1] 45 (0,0)) (by exact BK255.out) hb);clear hb hbox hg;have hnb14:=NB255_256.out;have hnc14:=NB256_255.out;have hcz15_0:w13.cell? ⟨gb255,0,none⟩=some (.string a0_0):=(δl BK255.out 0).trans rfl;have hcz15_1:w13.cell? ⟨gb255,1,none⟩=some (.slice A0_1 l0_1.length c0_1):=(δl BK255.out 1).trans rfl;have hfz15_0:=δm BK255.out 0;have hfz15_1:=δm BK255.out 1)|((with_reducible refine δv (f:=16) rfl ?_);refine gl 18 Try.func16 #[.agg #[.string a0_0,.slice A0_1 l0_1.length c0_1],.int .i64 1048576] ?_;(with_reducible refine (laws_szClient.calls k a0_0 _ _ l0_1 1048576 t257 _ ?side1 ?side2 A3.out).mono ?_);(case side1=>repeat (exact (Kd.C_below HR0_1.out HB.out)));(case side2=>exact HC0_1.out);rintro e w16 ⟨rfl,hb⟩;refine ⟨_,rfl,?_⟩;replace BK255:=ζa (blk_below (g:=gb255) (o:=.cells #[.string a0_0,.slice A0_1 l0_1.length c0_1] 45 (0,0)) (by exact BK255.out) hb);replace BK256:=ζa (blk_below (g:=gb256) (o:=.cells #[.int .i64 a1_0,.int .i64 a1_1,.string a1_2,.string a1_3] 46 (0,0)) (by exact BK256.out) hb);replace HB:=ζa (δr (by exact HB.out) hb);(try clear hb);(try clear hb2);(try clear hk);(try clear hi);have hcz17_0:w16.cell? ⟨gb256,0,none⟩=some (.int .i64 a1_0):=(δl BK256.out 0).trans rfl;have hcz17_1:w16.cell? ⟨gb256,1,none⟩=some (.int .i64 a1_1):=(δl BK256.out 1).trans rfl;have hcz17_2:w16.cell? ⟨gb256,2,none⟩=some (.string a1_2):=(δl BK256.out 2).trans rfl;have hcz17_3:w16.cell? ⟨gb256,3,none⟩=some (.string a1_3):=(δl BK256.out 3).trans rfl;have hfz17_0:=δm BK256.out 0;have hfz17_1:=δm BK256.out 1;have hfz17_2:=δm BK256.out 2;have hfz17_3:=δm BK256.out 3)|((with_reducible refine δv (f:=17) rfl ?_);refine gl 23 Try.func17 #[.agg #[.int .i64 a1_0,.int .i64 a1_1,.string a1_2,.string a1_3],.int .i64 t257] ?_;(with_reducible refine (laws_szHeader.calls a1_0 a1_1 a1_2 a1_3 t257 t258 _ A10.out).mono ?_);rintro e w18 ⟨rfl,hb⟩;refine ⟨_,rfl,?_⟩;replace BK255:=ζa (blk_below (g:=gb255) (o:=.cells #[.string a0_0,.slice A0_1 l0_1.length c0_1] 45 (0,0)) (by exact BK255.out) hb);replace BK256:=ζa (blk_below (g:=gb256) (o:=.cells #[.int .i64 a1_0,.int .i64 a1_1,.string a1_2,.string a1_3] 46 (0,0)) (by exact BK256.out) hb);replace HB:=ζa (δr (by exact HB.out) hb);(try clear hb);(try clear hb2);(try clear hk);(try clear hi)))
   go_ret
   exact ⟨by rfl,by repeat ((with_reducible exact HB.out))⟩
  ·
   rw [if_neg c11] at H
   have c11b0:=decide_eq_false c11
   clear c11
   obtain ⟨⟨t259,t260⟩,A19,H⟩:=bsm H
   dsimp only at H
   obtain ⟨⟨t263,t264,t265,t266⟩,A20,H⟩:=bsm H
   dsimp only at H
   obtain ⟨⟨t267,t268,t271⟩,A21,H⟩:=bsm H
   dsimp only at H
   obtain ⟨⟨t273,t274⟩,A22,H⟩:=bsm H
   dsimp only at H
   obtain ⟨⟨t278,t279,t280,t281⟩,A23,H⟩:=bsm H
   dsimp only at H
   obtain ⟨⟨t282,t283,t286⟩,A24,H⟩:=bsm H
   dsimp only at H
   have HC25:=ζa H
   clear H
   go_enter Try.func4,Try.ntmps4
   try go_wp2_with (first|((with_reducible refine δx (N:=2) rfl ?_);refine bev 2 #[.string a0_0,.slice A0_1 l0_1.length c0_1] 45 ?_;intro gb255 hg w26 hbox hb;have BK255:=ζa (hbox);have GW255:=ζa (gbw hg (by exact HB.out));have GE255:=ζa (gbw hg (by exact HB.out));replace HB:=ζa (δr (by exact HB.out) hb);clear hb hbox hg)|((with_reducible refine δx (N:=3) rfl ?_);refine bev 3 #[.int .i64 a1_0,.int .i64 a1_1,.string a1_2,.string a1_3] 46 ?_;intro gb256 hg w27 hbox hb;have BK256:=ζa (hbox);have GW256:=ζa (gbw hg (by exact HB.out));have GE256:=ζa (gbw hg (by exact HB.out));replace HB:=ζa (δr (by exact HB.out) hb);have NB255_256:=ζa ((by rw [hg];exact Nat.ne_of_lt (blk_lt (g:=gb255) (o:=.cells #[.string a0_0,.slice A0_1 l0_1.length c0_1] 45 (0,0)) (by exact BK255.out)):gb255≠gb256));have NB256_255:=ζa ((by rw [hg];exact Nat.ne_of_gt (blk_lt (g:=gb255) (o:=.cells #[.string a0_0,.slice A0_1 l0_1.length c0_1] 45 (0,0)) (by exact BK255.out)):gb256≠gb255));replace BK255:=ζa (blk_below (g:=gb255) (o:=.cells #[.string a0_0,.slice A0_1 l0_1.length c0_1] 45 (0,0)) (by exact BK255.out) hb);clear hb hbox hg;have hnb28:=NB255_256.out;have hnc28:=NB256_255.out;have hcz29_0:w27.cell? ⟨gb255,0,none⟩=some (.string a0_0):=(δl BK255.out 0).trans rfl;have hcz29_1:w27.cell? ⟨gb255,1,none⟩=some (.slice A0_1 l0_1.length c0_1):=(δl BK255.out 1).trans rfl;have hfz29_0:=δm BK255.out 0;have hfz29_1:=δm BK255.out 1)|((with_reducible refine δv (f:=16) rfl ?_);refine gl 18 Try.func16 #[.agg #[.string a0_0,.slice A0_1 l0_1.length c0_1],.int .i64 1048576] ?_;(with_reducible refine (laws_szClient.calls k a0_0 _ _ l0_1 1048576 t257 _ ?side1 ?side2 A3.out).mono ?_);(case side1=>repeat (exact (Kd.C_below HR0_1.out HB.out)));(case side2=>exact HC0_1.out);rintro e w30 ⟨rfl,hb⟩;refine ⟨_,rfl,?_⟩;replace BK255:=ζa (blk_below (g:=gb255) (o:=.cells #[.string a0_0,.slice A0_1 l0_1.length c0_1] 45 (0,0)) (by exact BK255.out) hb);replace BK256:=ζa (blk_below (g:=gb256) (o:=.cells #[.int .i64 a1_0,.int .i64 a1_1,.string a1_2,.string a1_3] 46 (0,0)) (by exact BK256.out) hb);replace HB:=ζa (δr (by exact HB.out) hb);(try clear hb);(try clear hb2);(try clear hk);(try clear hi);have hcz31_0:w30.cell? ⟨gb256,0,none⟩=some (.int .i64 a1_0):=(δl BK256.out 0).trans rfl;have hcz31_1:w30.cell? ⟨gb256,1,none⟩=some (.int .i64 a1_1):=(δl BK256.out 1).trans rfl;have hcz31_2:w30.cell? ⟨gb256,2,none⟩=some (.string a1_2):=(δl BK256.out 2).trans rfl;have hcz31_3:w30.cell? ⟨gb256,3,none⟩=some (.string a1_3):=(δl BK256.out 3).trans rfl;have hfz31_0:=δm BK256.out 0;have hfz31_1:=δm BK256.out 1;have hfz31_2:=δm BK256.out 2;have hfz31_3:=δm BK256.out 3)|((with_reducible refine δv (f:=17) rfl ?_);refine gl 23 Try.func17 #[.agg #[.int .i64 a1_0,.int .i64 a1_1,.string a1_2,.string a1_3],.int .i64 t257] ?_;(with_reducible refine (laws_szHeader.calls a1_0 a1_1 a1_2 a1_3 t257 t258 _ A10.out).mono ?_);rintro e w32 ⟨rfl,hb⟩;refine ⟨_,rfl,?_⟩;replace BK255:=ζa (blk_below (g:=gb255) (o:=.cells #[.string a0_0,.slice A0_1 l0_1.length c0_1] 45 (0,0)) (by exact BK255.out) hb);replace BK256:=ζa (blk_below (g:=gb256) (o:=.cells #[.int .i64 a1_0,.int .i64 a1_1,.string a1_2,.string a1_3] 46 (0,0)) (by exact BK256.out) hb);replace HB:=ζa (δr (by exact HB.out) hb);(try clear hb);(try clear hb2);(try clear hk);(try clear hi)))
   replace BK255:=ζa (δp BK255.out)
   replace BK256:=ζa (δp BK256.out)
   replace HB:=ζa (δj HB.out)
   refine sta 11 (fun w'=>w'.cell? ⟨gb255,0,none⟩=some (.string a0_0)∧w'.cell? ⟨gb255,1,none⟩=some (.slice A0_1 l0_1.length c0_1)∧w'.cell? ⟨gb256,0,none⟩=some (.int .i64 a1_0)∧w'.cell? ⟨gb256,1,none⟩=some (.int .i64 a1_1)∧w'.cell? ⟨gb256,2,none⟩=some (.string a1_2)∧w'.cell? ⟨gb256,3,none⟩=some (.string a1_3)) [] laws_FnExactUpdateClient.tab8 laws_FnExactUpdateClient.bits8 ⟨(δl BK255.out 0).trans rfl,(δl BK255.out 1).trans rfl,(δl BK256.out 0).trans rfl,(δl BK256.out 1).trans rfl,(δl BK256.out 2).trans rfl,(δl BK256.out 3).trans rfl⟩ (fun hHeld HT_ HW_ => ?_)
   generalize w32.drew=w33 at BK255 BK256 HB hHeld ⊢
   refine ta 0 27 ?_
   refine ta 2 29 ?_
   refine join_ (σ:=Value × Value × Nat) 2 #[τ,τ,τ,τ,τ,τ,τ,τ,τ,φ,φ] (fun s_ => [(28,.agg #[.string t259,s_.1]),(30,.agg #[.int .i64 t263,.int .i64 t264,.string t265,.string t266]),(31,.tuple #[.agg #[.string t267,s_.2.1],.int .i64 t271]),(6,.pointer (some ⟨s_.2.2,0,none⟩)),(26,.tuple #[.agg #[.string t267,s_.2.1],.int .i64 t271]),(32,.agg #[.string t267,s_.2.1]),(33,.int .i64 t271)]) (fun s_ w'=>(w'.cell? ⟨gb255,0,none⟩=some (.string a0_0)∧w'.cell? ⟨gb255,1,none⟩=some (.slice A0_1 l0_1.length c0_1)∧w'.cell? ⟨gb256,0,none⟩=some (.int .i64 a1_0)∧w'.cell? ⟨gb256,1,none⟩=some (.int .i64 a1_1)∧w'.cell? ⟨gb256,2,none⟩=some (.string a1_2)∧w'.cell? ⟨gb256,3,none⟩=some (.string a1_3))∧(Kd.R k39 39 w' w.heap.size (fun _=>True) s_.2.1 t268)∧(w'.heap[gb255]? = some (.cells #[.string a0_0,.slice A0_1 l0_1.length c0_1] 45 (0,0)))∧(w'.heap[gb256]? = some (.cells #[.int .i64 a1_0,.int .i64 a1_1,.string a1_2,.string a1_3] 46 (0,0)))∧(w'.heap[s_.2.2]? = some (.cells #[.string (⟨#[]⟩:ByteArray),.slice none 0 0] 25 (0,0)))∧(w.heap.size≤s_.2.2)∧(w.heap.size≤s_.2.2)∧(gb255≠s_.2.2)∧(s_.2.2≠gb255)∧(gb256≠s_.2.2)∧(s_.2.2≠gb256)∧(Below w.heap.size w w')) ?_ ?_
   rotate_left
   ·
    intro hCont
    refine tw 1 8 28 6 (fun K hK => ?_) (fun K hK => ?_)
    ·
     skip
     refine gs Try.func19 #[.agg #[.string a0_0,.slice A0_1 l0_1.length c0_1]] ?_
     with_reducible refine (laws_toClient.calls k a0_0 _ _ l0_1 t259 t260 _ ?side1 ?side2 A19.out).mono ?_
     (case side1=>repeat (exact (Kd.C_below HR0_1.out HB.out)))
     (case side2=>exact HC0_1.out)
     rintro e w34 ⟨v261,rfl,ho0,hb⟩
     refine ⟨_,rfl,?_⟩
     have HO262:=ζa (Kd.R_lower ho0 (δs (by exact HB.out)))
     replace BK255:=ζa (blk_below (g:=gb255) (o:=.cells #[.string a0_0,.slice A0_1 l0_1.length c0_1] 45 (0,0)) (by exact BK255.out) hb)
     replace BK256:=ζa (blk_below (g:=gb256) (o:=.cells #[.int .i64 a1_0,.int .i64 a1_1,.string a1_2,.string a1_3] 46 (0,0)) (by exact BK256.out) hb)
     replace HB:=ζa (δr (by exact HB.out) hb)
     (try clear hb)
     (try clear hb2)
     (try clear hk)
     (try clear hi)
     (try clear ho0)
     refine hK.out _ _ ⟨(δl BK255.out 0).trans rfl,(δl BK255.out 1).trans rfl,(δl BK256.out 0).trans rfl,(δl BK256.out 1).trans rfl,(δl BK256.out 2).trans rfl,(δl BK256.out 3).trans rfl⟩ (fun hHeld => ?_)
     clear hK K
     refine nm 28 ?_
     refine tw 3 8 30 6 (fun K hK => ?_) (fun K hK => ?_)
     ·
      skip
      refine gs Try.func20 #[.agg #[.int .i64 a1_0,.int .i64 a1_1,.string a1_2,.string a1_3]] ?_
      with_reducible refine (laws_toHeader.calls a1_0 a1_1 a1_2 a1_3 t263 t264 t265 t266 _ A20.out).mono ?_
      rintro e w35 ⟨rfl,hb⟩
      refine ⟨_,rfl,?_⟩
      replace HO262:=ζa (ζh (by exact HO262.out) hb)
      replace BK255:=ζa (blk_below (g:=gb255) (o:=.cells #[.string a0_0,.slice A0_1 l0_1.length c0_1] 45 (0,0)) (by exact BK255.out) hb)
      replace BK256:=ζa (blk_below (g:=gb256) (o:=.cells #[.int .i64 a1_0,.int .i64 a1_1,.string a1_2,.string a1_3] 46 (0,0)) (by exact BK256.out) hb)
      replace HB:=ζa (δr (by exact HB.out) hb)
      (try clear hb)
      (try clear hb2)
      (try clear hk)
      (try clear hi)
      obtain ⟨Ao36,co36,eo36⟩:=Kd.R_slice HO262.out
      (subst eo36)
      refine hK.out _ _ ⟨(δl BK255.out 0).trans rfl,(δl BK255.out 1).trans rfl,(δl BK256.out 0).trans rfl,(δl BK256.out 1).trans rfl,(δl BK256.out 2).trans rfl,(δl BK256.out 3).trans rfl⟩ (fun hHeld => ?_)
      clear hK K
      refine nm 30 ?_
      refine tw 4 8 31 6 (fun K hK => ?_) (fun K hK => ?_)
      ·
       skip
       refine gs Try.func18 #[.agg #[.string t259,.slice Ao36 t260.length co36],.agg #[.int .i64 t263,.int .i64 t264,.string t265,.string t266]] ?_
       with_reducible refine (spec_UpdateClient.calls k t259 (fun k_=>some k_=(.slice Ao36 t260.length co36:Value).ownBlock) (.slice Ao36 t260.length co36) t260 t263 t264 t265 t266 t267 t268 t271 w _ ?side1 ?side2 A21.out).mono ?_
       (case side1=>repeat ((with_reducible exact HB.out)))
       (case side2=>exact Kd.R_tight rfl HO262.out)
       rintro e w37 ⟨v269,rfl,ho0,hb,hkp⟩
       refine ⟨_,rfl,?_⟩
       have n0_:=ζa (blk_kept (by exact BK255.out) hkp (fun hs_=>(fun e_=>(ζf HO262.out BK255.out (by decide)) e_) hs_))
       have n1_:=ζa (blk_kept (by exact BK256.out) hkp (fun hs_=>(fun e_=>(ζf HO262.out BK256.out (by decide)) e_) hs_))
       have n2_:=ζa (Kd.R_mono (ok':=fun k_=>True) ho0 (fun k_ hk_=>trivial))
       have n3_:=ζa (hb)
       clear BK255
       clear BK256
       clear HB
       clear HO262
       have BK255:=n0_
       have BK256:=n1_
       have HO270:=n2_
       have HB:=n3_
       clear n0_ n1_ n2_ n3_
       (try clear hb)
       (try clear hkp)
       (try clear ho0)
       refine hK.out _ _ ⟨(δl BK255.out 0).trans rfl,(δl BK255.out 1).trans rfl,(δl BK256.out 0).trans rfl,(δl BK256.out 1).trans rfl,(δl BK256.out 2).trans rfl,(δl BK256.out 3).trans rfl⟩ (fun hHeld => ?_)
       clear hK K
       refine nm 31 ?_
       refine pu 5 26 ?_
       refine pu 6 32 ?_
       refine pu 7 33 ?_
       refine on 8 6 (fun K hK => ?_)
       refine box_step ?hg (N:=6) ?hd (cs:=#[.string (⟨#[]⟩:ByteArray),.slice none 0 0]) (t:=25) ?hr ?_;(case hd=>rfl);(case hg=>rfl);(case hr=>(go_simp;done))
       intro gb272 hg w38 hbox hb
       replace HO270:=ζa (ζh (by exact HO270.out) hb)
       have BK272:=ζa (hbox)
       have GW272:=ζa (gbw hg (by exact HB.out))
       have GE272:=ζa (gbw hg (by exact HB.out))
       replace HB:=ζa (δr (by exact HB.out) hb)
       have NB255_272:=ζa ((by rw [hg];exact Nat.ne_of_lt (blk_lt (g:=gb255) (o:=.cells #[.string a0_0,.slice A0_1 l0_1.length c0_1] 45 (0,0)) (by exact BK255.out)):gb255≠gb272))
       have NB272_255:=ζa ((by rw [hg];exact Nat.ne_of_gt (blk_lt (g:=gb255) (o:=.cells #[.string a0_0,.slice A0_1 l0_1.length c0_1] 45 (0,0)) (by exact BK255.out)):gb272≠gb255))
       replace BK255:=ζa (blk_below (g:=gb255) (o:=.cells #[.string a0_0,.slice A0_1 l0_1.length c0_1] 45 (0,0)) (by exact BK255.out) hb)
       have NB256_272:=ζa ((by rw [hg];exact Nat.ne_of_lt (blk_lt (g:=gb256) (o:=.cells #[.int .i64 a1_0,.int .i64 a1_1,.string a1_2,.string a1_3] 46 (0,0)) (by exact BK256.out)):gb256≠gb272))
       have NB272_256:=ζa ((by rw [hg];exact Nat.ne_of_gt (blk_lt (g:=gb256) (o:=.cells #[.int .i64 a1_0,.int .i64 a1_1,.string a1_2,.string a1_3] 46 (0,0)) (by exact BK256.out)):gb272≠gb256))
       replace BK256:=ζa (blk_below (g:=gb256) (o:=.cells #[.int .i64 a1_0,.int .i64 a1_1,.string a1_2,.string a1_3] 46 (0,0)) (by exact BK256.out) hb)
       clear hb hbox hg
       refine hK.out _ _ ⟨(δl BK255.out 0).trans rfl,(δl BK255.out 1).trans rfl,(δl BK256.out 0).trans rfl,(δl BK256.out 1).trans rfl,(δl BK256.out 2).trans rfl,(δl BK256.out 3).trans rfl⟩ (fun hHeld => ?_)
       clear hK K
       refine nm 6 ?_
       exact norm_ (by simp only [putAll,ζl,δa,δb,δc]) (hCont (.slice Ao36 t260.length co36,v269,gb272) _ ⟨hHeld,(by exact HO270.out),(by exact BK255.out),(by exact BK256.out),(by exact BK272.out),GW272.out,GE272.out,NB255_272.out,NB272_255.out,NB256_272.out,NB272_256.out,(by exact HB.out)⟩)
      ·
       skip
       refine box_step ?hg (N:=6) ?hd (cs:=#[.string (⟨#[]⟩:ByteArray),.slice none 0 0]) (t:=25) ?hr ?_;(case hd=>rfl);(case hg=>rfl);(case hr=>(go_simp;done))
       intro gb272 hg w36 hbox hb
       replace HO262:=ζa (ζh (by exact HO262.out) hb)
       have BK272:=ζa (hbox)
       have GW272:=ζa (gbw hg (by exact HB.out))
       have GE272:=ζa (gbw hg (by exact HB.out))
       replace HB:=ζa (δr (by exact HB.out) hb)
       have NB255_272:=ζa ((by rw [hg];exact Nat.ne_of_lt (blk_lt (g:=gb255) (o:=.cells #[.string a0_0,.slice A0_1 l0_1.length c0_1] 45 (0,0)) (by exact BK255.out)):gb255≠gb272))
       have NB272_255:=ζa ((by rw [hg];exact Nat.ne_of_gt (blk_lt (g:=gb255) (o:=.cells #[.string a0_0,.slice A0_1 l0_1.length c0_1] 45 (0,0)) (by exact BK255.out)):gb272≠gb255))
       replace BK255:=ζa (blk_below (g:=gb255) (o:=.cells #[.string a0_0,.slice A0_1 l0_1.length c0_1] 45 (0,0)) (by exact BK255.out) hb)
       have NB256_272:=ζa ((by rw [hg];exact Nat.ne_of_lt (blk_lt (g:=gb256) (o:=.cells #[.int .i64 a1_0,.int .i64 a1_1,.string a1_2,.string a1_3] 46 (0,0)) (by exact BK256.out)):gb256≠gb272))
       have NB272_256:=ζa ((by rw [hg];exact Nat.ne_of_gt (blk_lt (g:=gb256) (o:=.cells #[.int .i64 a1_0,.int .i64 a1_1,.string a1_2,.string a1_3] 46 (0,0)) (by exact BK256.out)):gb272≠gb256))
       replace BK256:=ζa (blk_below (g:=gb256) (o:=.cells #[.int .i64 a1_0,.int .i64 a1_1,.string a1_2,.string a1_3] 46 (0,0)) (by exact BK256.out) hb)
       clear hb hbox hg
       obtain ⟨Ao37,co37,eo37⟩:=Kd.R_slice HO262.out
       ((injection eo37 with f1_ f2_ f3_;have f4_:=f1_.symm;have f5_:=f3_.symm;clear f1_ f2_ f3_;subst f4_;subst f5_))
       refine hK.out _ _ ⟨(δl BK255.out 0).trans rfl,(δl BK255.out 1).trans rfl,(δl BK256.out 0).trans rfl,(δl BK256.out 1).trans rfl,(δl BK256.out 2).trans rfl,(δl BK256.out 3).trans rfl⟩ (fun hHeld => ?_)
       clear hK K
       refine nm 6 ?_
       refine on 4 31 (fun K hK => ?_)
       refine gs Try.func18 #[.agg #[.string t259,.slice Ao37 t260.length co37],.agg #[.int .i64 t263,.int .i64 t264,.string t265,.string t266]] ?_
       with_reducible refine (spec_UpdateClient.calls k t259 (fun k_=>some k_=(.slice Ao37 t260.length co37:Value).ownBlock) (.slice Ao37 t260.length co37) t260 t263 t264 t265 t266 t267 t268 t271 w _ ?side1 ?side2 A21.out).mono ?_
       (case side1=>repeat ((with_reducible exact HB.out)))
       (case side2=>exact Kd.R_tight rfl HO262.out)
       rintro e w38 ⟨v269,rfl,ho0,hb,hkp⟩
       refine ⟨_,rfl,?_⟩
       have n0_:=ζa (blk_kept (by exact BK255.out) hkp (fun hs_=>(fun e_=>(ζf HO262.out BK255.out (by decide)) e_) hs_))
       have n1_:=ζa (blk_kept (by exact BK256.out) hkp (fun hs_=>(fun e_=>(ζf HO262.out BK256.out (by decide)) e_) hs_))
       have n2_:=ζa (blk_kept (by exact BK272.out) hkp (fun hs_=>(fun e_=>(ζf HO262.out BK272.out (by decide)) e_) hs_))
       have n3_:=ζa (Kd.R_mono (ok':=fun k_=>True) ho0 (fun k_ hk_=>trivial))
       have n4_:=ζa (hb)
       clear BK255
       clear BK256
       clear BK272
       clear HB
       clear HO262
       have BK255:=n0_
       have BK256:=n1_
       have BK272:=n2_
       have HO270:=n3_
       have HB:=n4_
       clear n0_ n1_ n2_ n3_ n4_
       (try clear hb)
       (try clear hkp)
       (try clear ho0)
       refine hK.out _ _ ⟨(δl BK255.out 0).trans rfl,(δl BK255.out 1).trans rfl,(δl BK256.out 0).trans rfl,(δl BK256.out 1).trans rfl,(δl BK256.out 2).trans rfl,(δl BK256.out 3).trans rfl⟩ (fun hHeld => ?_)
       clear hK K
       refine nm 31 ?_
       refine pu 5 26 ?_
       refine pu 6 32 ?_
       refine pu 7 33 ?_
       exact norm_ (by simp only [putAll,ζl,δa,δb,δc]) (hCont (.slice Ao37 t260.length co37,v269,gb272) _ ⟨hHeld,(by exact HO270.out),(by exact BK255.out),(by exact BK256.out),(by exact BK272.out),GW272.out,GE272.out,NB255_272.out,NB272_255.out,NB256_272.out,NB272_256.out,(by exact HB.out)⟩)
     ·
      skip
      refine box_step ?hg (N:=6) ?hd (cs:=#[.string (⟨#[]⟩:ByteArray),.slice none 0 0]) (t:=25) ?hr ?_;(case hd=>rfl);(case hg=>rfl);(case hr=>(go_simp;done))
      intro gb272 hg w35 hbox hb
      replace HO262:=ζa (ζh (by exact HO262.out) hb)
      have BK272:=ζa (hbox)
      have GW272:=ζa (gbw hg (by exact HB.out))
      have GE272:=ζa (gbw hg (by exact HB.out))
      replace HB:=ζa (δr (by exact HB.out) hb)
      have NB255_272:=ζa ((by rw [hg];exact Nat.ne_of_lt (blk_lt (g:=gb255) (o:=.cells #[.string a0_0,.slice A0_1 l0_1.length c0_1] 45 (0,0)) (by exact BK255.out)):gb255≠gb272))
      have NB272_255:=ζa ((by rw [hg];exact Nat.ne_of_gt (blk_lt (g:=gb255) (o:=.cells #[.string a0_0,.slice A0_1 l0_1.length c0_1] 45 (0,0)) (by exact BK255.out)):gb272≠gb255))
      replace BK255:=ζa (blk_below (g:=gb255) (o:=.cells #[.string a0_0,.slice A0_1 l0_1.length c0_1] 45 (0,0)) (by exact BK255.out) hb)
      have NB256_272:=ζa ((by rw [hg];exact Nat.ne_of_lt (blk_lt (g:=gb256) (o:=.cells #[.int .i64 a1_0,.int .i64 a1_1,.string a1_2,.string a1_3] 46 (0,0)) (by exact BK256.out)):gb256≠gb272))
      have NB272_256:=ζa ((by rw [hg];exact Nat.ne_of_gt (blk_lt (g:=gb256) (o:=.cells #[.int .i64 a1_0,.int .i64 a1_1,.string a1_2,.string a1_3] 46 (0,0)) (by exact BK256.out)):gb272≠gb256))
      replace BK256:=ζa (blk_below (g:=gb256) (o:=.cells #[.int .i64 a1_0,.int .i64 a1_1,.string a1_2,.string a1_3] 46 (0,0)) (by exact BK256.out) hb)
      clear hb hbox hg
      refine hK.out _ _ ⟨(δl BK255.out 0).trans rfl,(δl BK255.out 1).trans rfl,(δl BK256.out 0).trans rfl,(δl BK256.out 1).trans rfl,(δl BK256.out 2).trans rfl,(δl BK256.out 3).trans rfl⟩ (fun hHeld => ?_)
      clear hK K
      refine nm 6 ?_
      refine on 3 30 (fun K hK => ?_)
      refine gs Try.func20 #[.agg #[.int .i64 a1_0,.int .i64 a1_1,.string a1_2,.string a1_3]] ?_
      with_reducible refine (laws_toHeader.calls a1_0 a1_1 a1_2 a1_3 t263 t264 t265 t266 _ A20.out).mono ?_
      rintro e w36 ⟨rfl,hb⟩
      refine ⟨_,rfl,?_⟩
      replace HO262:=ζa (ζh (by exact HO262.out) hb)
      replace BK255:=ζa (blk_below (g:=gb255) (o:=.cells #[.string a0_0,.slice A0_1 l0_1.length c0_1] 45 (0,0)) (by exact BK255.out) hb)
      replace BK256:=ζa (blk_below (g:=gb256) (o:=.cells #[.int .i64 a1_0,.int .i64 a1_1,.string a1_2,.string a1_3] 46 (0,0)) (by exact BK256.out) hb)
      replace BK272:=ζa (blk_below (g:=gb272) (o:=.cells #[.string (⟨#[]⟩:ByteArray),.slice none 0 0] 25 (0,0)) (by exact BK272.out) hb)
      replace HB:=ζa (δr (by exact HB.out) hb)
      (try clear hb)
      (try clear hb2)
      (try clear hk)
      (try clear hi)
      obtain ⟨Ao37,co37,eo37⟩:=Kd.R_slice HO262.out
      (subst eo37)
      refine hK.out _ _ ⟨(δl BK255.out 0).trans rfl,(δl BK255.out 1).trans rfl,(δl BK256.out 0).trans rfl,(δl BK256.out 1).trans rfl,(δl BK256.out 2).trans rfl,(δl BK256.out 3).trans rfl⟩ (fun hHeld => ?_)
      clear hK K
      refine nm 30 ?_
      refine on 4 31 (fun K hK => ?_)
      refine gs Try.func18 #[.agg #[.string t259,.slice Ao37 t260.length co37],.agg #[.int .i64 t263,.int .i64 t264,.string t265,.string t266]] ?_
      with_reducible refine (spec_UpdateClient.calls k t259 (fun k_=>some k_=(.slice Ao37 t260.length co37:Value).ownBlock) (.slice Ao37 t260.length co37) t260 t263 t264 t265 t266 t267 t268 t271 w _ ?side1 ?side2 A21.out).mono ?_
      (case side1=>repeat ((with_reducible exact HB.out)))
      (case side2=>exact Kd.R_tight rfl HO262.out)
      rintro e w38 ⟨v269,rfl,ho0,hb,hkp⟩
      refine ⟨_,rfl,?_⟩
      have n0_:=ζa (blk_kept (by exact BK255.out) hkp (fun hs_=>(fun e_=>(ζf HO262.out BK255.out (by decide)) e_) hs_))
      have n1_:=ζa (blk_kept (by exact BK256.out) hkp (fun hs_=>(fun e_=>(ζf HO262.out BK256.out (by decide)) e_) hs_))
      have n2_:=ζa (blk_kept (by exact BK272.out) hkp (fun hs_=>(fun e_=>(ζf HO262.out BK272.out (by decide)) e_) hs_))
      have n3_:=ζa (Kd.R_mono (ok':=fun k_=>True) ho0 (fun k_ hk_=>trivial))
      have n4_:=ζa (hb)
      clear BK255
      clear BK256
      clear BK272
      clear HB
      clear HO262
      have BK255:=n0_
      have BK256:=n1_
      have BK272:=n2_
      have HO270:=n3_
      have HB:=n4_
      clear n0_ n1_ n2_ n3_ n4_
      (try clear hb)
      (try clear hkp)
      (try clear ho0)
      refine hK.out _ _ ⟨(δl BK255.out 0).trans rfl,(δl BK255.out 1).trans rfl,(δl BK256.out 0).trans rfl,(δl BK256.out 1).trans rfl,(δl BK256.out 2).trans rfl,(δl BK256.out 3).trans rfl⟩ (fun hHeld => ?_)
      clear hK K
      refine nm 31 ?_
      refine pu 5 26 ?_
      refine pu 6 32 ?_
      refine pu 7 33 ?_
      exact norm_ (by simp only [putAll,ζl,δa,δb,δc]) (hCont (.slice Ao37 t260.length co37,v269,gb272) _ ⟨hHeld,(by exact HO270.out),(by exact BK255.out),(by exact BK256.out),(by exact BK272.out),GW272.out,GE272.out,NB255_272.out,NB272_255.out,NB256_272.out,NB272_256.out,(by exact HB.out)⟩)
    ·
     skip
     refine box_step ?hg (N:=6) ?hd (cs:=#[.string (⟨#[]⟩:ByteArray),.slice none 0 0]) (t:=25) ?hr ?_;(case hd=>rfl);(case hg=>rfl);(case hr=>(go_simp;done))
     intro gb272 hg w34 hbox hb
     have BK272:=ζa (hbox)
     have GW272:=ζa (gbw hg (by exact HB.out))
     have GE272:=ζa (gbw hg (by exact HB.out))
     replace HB:=ζa (δr (by exact HB.out) hb)
     have NB255_272:=ζa ((by rw [hg];exact Nat.ne_of_lt (blk_lt (g:=gb255) (o:=.cells #[.string a0_0,.slice A0_1 l0_1.length c0_1] 45 (0,0)) (by exact BK255.out)):gb255≠gb272))
     have NB272_255:=ζa ((by rw [hg];exact Nat.ne_of_gt (blk_lt (g:=gb255) (o:=.cells #[.string a0_0,.slice A0_1 l0_1.length c0_1] 45 (0,0)) (by exact BK255.out)):gb272≠gb255))
     replace BK255:=ζa (blk_below (g:=gb255) (o:=.cells #[.string a0_0,.slice A0_1 l0_1.length c0_1] 45 (0,0)) (by exact BK255.out) hb)
     have NB256_272:=ζa ((by rw [hg];exact Nat.ne_of_lt (blk_lt (g:=gb256) (o:=.cells #[.int .i64 a1_0,.int .i64 a1_1,.string a1_2,.string a1_3] 46 (0,0)) (by exact BK256.out)):gb256≠gb272))
     have NB272_256:=ζa ((by rw [hg];exact Nat.ne_of_gt (blk_lt (g:=gb256) (o:=.cells #[.int .i64 a1_0,.int .i64 a1_1,.string a1_2,.string a1_3] 46 (0,0)) (by exact BK256.out)):gb272≠gb256))
     replace BK256:=ζa (blk_below (g:=gb256) (o:=.cells #[.int .i64 a1_0,.int .i64 a1_1,.string a1_2,.string a1_3] 46 (0,0)) (by exact BK256.out) hb)
     clear hb hbox hg
     refine hK.out _ _ ⟨(δl BK255.out 0).trans rfl,(δl BK255.out 1).trans rfl,(δl BK256.out 0).trans rfl,(δl BK256.out 1).trans rfl,(δl BK256.out 2).trans rfl,(δl BK256.out 3).trans rfl⟩ (fun hHeld => ?_)
     clear hK K
     refine nm 6 ?_
     refine on 1 28 (fun K hK => ?_)
     refine gs Try.func19 #[.agg #[.string a0_0,.slice A0_1 l0_1.length c0_1]] ?_
     with_reducible refine (laws_toClient.calls k a0_0 _ _ l0_1 t259 t260 _ ?side1 ?side2 A19.out).mono ?_
     (case side1=>repeat (exact (Kd.C_below HR0_1.out HB.out)))
     (case side2=>exact HC0_1.out)
     rintro e w35 ⟨v261,rfl,ho0,hb⟩
     refine ⟨_,rfl,?_⟩
     have HO262:=ζa (Kd.R_lower ho0 (δs (by exact HB.out)))
     replace BK255:=ζa (blk_below (g:=gb255) (o:=.cells #[.string a0_0,.slice A0_1 l0_1.length c0_1] 45 (0,0)) (by exact BK255.out) hb)
     replace BK256:=ζa (blk_below (g:=gb256) (o:=.cells #[.int .i64 a1_0,.int .i64 a1_1,.string a1_2,.string a1_3] 46 (0,0)) (by exact BK256.out) hb)
     replace BK272:=ζa (blk_below (g:=gb272) (o:=.cells #[.string (⟨#[]⟩:ByteArray),.slice none 0 0] 25 (0,0)) (by exact BK272.out) hb)
     replace HB:=ζa (δr (by exact HB.out) hb)
     (try clear hb)
     (try clear hb2)
     (try clear hk)
     (try clear hi)
     (try clear ho0)
     refine hK.out _ _ ⟨(δl BK255.out 0).trans rfl,(δl BK255.out 1).trans rfl,(δl BK256.out 0).trans rfl,(δl BK256.out 1).trans rfl,(δl BK256.out 2).trans rfl,(δl BK256.out 3).trans rfl⟩ (fun hHeld => ?_)
     clear hK K
     refine nm 28 ?_
     refine on 3 30 (fun K hK => ?_)
     refine gs Try.func20 #[.agg #[.int .i64 a1_0,.int .i64 a1_1,.string a1_2,.string a1_3]] ?_
     with_reducible refine (laws_toHeader.calls a1_0 a1_1 a1_2 a1_3 t263 t264 t265 t266 _ A20.out).mono ?_
     rintro e w36 ⟨rfl,hb⟩
     refine ⟨_,rfl,?_⟩
     replace HO262:=ζa (ζh (by exact HO262.out) hb)
     replace BK255:=ζa (blk_below (g:=gb255) (o:=.cells #[.string a0_0,.slice A0_1 l0_1.length c0_1] 45 (0,0)) (by exact BK255.out) hb)
     replace BK256:=ζa (blk_below (g:=gb256) (o:=.cells #[.int .i64 a1_0,.int .i64 a1_1,.string a1_2,.string a1_3] 46 (0,0)) (by exact BK256.out) hb)
     replace BK272:=ζa (blk_below (g:=gb272) (o:=.cells #[.string (⟨#[]⟩:ByteArray),.slice none 0 0] 25 (0,0)) (by exact BK272.out) hb)
     replace HB:=ζa (δr (by exact HB.out) hb)
     (try clear hb)
     (try clear hb2)
     (try clear hk)
     (try clear hi)
     obtain ⟨Ao37,co37,eo37⟩:=Kd.R_slice HO262.out
     (subst eo37)
     refine hK.out _ _ ⟨(δl BK255.out 0).trans rfl,(δl BK255.out 1).trans rfl,(δl BK256.out 0).trans rfl,(δl BK256.out 1).trans rfl,(δl BK256.out 2).trans rfl,(δl BK256.out 3).trans rfl⟩ (fun hHeld => ?_)
     clear hK K
     refine nm 30 ?_
     refine on 4 31 (fun K hK => ?_)
     refine gs Try.func18 #[.agg #[.string t259,.slice Ao37 t260.length co37],.agg #[.int .i64 t263,.int .i64 t264,.string t265,.string t266]] ?_
     with_reducible refine (spec_UpdateClient.calls k t259 (fun k_=>some k_=(.slice Ao37 t260.length co37:Value).ownBlock) (.slice Ao37 t260.length co37) t260 t263 t264 t265 t266 t267 t268 t271 w _ ?side1 ?side2 A21.out).mono ?_
     (case side1=>repeat ((with_reducible exact HB.out)))
     (case side2=>exact Kd.R_tight rfl HO262.out)
     rintro e w38 ⟨v269,rfl,ho0,hb,hkp⟩
     refine ⟨_,rfl,?_⟩
     have n0_:=ζa (blk_kept (by exact BK255.out) hkp (fun hs_=>(fun e_=>(ζf HO262.out BK255.out (by decide)) e_) hs_))
     have n1_:=ζa (blk_kept (by exact BK256.out) hkp (fun hs_=>(fun e_=>(ζf HO262.out BK256.out (by decide)) e_) hs_))
     have n2_:=ζa (blk_kept (by exact BK272.out) hkp (fun hs_=>(fun e_=>(ζf HO262.out BK272.out (by decide)) e_) hs_))
     have n3_:=ζa (Kd.R_mono (ok':=fun k_=>True) ho0 (fun k_ hk_=>trivial))
     have n4_:=ζa (hb)
     clear BK255
     clear BK256
     clear BK272
     clear HB
     clear HO262
     have BK255:=n0_
     have BK256:=n1_
     have BK272:=n2_
     have HO270:=n3_
     have HB:=n4_
     clear n0_ n1_ n2_ n3_ n4_
     (try clear hb)
     (try clear hkp)
     (try clear ho0)
     refine hK.out _ _ ⟨(δl BK255.out 0).trans rfl,(δl BK255.out 1).trans rfl,(δl BK256.out 0).trans rfl,(δl BK256.out 1).trans rfl,(δl BK256.out 2).trans rfl,(δl BK256.out 3).trans rfl⟩ (fun hHeld => ?_)
     clear hK K
     refine nm 31 ?_
     refine pu 5 26 ?_
     refine pu 6 32 ?_
     refine pu 7 33 ?_
     exact norm_ (by simp only [putAll,ζl,δa,δb,δc]) (hCont (.slice Ao37 t260.length co37,v269,gb272) _ ⟨hHeld,(by exact HO270.out),(by exact BK255.out),(by exact BK256.out),(by exact BK272.out),GW272.out,GE272.out,NB255_272.out,NB272_255.out,NB256_272.out,NB272_256.out,(by exact HB.out)⟩)
   rintro ⟨v261,v269,gb272⟩ w39 ⟨hS_,h0_,h1_,h2_,h3_,h4_,h5_,h6_,h7_,h8_,h9_,h10_⟩
   have n0_:Aside0 (Kd.R k39 39 w39 w.heap.size (fun _=>True) v269 t268):=⟨h0_⟩
   have n1_:Aside0 (w39.heap[gb255]? = some (.cells #[.string a0_0,.slice A0_1 l0_1.length c0_1] 45 (0,0))):=⟨h1_⟩
   have n2_:Aside0 (w39.heap[gb256]? = some (.cells #[.int .i64 a1_0,.int .i64 a1_1,.string a1_2,.string a1_3] 46 (0,0))):=⟨h2_⟩
   have n3_:Aside0 (w39.heap[gb272]? = some (.cells #[.string (⟨#[]⟩:ByteArray),.slice none 0 0] 25 (0,0))):=⟨h3_⟩
   have n4_:Aside0 (w.heap.size≤gb272):=⟨h4_⟩
   have n5_:Aside0 (w.heap.size≤gb272):=⟨h5_⟩
   have n6_:Aside0 (gb255≠gb272):=⟨h6_⟩
   have n7_:Aside0 (gb272≠gb255):=⟨h7_⟩
   have n8_:Aside0 (gb256≠gb272):=⟨h8_⟩
   have n9_:Aside0 (gb272≠gb256):=⟨h9_⟩
   have n10_:Aside0 (Below w.heap.size w w39):=⟨h10_⟩
   clear BK255
   clear BK256
   clear HB
   clear h0_ h1_ h2_ h3_ h4_ h5_ h6_ h7_ h8_ h9_ h10_
   have HO270:=n0_
   have BK255:=n1_
   have BK256:=n2_
   have BK272:=n3_
   have GW272:=n4_
   have GE272:=n5_
   have NB255_272:=n6_
   have NB272_255:=n7_
   have NB256_272:=n8_
   have NB272_256:=n9_
   have HB:=n10_
   clear n0_ n1_ n2_ n3_ n4_ n5_ n6_ n7_ n8_ n9_ n10_
   have hHeld:w39.cell? ⟨gb255,0,none⟩=some (.string a0_0)∧w39.cell? ⟨gb255,1,none⟩=some (.slice A0_1 l0_1.length c0_1)∧w39.cell? ⟨gb256,0,none⟩=some (.int .i64 a1_0)∧w39.cell? ⟨gb256,1,none⟩=some (.int .i64 a1_1)∧w39.cell? ⟨gb256,2,none⟩=some (.string a1_2)∧w39.cell? ⟨gb256,3,none⟩=some (.string a1_3):=hS_
   obtain ⟨Ao41,co41,eo41⟩:=Kd.R_slice HO270.out
   (subst eo41)
   refine norm_ (a':=?_) ?_ ?_
   rotate_left
   · simp only [putAll,ζl,δa,δb,δc];rfl
   refine one_ (i:=9) (N:=none) #[τ,τ,τ,τ,τ,τ,τ,τ,τ,τ,φ] rfl rfl (one_of HT_.out (by kernel_rfl)) (by decide) (fun K hK => ?_)
   have hs40:w39.cell? ⟨gb272,0,none⟩=some (.string (⟨#[]⟩:ByteArray)):=(δl BK272.out 0).trans rfl
   have hfs40:=δm BK272.out 0
   have hns40_0:=NB255_272.out
   have hns40_1:=NB256_272.out
   have hms40_0:=NB272_255.out
   have hms40_1:=NB272_256.out
   have hs42:w39.cell? ⟨gb272,1,none⟩=some (.slice none 0 0):=(δl BK272.out 1).trans rfl
   have hfs42:=δm BK272.out 1
   have hns42_0:=NB255_272.out
   have hns42_1:=NB256_272.out
   have hms42_0:=NB272_255.out
   have hms42_1:=NB272_256.out
   refine skip_ (w1:=?_) (by rfl) rfl ?_ ?_
   rotate_left
   ·
    go_simp
    rfl
   refine hK.out _ _ ⟨((δt (p:=⟨gb272,_,none⟩) NB255_272.out _).trans (((δt (p:=⟨gb272,_,none⟩) NB255_272.out _).trans (hHeld.1)))),((δt (p:=⟨gb272,_,none⟩) NB255_272.out _).trans (((δt (p:=⟨gb272,_,none⟩) NB255_272.out _).trans (hHeld.2.1)))),((δt (p:=⟨gb272,_,none⟩) NB256_272.out _).trans (((δt (p:=⟨gb272,_,none⟩) NB256_272.out _).trans (hHeld.2.2.1)))),((δt (p:=⟨gb272,_,none⟩) NB256_272.out _).trans (((δt (p:=⟨gb272,_,none⟩) NB256_272.out _).trans (hHeld.2.2.2.1)))),((δt (p:=⟨gb272,_,none⟩) NB256_272.out _).trans (((δt (p:=⟨gb272,_,none⟩) NB256_272.out _).trans (hHeld.2.2.2.2.1)))),((δt (p:=⟨gb272,_,none⟩) NB256_272.out _).trans (((δt (p:=⟨gb272,_,none⟩) NB256_272.out _).trans (hHeld.2.2.2.2.2))))⟩ (fun hHeld => ?_)
   clear hK K
   refine pu 10 7 ?_
   refine done_ (done_of HT_.out (by kernel_rfl)) ?_
   have hnb43:=NB255_272.out
   have hnc43:=NB272_255.out
   have hcz44_0:w39.cell? ⟨gb255,0,none⟩=some (.string a0_0):=(δl BK255.out 0).trans rfl
   have hcz44_1:w39.cell? ⟨gb255,1,none⟩=some (.slice A0_1 l0_1.length c0_1):=(δl BK255.out 1).trans rfl
   have hfz44_0:=δm BK255.out 0
   have hfz44_1:=δm BK255.out 1
   try go_wp2_with (first|((with_reducible refine δv (f:=19) rfl ?_);refine gl 35 Try.func19 #[.agg #[.string a0_0,.slice A0_1 l0_1.length c0_1]] ?_;(with_reducible refine (laws_toClient.calls k a0_0 _ _ l0_1 t273 t274 _ ?side1 ?side2 A22.out).mono ?_);(case side1=>exact Kd.C_below HR0_1.out (by repeat ((with_reducible first|exact HB.out|refine δq ?_ GE272.out))));(case side2=>exact HC0_1.out);rintro e w45 ⟨v275,rfl,ho0,hb⟩;refine ⟨_,rfl,?_⟩;have HO276:=ζa (Kd.R_lower (Kd.R_new' ho0 (Kd.R_lt (by exact (Kd.R_mono (ζi (p:=⟨gb272,1,none⟩) (ζi (p:=⟨gb272,0,none⟩) (Kd.R_types HO270.out BK272.out (by decide)) (fun _ hk=>hk.2) (.string t267)) (fun _ hk=>hk.2) (.slice Ao41 t268.length co41)) (fun _ h_=>h_.1))))) (δs (by repeat ((with_reducible first|exact HB.out|refine δq ?_ GE272.out)))));replace HO270:=ζa (Kd.R_elder' (by exact (Kd.R_mono (ζi (p:=⟨gb272,1,none⟩) (ζi (p:=⟨gb272,0,none⟩) (Kd.R_types HO270.out BK272.out (by decide)) (fun _ hk=>hk.2) (.string t267)) (fun _ hk=>hk.2) (.slice Ao41 t268.length co41)) (fun _ h_=>h_.1))) (Kd.R_base ho0) hb);replace BK255:=ζa (blk_below (g:=gb255) (o:=.cells #[.string a0_0,.slice A0_1 l0_1.length c0_1] 45 (0,0)) (by refine blk_far ?_ NB255_272.out _;refine blk_far ?_ NB255_272.out _;exact BK255.out) hb);replace BK256:=ζa (blk_below (g:=gb256) (o:=.cells #[.int .i64 a1_0,.int .i64 a1_1,.string a1_2,.string a1_3] 46 (0,0)) (by refine blk_far ?_ NB256_272.out _;refine blk_far ?_ NB256_272.out _;exact BK256.out) hb);replace BK272:=ζa (blk_below (g:=gb272) (o:=.cells #[.string t267,.slice Ao41 t268.length co41] 25 (0,0)) (by refine δw (cs:=#[.string t267,.slice none 0 0]) ?_ 1 _ rfl;refine δw (cs:=#[.string (⟨#[]⟩:ByteArray),.slice none 0 0]) ?_ 0 _ rfl;exact BK272.out) hb);replace HB:=ζa (δr (by repeat ((with_reducible first|exact HB.out|refine δq ?_ GE272.out))) hb);(try clear hb);(try clear hb2);(try clear hk);(try clear hi);(try clear ho0))|((with_reducible refine δx (N:=8) rfl ?_);refine bev 8 #[.string (⟨#[]⟩:ByteArray),.slice none 0 0] 25 ?_;intro gb277 hg w46 hbox hb;replace HO270:=ζa (ζh (by exact HO270.out) hb);replace HO276:=ζa (ζh (by exact HO276.out) hb);have BK277:=ζa (hbox);have GW277:=ζa (gbw hg (by exact HB.out));have GE277:=ζa (gbw hg (by exact HB.out));replace HB:=ζa (δr (by exact HB.out) hb);have NB255_277:=ζa ((by rw [hg];exact Nat.ne_of_lt (blk_lt (g:=gb255) (o:=.cells #[.string a0_0,.slice A0_1 l0_1.length c0_1] 45 (0,0)) (by exact BK255.out)):gb255≠gb277));have NB277_255:=ζa ((by rw [hg];exact Nat.ne_of_gt (blk_lt (g:=gb255) (o:=.cells #[.string a0_0,.slice A0_1 l0_1.length c0_1] 45 (0,0)) (by exact BK255.out)):gb277≠gb255));replace BK255:=ζa (blk_below (g:=gb255) (o:=.cells #[.string a0_0,.slice A0_1 l0_1.length c0_1] 45 (0,0)) (by exact BK255.out) hb);have NB256_277:=ζa ((by rw [hg];exact Nat.ne_of_lt (blk_lt (g:=gb256) (o:=.cells #[.int .i64 a1_0,.int .i64 a1_1,.string a1_2,.string a1_3] 46 (0,0)) (by exact BK256.out)):gb256≠gb277));have NB277_256:=ζa ((by rw [hg];exact Nat.ne_of_gt (blk_lt (g:=gb256) (o:=.cells #[.int .i64 a1_0,.int .i64 a1_1,.string a1_2,.string a1_3] 46 (0,0)) (by exact BK256.out)):gb277≠gb256));replace BK256:=ζa (blk_below (g:=gb256) (o:=.cells #[.int .i64 a1_0,.int .i64 a1_1,.string a1_2,.string a1_3] 46 (0,0)) (by exact BK256.out) hb);have NB272_277:=ζa ((by rw [hg];exact Nat.ne_of_lt (blk_lt (g:=gb272) (o:=.cells #[.string t267,.slice Ao41 t268.length co41] 25 (0,0)) (by exact BK272.out)):gb272≠gb277));have NB277_272:=ζa ((by rw [hg];exact Nat.ne_of_gt (blk_lt (g:=gb272) (o:=.cells #[.string t267,.slice Ao41 t268.length co41] 25 (0,0)) (by exact BK272.out)):gb277≠gb272));replace BK272:=ζa (blk_below (g:=gb272) (o:=.cells #[.string t267,.slice Ao41 t268.length co41] 25 (0,0)) (by exact BK272.out) hb);clear hb hbox hg;have hnb47:=NB277_255.out;have hnc47:=NB255_277.out;have hnb48:=NB277_256.out;have hnc48:=NB256_277.out;have hnb49:=NB277_272.out;have hnc49:=NB272_277.out;have hcz50_0:w46.cell? ⟨gb277,0,none⟩=some (.string (⟨#[]⟩:ByteArray)):=(δl BK277.out 0).trans rfl;have hcz50_1:w46.cell? ⟨gb277,1,none⟩=some (.slice none 0 0):=(δl BK277.out 1).trans rfl;have hfz50_0:=δm BK277.out 0;have hfz50_1:=δm BK277.out 1;obtain ⟨Ao51,co51,eo51⟩:=Kd.R_slice HO276.out;subst eo51))
   have n0_:Aside0 (Kd.R k39 39 ((w46.setCell ⟨gb277,0,none⟩ (.string t273)).setCell ⟨gb277,1,none⟩ (.slice Ao51 t274.length co51)) w.heap.size (fun k_=>some k_≠(.slice Ao51 t274.length co51:Value).ownBlock) (.slice Ao41 t268.length co41) t268):=⟨by exact Kd.R_mono (ζi (p:=⟨gb277,1,none⟩) (ζi (p:=⟨gb277,0,none⟩) (Kd.R_types HO270.out BK277.out (by decide)) (fun _ hk=>hk.2) (.string t273)) (fun _ hk=>hk.2) (.slice Ao51 t274.length co51)) (fun _ hk=>hk.1.2)⟩
   have n1_:Aside0 (Kd.R k39 39 ((w46.setCell ⟨gb277,0,none⟩ (.string t273)).setCell ⟨gb277,1,none⟩ (.slice Ao51 t274.length co51)) w.heap.size (fun k_=>some k_≠(.slice Ao41 t268.length co41:Value).ownBlock) (.slice Ao51 t274.length co51) t274):=⟨by exact Kd.R_mono (ζi (p:=⟨gb277,1,none⟩) (ζi (p:=⟨gb277,0,none⟩) (Kd.R_types HO276.out BK277.out (by decide)) (fun _ hk=>hk.2) (.string t273)) (fun _ hk=>hk.2) (.slice Ao51 t274.length co51)) (fun _ hk=>hk.1.2)⟩
   have n2_:Aside0 (((w46.setCell ⟨gb277,0,none⟩ (.string t273)).setCell ⟨gb277,1,none⟩ (.slice Ao51 t274.length co51)).heap[gb255]? = some (.cells #[.string a0_0,.slice A0_1 l0_1.length c0_1] 45 (0,0))):=⟨by refine blk_far ?_ NB255_277.out _;refine blk_far ?_ NB255_277.out _;exact BK255.out⟩
   have n3_:Aside0 (((w46.setCell ⟨gb277,0,none⟩ (.string t273)).setCell ⟨gb277,1,none⟩ (.slice Ao51 t274.length co51)).heap[gb256]? = some (.cells #[.int .i64 a1_0,.int .i64 a1_1,.string a1_2,.string a1_3] 46 (0,0))):=⟨by refine blk_far ?_ NB256_277.out _;refine blk_far ?_ NB256_277.out _;exact BK256.out⟩
   have n4_:Aside0 (((w46.setCell ⟨gb277,0,none⟩ (.string t273)).setCell ⟨gb277,1,none⟩ (.slice Ao51 t274.length co51)).heap[gb272]? = some (.cells #[.string t267,.slice Ao41 t268.length co41] 25 (0,0))):=⟨by refine blk_far ?_ NB272_277.out _;refine blk_far ?_ NB272_277.out _;exact BK272.out⟩
   have n5_:Aside0 (((w46.setCell ⟨gb277,0,none⟩ (.string t273)).setCell ⟨gb277,1,none⟩ (.slice Ao51 t274.length co51)).heap[gb277]? = some (.cells #[.string t273,.slice Ao51 t274.length co51] 25 (0,0))):=⟨by refine δw (cs:=#[.string t273,.slice none 0 0]) ?_ 1 _ rfl;refine δw (cs:=#[.string (⟨#[]⟩:ByteArray),.slice none 0 0]) ?_ 0 _ rfl;exact BK277.out⟩
   have n6_:Aside0 (Below w.heap.size w ((w46.setCell ⟨gb277,0,none⟩ (.string t273)).setCell ⟨gb277,1,none⟩ (.slice Ao51 t274.length co51))):=⟨by repeat ((with_reducible first|exact HB.out|refine δq ?_ GE277.out))⟩
   (try clear HO270)
   (try clear HO276)
   (try clear BK255)
   (try clear BK256)
   (try clear BK272)
   (try clear BK277)
   (try clear HB)
   generalize ((w46.setCell ⟨gb277,0,none⟩ (.string t273)).setCell ⟨gb277,1,none⟩ (.slice Ao51 t274.length co51))=w52 at n0_ n1_ n2_ n3_ n4_ n5_ n6_ ⊢
   have HO270:=n0_
   have HO276:=n1_
   have BK255:=n2_
   have BK256:=n3_
   have BK272:=n4_
   have BK277:=n5_
   have HB:=n6_
   clear n0_ n1_ n2_ n3_ n4_ n5_ n6_
   replace HO270:=ζa (ζe HO270.out)
   replace HO276:=ζa (ζe HO276.out)
   replace BK255:=ζa (δp BK255.out)
   replace BK256:=ζa (δp BK256.out)
   replace BK272:=ζa (δp BK272.out)
   replace BK277:=ζa (δp BK277.out)
   replace HB:=ζa (δj HB.out)
   refine sta 10 (fun w'=>w'.cell? ⟨gb277,0,none⟩=some (.string t273)∧w'.cell? ⟨gb277,1,none⟩=some (.slice Ao51 t274.length co51)∧w'.cell? ⟨gb256,0,none⟩=some (.int .i64 a1_0)∧w'.cell? ⟨gb256,1,none⟩=some (.int .i64 a1_1)∧w'.cell? ⟨gb256,2,none⟩=some (.string a1_2)∧w'.cell? ⟨gb256,3,none⟩=some (.string a1_3)) [] laws_FnExactUpdateClient.tab10 laws_FnExactUpdateClient.bits10 ⟨(δl BK277.out 0).trans rfl,(δl BK277.out 1).trans rfl,(δl BK256.out 0).trans rfl,(δl BK256.out 1).trans rfl,(δl BK256.out 2).trans rfl,(δl BK256.out 3).trans rfl⟩ (fun hHeld HT_ HW_ => ?_)
   generalize w52.drew=w53 at HO270 HO276 BK255 BK256 BK272 BK277 HB hHeld ⊢
   refine ta 0 37 ?_
   refine ta 1 38 ?_
   refine join_ (σ:=Value × Nat) 2 #[τ,τ,τ,τ,τ,τ,τ,τ,φ,φ] (fun s_ => [(39,.agg #[.int .i64 t278,.int .i64 t279,.string t280,.string t281]),(40,.tuple #[.agg #[.string t282,s_.1],.int .i64 t286]),(9,.pointer (some ⟨s_.2,0,none⟩)),(36,.tuple #[.agg #[.string t282,s_.1],.int .i64 t286]),(41,.agg #[.string t282,s_.1]),(42,.int .i64 t286)]) (fun s_ w'=>(w'.cell? ⟨gb277,0,none⟩=some (.string t273)∧w'.cell? ⟨gb277,1,none⟩=some (.slice Ao51 t274.length co51)∧w'.cell? ⟨gb256,0,none⟩=some (.int .i64 a1_0)∧w'.cell? ⟨gb256,1,none⟩=some (.int .i64 a1_1)∧w'.cell? ⟨gb256,2,none⟩=some (.string a1_2)∧w'.cell? ⟨gb256,3,none⟩=some (.string a1_3))∧(Kd.R k39 39 w' w.heap.size (fun k_=>some k_≠(.slice Ao51 t274.length co51:Value).ownBlock∧some k_≠(s_.1:Value).ownBlock) (.slice Ao41 t268.length co41) t268)∧(Kd.R k39 39 w' w.heap.size (fun k_=>some k_≠(.slice Ao41 t268.length co41:Value).ownBlock∧some k_≠(s_.1:Value).ownBlock) (.slice Ao51 t274.length co51) t274)∧(Kd.R k39 39 w' w.heap.size (fun k_=>some k_≠(.slice Ao41 t268.length co41:Value).ownBlock∧some k_≠(.slice Ao51 t274.length co51:Value).ownBlock) s_.1 t283)∧(w'.heap[gb255]? = some (.cells #[.string a0_0,.slice A0_1 l0_1.length c0_1] 45 (0,0)))∧(w'.heap[gb256]? = some (.cells #[.int .i64 a1_0,.int .i64 a1_1,.string a1_2,.string a1_3] 46 (0,0)))∧(w'.heap[gb272]? = some (.cells #[.string t267,.slice Ao41 t268.length co41] 25 (0,0)))∧(w'.heap[gb277]? = some (.cells #[.string t273,.slice Ao51 t274.length co51] 25 (0,0)))∧(w'.heap[s_.2]? = some (.cells #[.string (⟨#[]⟩:ByteArray),.slice none 0 0] 25 (0,0)))∧(w.heap.size≤s_.2)∧(w.heap.size≤s_.2)∧(gb255≠s_.2)∧(s_.2≠gb255)∧(gb256≠s_.2)∧(s_.2≠gb256)∧(gb272≠s_.2)∧(s_.2≠gb272)∧(gb277≠s_.2)∧(s_.2≠gb277)∧(Below w.heap.size w w')) ?_ ?_
   rotate_left
   ·
    intro hCont
    refine tw 2 7 39 9 (fun K hK => ?_) (fun K hK => ?_)
    ·
     skip
     refine gs Try.func20 #[.agg #[.int .i64 a1_0,.int .i64 a1_1,.string a1_2,.string a1_3]] ?_
     with_reducible refine (laws_toHeader.calls a1_0 a1_1 a1_2 a1_3 t278 t279 t280 t281 _ A23.out).mono ?_
     rintro e w54 ⟨rfl,hb⟩
     refine ⟨_,rfl,?_⟩
     replace HO270:=ζa (ζh (by exact HO270.out) hb)
     replace HO276:=ζa (ζh (by exact HO276.out) hb)
     replace BK255:=ζa (blk_below (g:=gb255) (o:=.cells #[.string a0_0,.slice A0_1 l0_1.length c0_1] 45 (0,0)) (by exact BK255.out) hb)
     replace BK256:=ζa (blk_below (g:=gb256) (o:=.cells #[.int .i64 a1_0,.int .i64 a1_1,.string a1_2,.string a1_3] 46 (0,0)) (by exact BK256.out) hb)
     replace BK272:=ζa (blk_below (g:=gb272) (o:=.cells #[.string t267,.slice Ao41 t268.length co41] 25 (0,0)) (by exact BK272.out) hb)
     replace BK277:=ζa (blk_below (g:=gb277) (o:=.cells #[.string t273,.slice Ao51 t274.length co51] 25 (0,0)) (by exact BK277.out) hb)
     replace HB:=ζa (δr (by exact HB.out) hb)
     (try clear hb)
     (try clear hb2)
     (try clear hk)
     (try clear hi)
     refine hK.out _ _ ⟨(δl BK277.out 0).trans rfl,(δl BK277.out 1).trans rfl,(δl BK256.out 0).trans rfl,(δl BK256.out 1).trans rfl,(δl BK256.out 2).trans rfl,(δl BK256.out 3).trans rfl⟩ (fun hHeld => ?_)
     clear hK K
     refine nm 39 ?_
     refine tw 3 7 40 9 (fun K hK => ?_) (fun K hK => ?_)
     ·
      skip
      refine gs Try.func8 #[.agg #[.string t273,.slice Ao51 t274.length co51],.agg #[.int .i64 t278,.int .i64 t279,.string t280,.string t281]] ?_
      with_reducible refine (impl_UpdateClient.calls k t273 _ _ t274 t278 t279 t280 t281 t282 t283 t286 _ ?side1 ?side2 A24.out).mono ?_
      (case side1=>repeat (exact (ζg HO276.out).2.2))
      (case side2=>exact (ζg HO276.out).2.1)
      rintro e w55 ⟨v284,rfl,ho0,hb⟩
      refine ⟨_,rfl,?_⟩
      have HO285:=ζa (Kd.R_lower (Kd.R_new' (Kd.R_new' ho0 (Kd.R_lt (by exact HO270.out))) (Kd.R_lt (by exact HO276.out))) (δs (by exact HB.out)))
      replace HO270:=ζa (Kd.R_elder' (by exact HO270.out) (Kd.R_base ho0) hb)
      replace HO276:=ζa (Kd.R_elder' (by exact HO276.out) (Kd.R_base ho0) hb)
      replace BK255:=ζa (blk_below (g:=gb255) (o:=.cells #[.string a0_0,.slice A0_1 l0_1.length c0_1] 45 (0,0)) (by exact BK255.out) hb)
      replace BK256:=ζa (blk_below (g:=gb256) (o:=.cells #[.int .i64 a1_0,.int .i64 a1_1,.string a1_2,.string a1_3] 46 (0,0)) (by exact BK256.out) hb)
      replace BK272:=ζa (blk_below (g:=gb272) (o:=.cells #[.string t267,.slice Ao41 t268.length co41] 25 (0,0)) (by exact BK272.out) hb)
      replace BK277:=ζa (blk_below (g:=gb277) (o:=.cells #[.string t273,.slice Ao51 t274.length co51] 25 (0,0)) (by exact BK277.out) hb)
      replace HB:=ζa (δr (by exact HB.out) hb)
      (try clear hb)
      (try clear hb2)
      (try clear hk)
      (try clear hi)
      (try clear ho0)
      refine hK.out _ _ ⟨(δl BK277.out 0).trans rfl,(δl BK277.out 1).trans rfl,(δl BK256.out 0).trans rfl,(δl BK256.out 1).trans rfl,(δl BK256.out 2).trans rfl,(δl BK256.out 3).trans rfl⟩ (fun hHeld => ?_)
      clear hK K
      refine nm 40 ?_
      refine pu 4 36 ?_
      refine pu 5 41 ?_
      refine pu 6 42 ?_
      refine on 7 9 (fun K hK => ?_)
      refine box_step ?hg (N:=9) ?hd (cs:=#[.string (⟨#[]⟩:ByteArray),.slice none 0 0]) (t:=25) ?hr ?_;(case hd=>rfl);(case hg=>rfl);(case hr=>(go_simp;done))
      intro gb287 hg w56 hbox hb
      replace HO270:=ζa (ζh (by exact HO270.out) hb)
      replace HO276:=ζa (ζh (by exact HO276.out) hb)
      replace HO285:=ζa (ζh (by exact HO285.out) hb)
      have BK287:=ζa (hbox)
      have GW287:=ζa (gbw hg (by exact HB.out))
      have GE287:=ζa (gbw hg (by exact HB.out))
      replace HB:=ζa (δr (by exact HB.out) hb)
      have NB255_287:=ζa ((by rw [hg];exact Nat.ne_of_lt (blk_lt (g:=gb255) (o:=.cells #[.string a0_0,.slice A0_1 l0_1.length c0_1] 45 (0,0)) (by exact BK255.out)):gb255≠gb287))
      have NB287_255:=ζa ((by rw [hg];exact Nat.ne_of_gt (blk_lt (g:=gb255) (o:=.cells #[.string a0_0,.slice A0_1 l0_1.length c0_1] 45 (0,0)) (by exact BK255.out)):gb287≠gb255))
      replace BK255:=ζa (blk_below (g:=gb255) (o:=.cells #[.string a0_0,.slice A0_1 l0_1.length c0_1] 45 (0,0)) (by exact BK255.out) hb)
      have NB256_287:=ζa ((by rw [hg];exact Nat.ne_of_lt (blk_lt (g:=gb256) (o:=.cells #[.int .i64 a1_0,.int .i64 a1_1,.string a1_2,.string a1_3] 46 (0,0)) (by exact BK256.out)):gb256≠gb287))
      have NB287_256:=ζa ((by rw [hg];exact Nat.ne_of_gt (blk_lt (g:=gb256) (o:=.cells #[.int .i64 a1_0,.int .i64 a1_1,.string a1_2,.string a1_3] 46 (0,0)) (by exact BK256.out)):gb287≠gb256))
      replace BK256:=ζa (blk_below (g:=gb256) (o:=.cells #[.int .i64 a1_0,.int .i64 a1_1,.string a1_2,.string a1_3] 46 (0,0)) (by exact BK256.out) hb)
      have NB272_287:=ζa ((by rw [hg];exact Nat.ne_of_lt (blk_lt (g:=gb272) (o:=.cells #[.string t267,.slice Ao41 t268.length co41] 25 (0,0)) (by exact BK272.out)):gb272≠gb287))
      have NB287_272:=ζa ((by rw [hg];exact Nat.ne_of_gt (blk_lt (g:=gb272) (o:=.cells #[.string t267,.slice Ao41 t268.length co41] 25 (0,0)) (by exact BK272.out)):gb287≠gb272))
      replace BK272:=ζa (blk_below (g:=gb272) (o:=.cells #[.string t267,.slice Ao41 t268.length co41] 25 (0,0)) (by exact BK272.out) hb)
      have NB277_287:=ζa ((by rw [hg];exact Nat.ne_of_lt (blk_lt (g:=gb277) (o:=.cells #[.string t273,.slice Ao51 t274.length co51] 25 (0,0)) (by exact BK277.out)):gb277≠gb287))
      have NB287_277:=ζa ((by rw [hg];exact Nat.ne_of_gt (blk_lt (g:=gb277) (o:=.cells #[.string t273,.slice Ao51 t274.length co51] 25 (0,0)) (by exact BK277.out)):gb287≠gb277))
      replace BK277:=ζa (blk_below (g:=gb277) (o:=.cells #[.string t273,.slice Ao51 t274.length co51] 25 (0,0)) (by exact BK277.out) hb)
      clear hb hbox hg
      refine hK.out _ _ ⟨(δl BK277.out 0).trans rfl,(δl BK277.out 1).trans rfl,(δl BK256.out 0).trans rfl,(δl BK256.out 1).trans rfl,(δl BK256.out 2).trans rfl,(δl BK256.out 3).trans rfl⟩ (fun hHeld => ?_)
      clear hK K
      refine nm 9 ?_
      exact norm_ (by simp only [putAll,ζl,δa,δb,δc]) (hCont (v284,gb287) _ ⟨hHeld,(by exact HO270.out),(by exact HO276.out),(by exact Kd.R_mono HO285.out (fun _ hk=>⟨hk.1.2,hk.2⟩)),(by exact BK255.out),(by exact BK256.out),(by exact BK272.out),(by exact BK277.out),(by exact BK287.out),GW287.out,GE287.out,NB255_287.out,NB287_255.out,NB256_287.out,NB287_256.out,NB272_287.out,NB287_272.out,NB277_287.out,NB287_277.out,(by exact HB.out)⟩)
     ·
      skip
      refine box_step ?hg (N:=9) ?hd (cs:=#[.string (⟨#[]⟩:ByteArray),.slice none 0 0]) (t:=25) ?hr ?_;(case hd=>rfl);(case hg=>rfl);(case hr=>(go_simp;done))
      intro gb287 hg w55 hbox hb
      replace HO270:=ζa (ζh (by exact HO270.out) hb)
      replace HO276:=ζa (ζh (by exact HO276.out) hb)
      have BK287:=ζa (hbox)
      have GW287:=ζa (gbw hg (by exact HB.out))
      have GE287:=ζa (gbw hg (by exact HB.out))
      replace HB:=ζa (δr (by exact HB.out) hb)
      have NB255_287:=ζa ((by rw [hg];exact Nat.ne_of_lt (blk_lt (g:=gb255) (o:=.cells #[.string a0_0,.slice A0_1 l0_1.length c0_1] 45 (0,0)) (by exact BK255.out)):gb255≠gb287))
      have NB287_255:=ζa ((by rw [hg];exact Nat.ne_of_gt (blk_lt (g:=gb255) (o:=.cells #[.string a0_0,.slice A0_1 l0_1.length c0_1] 45 (0,0)) (by exact BK255.out)):gb287≠gb255))
      replace BK255:=ζa (blk_below (g:=gb255) (o:=.cells #[.string a0_0,.slice A0_1 l0_1.length c0_1] 45 (0,0)) (by exact BK255.out) hb)
      have NB256_287:=ζa ((by rw [hg];exact Nat.ne_of_lt (blk_lt (g:=gb256) (o:=.cells #[.int .i64 a1_0,.int .i64 a1_1,.string a1_2,.string a1_3] 46 (0,0)) (by exact BK256.out)):gb256≠gb287))
      have NB287_256:=ζa ((by rw [hg];exact Nat.ne_of_gt (blk_lt (g:=gb256) (o:=.cells #[.int .i64 a1_0,.int .i64 a1_1,.string a1_2,.string a1_3] 46 (0,0)) (by exact BK256.out)):gb287≠gb256))
      replace BK256:=ζa (blk_below (g:=gb256) (o:=.cells #[.int .i64 a1_0,.int .i64 a1_1,.string a1_2,.string a1_3] 46 (0,0)) (by exact BK256.out) hb)
      have NB272_287:=ζa ((by rw [hg];exact Nat.ne_of_lt (blk_lt (g:=gb272) (o:=.cells #[.string t267,.slice Ao41 t268.length co41] 25 (0,0)) (by exact BK272.out)):gb272≠gb287))
      have NB287_272:=ζa ((by rw [hg];exact Nat.ne_of_gt (blk_lt (g:=gb272) (o:=.cells #[.string t267,.slice Ao41 t268.length co41] 25 (0,0)) (by exact BK272.out)):gb287≠gb272))
      replace BK272:=ζa (blk_below (g:=gb272) (o:=.cells #[.string t267,.slice Ao41 t268.length co41] 25 (0,0)) (by exact BK272.out) hb)
      have NB277_287:=ζa ((by rw [hg];exact Nat.ne_of_lt (blk_lt (g:=gb277) (o:=.cells #[.string t273,.slice Ao51 t274.length co51] 25 (0,0)) (by exact BK277.out)):gb277≠gb287))
      have NB287_277:=ζa ((by rw [hg];exact Nat.ne_of_gt (blk_lt (g:=gb277) (o:=.cells #[.string t273,.slice Ao51 t274.length co51] 25 (0,0)) (by exact BK277.out)):gb287≠gb277))
      replace BK277:=ζa (blk_below (g:=gb277) (o:=.cells #[.string t273,.slice Ao51 t274.length co51] 25 (0,0)) (by exact BK277.out) hb)
      clear hb hbox hg
      refine hK.out _ _ ⟨(δl BK277.out 0).trans rfl,(δl BK277.out 1).trans rfl,(δl BK256.out 0).trans rfl,(δl BK256.out 1).trans rfl,(δl BK256.out 2).trans rfl,(δl BK256.out 3).trans rfl⟩ (fun hHeld => ?_)
      clear hK K
      refine nm 9 ?_
      refine on 3 40 (fun K hK => ?_)
      refine gs Try.func8 #[.agg #[.string t273,.slice Ao51 t274.length co51],.agg #[.int .i64 t278,.int .i64 t279,.string t280,.string t281]] ?_
      with_reducible refine (impl_UpdateClient.calls k t273 _ _ t274 t278 t279 t280 t281 t282 t283 t286 _ ?side1 ?side2 A24.out).mono ?_
      (case side1=>repeat (exact (ζg HO276.out).2.2))
      (case side2=>exact (ζg HO276.out).2.1)
      rintro e w56 ⟨v284,rfl,ho0,hb⟩
      refine ⟨_,rfl,?_⟩
      have HO285:=ζa (Kd.R_lower (Kd.R_new' (Kd.R_new' ho0 (Kd.R_lt (by exact HO270.out))) (Kd.R_lt (by exact HO276.out))) (δs (by exact HB.out)))
      replace HO270:=ζa (Kd.R_elder' (by exact HO270.out) (Kd.R_base ho0) hb)
      replace HO276:=ζa (Kd.R_elder' (by exact HO276.out) (Kd.R_base ho0) hb)
      replace BK255:=ζa (blk_below (g:=gb255) (o:=.cells #[.string a0_0,.slice A0_1 l0_1.length c0_1] 45 (0,0)) (by exact BK255.out) hb)
      replace BK256:=ζa (blk_below (g:=gb256) (o:=.cells #[.int .i64 a1_0,.int .i64 a1_1,.string a1_2,.string a1_3] 46 (0,0)) (by exact BK256.out) hb)
      replace BK272:=ζa (blk_below (g:=gb272) (o:=.cells #[.string t267,.slice Ao41 t268.length co41] 25 (0,0)) (by exact BK272.out) hb)
      replace BK277:=ζa (blk_below (g:=gb277) (o:=.cells #[.string t273,.slice Ao51 t274.length co51] 25 (0,0)) (by exact BK277.out) hb)
      replace BK287:=ζa (blk_below (g:=gb287) (o:=.cells #[.string (⟨#[]⟩:ByteArray),.slice none 0 0] 25 (0,0)) (by exact BK287.out) hb)
      replace HB:=ζa (δr (by exact HB.out) hb)
      (try clear hb)
      (try clear hb2)
      (try clear hk)
      (try clear hi)
      (try clear ho0)
      refine hK.out _ _ ⟨(δl BK277.out 0).trans rfl,(δl BK277.out 1).trans rfl,(δl BK256.out 0).trans rfl,(δl BK256.out 1).trans rfl,(δl BK256.out 2).trans rfl,(δl BK256.out 3).trans rfl⟩ (fun hHeld => ?_)
      clear hK K
      refine nm 40 ?_
      refine pu 4 36 ?_
      refine pu 5 41 ?_
      refine pu 6 42 ?_
      exact norm_ (by simp only [putAll,ζl,δa,δb,δc]) (hCont (v284,gb287) _ ⟨hHeld,(by exact HO270.out),(by exact HO276.out),(by exact Kd.R_mono HO285.out (fun _ hk=>⟨hk.1.2,hk.2⟩)),(by exact BK255.out),(by exact BK256.out),(by exact BK272.out),(by exact BK277.out),(by exact BK287.out),GW287.out,GE287.out,NB255_287.out,NB287_255.out,NB256_287.out,NB287_256.out,NB272_287.out,NB287_272.out,NB277_287.out,NB287_277.out,(by exact HB.out)⟩)
    ·
     skip
     refine box_step ?hg (N:=9) ?hd (cs:=#[.string (⟨#[]⟩:ByteArray),.slice none 0 0]) (t:=25) ?hr ?_;(case hd=>rfl);(case hg=>rfl);(case hr=>(go_simp;done))
     intro gb287 hg w54 hbox hb
     replace HO270:=ζa (ζh (by exact HO270.out) hb)
     replace HO276:=ζa (ζh (by exact HO276.out) hb)
     have BK287:=ζa (hbox)
     have GW287:=ζa (gbw hg (by exact HB.out))
     have GE287:=ζa (gbw hg (by exact HB.out))
     replace HB:=ζa (δr (by exact HB.out) hb)
     have NB255_287:=ζa ((by rw [hg];exact Nat.ne_of_lt (blk_lt (g:=gb255) (o:=.cells #[.string a0_0,.slice A0_1 l0_1.length c0_1] 45 (0,0)) (by exact BK255.out)):gb255≠gb287))
     have NB287_255:=ζa ((by rw [hg];exact Nat.ne_of_gt (blk_lt (g:=gb255) (o:=.cells #[.string a0_0,.slice A0_1 l0_1.length c0_1] 45 (0,0)) (by exact BK255.out)):gb287≠gb255))
     replace BK255:=ζa (blk_below (g:=gb255) (o:=.cells #[.string a0_0,.slice A0_1 l0_1.length c0_1] 45 (0,0)) (by exact BK255.out) hb)
     have NB256_287:=ζa ((by rw [hg];exact Nat.ne_of_lt (blk_lt (g:=gb256) (o:=.cells #[.int .i64 a1_0,.int .i64 a1_1,.string a1_2,.string a1_3] 46 (0,0)) (by exact BK256.out)):gb256≠gb287))
     have NB287_256:=ζa ((by rw [hg];exact Nat.ne_of_gt (blk_lt (g:=gb256) (o:=.cells #[.int .i64 a1_0,.int .i64 a1_1,.string a1_2,.string a1_3] 46 (0,0)) (by exact BK256.out)):gb287≠gb256))
     replace BK256:=ζa (blk_below (g:=gb256) (o:=.cells #[.int .i64 a1_0,.int .i64 a1_1,.string a1_2,.string a1_3] 46 (0,0)) (by exact BK256.out) hb)
     have NB272_287:=ζa ((by rw [hg];exact Nat.ne_of_lt (blk_lt (g:=gb272) (o:=.cells #[.string t267,.slice Ao41 t268.length co41] 25 (0,0)) (by exact BK272.out)):gb272≠gb287))
     have NB287_272:=ζa ((by rw [hg];exact Nat.ne_of_gt (blk_lt (g:=gb272) (o:=.cells #[.string t267,.slice Ao41 t268.length co41] 25 (0,0)) (by exact BK272.out)):gb287≠gb272))
     replace BK272:=ζa (blk_below (g:=gb272) (o:=.cells #[.string t267,.slice Ao41 t268.length co41] 25 (0,0)) (by exact BK272.out) hb)
     have NB277_287:=ζa ((by rw [hg];exact Nat.ne_of_lt (blk_lt (g:=gb277) (o:=.cells #[.string t273,.slice Ao51 t274.length co51] 25 (0,0)) (by exact BK277.out)):gb277≠gb287))
     have NB287_277:=ζa ((by rw [hg];exact Nat.ne_of_gt (blk_lt (g:=gb277) (o:=.cells #[.string t273,.slice Ao51 t274.length co51] 25 (0,0)) (by exact BK277.out)):gb287≠gb277))
     replace BK277:=ζa (blk_below (g:=gb277) (o:=.cells #[.string t273,.slice Ao51 t274.length co51] 25 (0,0)) (by exact BK277.out) hb)
     clear hb hbox hg
     refine hK.out _ _ ⟨(δl BK277.out 0).trans rfl,(δl BK277.out 1).trans rfl,(δl BK256.out 0).trans rfl,(δl BK256.out 1).trans rfl,(δl BK256.out 2).trans rfl,(δl BK256.out 3).trans rfl⟩ (fun hHeld => ?_)
     clear hK K
     refine nm 9 ?_
     refine on 2 39 (fun K hK => ?_)
     refine gs Try.func20 #[.agg #[.int .i64 a1_0,.int .i64 a1_1,.string a1_2,.string a1_3]] ?_
     with_reducible refine (laws_toHeader.calls a1_0 a1_1 a1_2 a1_3 t278 t279 t280 t281 _ A23.out).mono ?_
     rintro e w55 ⟨rfl,hb⟩
     refine ⟨_,rfl,?_⟩
     replace HO270:=ζa (ζh (by exact HO270.out) hb)
     replace HO276:=ζa (ζh (by exact HO276.out) hb)
     replace BK255:=ζa (blk_below (g:=gb255) (o:=.cells #[.string a0_0,.slice A0_1 l0_1.length c0_1] 45 (0,0)) (by exact BK255.out) hb)
     replace BK256:=ζa (blk_below (g:=gb256) (o:=.cells #[.int .i64 a1_0,.int .i64 a1_1,.string a1_2,.string a1_3] 46 (0,0)) (by exact BK256.out) hb)
     replace BK272:=ζa (blk_below (g:=gb272) (o:=.cells #[.string t267,.slice Ao41 t268.length co41] 25 (0,0)) (by exact BK272.out) hb)
     replace BK277:=ζa (blk_below (g:=gb277) (o:=.cells #[.string t273,.slice Ao51 t274.length co51] 25 (0,0)) (by exact BK277.out) hb)
     replace BK287:=ζa (blk_below (g:=gb287) (o:=.cells #[.string (⟨#[]⟩:ByteArray),.slice none 0 0] 25 (0,0)) (by exact BK287.out) hb)
     replace HB:=ζa (δr (by exact HB.out) hb)
     (try clear hb)
     (try clear hb2)
     (try clear hk)
     (try clear hi)
     refine hK.out _ _ ⟨(δl BK277.out 0).trans rfl,(δl BK277.out 1).trans rfl,(δl BK256.out 0).trans rfl,(δl BK256.out 1).trans rfl,(δl BK256.out 2).trans rfl,(δl BK256.out 3).trans rfl⟩ (fun hHeld => ?_)
     clear hK K
     refine nm 39 ?_
     refine on 3 40 (fun K hK => ?_)
     refine gs Try.func8 #[.agg #[.string t273,.slice Ao51 t274.length co51],.agg #[.int .i64 t278,.int .i64 t279,.string t280,.string t281]] ?_
     with_reducible refine (impl_UpdateClient.calls k t273 _ _ t274 t278 t279 t280 t281 t282 t283 t286 _ ?side1 ?side2 A24.out).mono ?_
     (case side1=>repeat (exact (ζg HO276.out).2.2))
     (case side2=>exact (ζg HO276.out).2.1)
     rintro e w56 ⟨v284,rfl,ho0,hb⟩
     refine ⟨_,rfl,?_⟩
     have HO285:=ζa (Kd.R_lower (Kd.R_new' (Kd.R_new' ho0 (Kd.R_lt (by exact HO270.out))) (Kd.R_lt (by exact HO276.out))) (δs (by exact HB.out)))
     replace HO270:=ζa (Kd.R_elder' (by exact HO270.out) (Kd.R_base ho0) hb)
     replace HO276:=ζa (Kd.R_elder' (by exact HO276.out) (Kd.R_base ho0) hb)
     replace BK255:=ζa (blk_below (g:=gb255) (o:=.cells #[.string a0_0,.slice A0_1 l0_1.length c0_1] 45 (0,0)) (by exact BK255.out) hb)
     replace BK256:=ζa (blk_below (g:=gb256) (o:=.cells #[.int .i64 a1_0,.int .i64 a1_1,.string a1_2,.string a1_3] 46 (0,0)) (by exact BK256.out) hb)
     replace BK272:=ζa (blk_below (g:=gb272) (o:=.cells #[.string t267,.slice Ao41 t268.length co41] 25 (0,0)) (by exact BK272.out) hb)
     replace BK277:=ζa (blk_below (g:=gb277) (o:=.cells #[.string t273,.slice Ao51 t274.length co51] 25 (0,0)) (by exact BK277.out) hb)
     replace BK287:=ζa (blk_below (g:=gb287) (o:=.cells #[.string (⟨#[]⟩:ByteArray),.slice none 0 0] 25 (0,0)) (by exact BK287.out) hb)
     replace HB:=ζa (δr (by exact HB.out) hb)
     (try clear hb)
     (try clear hb2)
     (try clear hk)
     (try clear hi)
     (try clear ho0)
     refine hK.out _ _ ⟨(δl BK277.out 0).trans rfl,(δl BK277.out 1).trans rfl,(δl BK256.out 0).trans rfl,(δl BK256.out 1).trans rfl,(δl BK256.out 2).trans rfl,(δl BK256.out 3).trans rfl⟩ (fun hHeld => ?_)
     clear hK K
     refine nm 40 ?_
     refine pu 4 36 ?_
     refine pu 5 41 ?_
     refine pu 6 42 ?_
     exact norm_ (by simp only [putAll,ζl,δa,δb,δc]) (hCont (v284,gb287) _ ⟨hHeld,(by exact HO270.out),(by exact HO276.out),(by exact Kd.R_mono HO285.out (fun _ hk=>⟨hk.1.2,hk.2⟩)),(by exact BK255.out),(by exact BK256.out),(by exact BK272.out),(by exact BK277.out),(by exact BK287.out),GW287.out,GE287.out,NB255_287.out,NB287_255.out,NB256_287.out,NB287_256.out,NB272_287.out,NB287_272.out,NB277_287.out,NB287_277.out,(by exact HB.out)⟩)
   rintro ⟨v284,gb287⟩ w57 ⟨hS_,h0_,h1_,h2_,h3_,h4_,h5_,h6_,h7_,h8_,h9_,h10_,h11_,h12_,h13_,h14_,h15_,h16_,h17_,h18_⟩
   have n0_:Aside0 (Kd.R k39 39 w57 w.heap.size (fun k_=>some k_≠(.slice Ao51 t274.length co51:Value).ownBlock∧some k_≠(v284:Value).ownBlock) (.slice Ao41 t268.length co41) t268):=⟨h0_⟩
   have n1_:Aside0 (Kd.R k39 39 w57 w.heap.size (fun k_=>some k_≠(.slice Ao41 t268.length co41:Value).ownBlock∧some k_≠(v284:Value).ownBlock) (.slice Ao51 t274.length co51) t274):=⟨h1_⟩
   have n2_:Aside0 (Kd.R k39 39 w57 w.heap.size (fun k_=>some k_≠(.slice Ao41 t268.length co41:Value).ownBlock∧some k_≠(.slice Ao51 t274.length co51:Value).ownBlock) v284 t283):=⟨h2_⟩
   have n3_:Aside0 (w57.heap[gb255]? = some (.cells #[.string a0_0,.slice A0_1 l0_1.length c0_1] 45 (0,0))):=⟨h3_⟩
   have n4_:Aside0 (w57.heap[gb256]? = some (.cells #[.int .i64 a1_0,.int .i64 a1_1,.string a1_2,.string a1_3] 46 (0,0))):=⟨h4_⟩
   have n5_:Aside0 (w57.heap[gb272]? = some (.cells #[.string t267,.slice Ao41 t268.length co41] 25 (0,0))):=⟨h5_⟩
   have n6_:Aside0 (w57.heap[gb277]? = some (.cells #[.string t273,.slice Ao51 t274.length co51] 25 (0,0))):=⟨h6_⟩
   have n7_:Aside0 (w57.heap[gb287]? = some (.cells #[.string (⟨#[]⟩:ByteArray),.slice none 0 0] 25 (0,0))):=⟨h7_⟩
   have n8_:Aside0 (w.heap.size≤gb287):=⟨h8_⟩
   have n9_:Aside0 (w.heap.size≤gb287):=⟨h9_⟩
   have n10_:Aside0 (gb255≠gb287):=⟨h10_⟩
   have n11_:Aside0 (gb287≠gb255):=⟨h11_⟩
   have n12_:Aside0 (gb256≠gb287):=⟨h12_⟩
   have n13_:Aside0 (gb287≠gb256):=⟨h13_⟩
   have n14_:Aside0 (gb272≠gb287):=⟨h14_⟩
   have n15_:Aside0 (gb287≠gb272):=⟨h15_⟩
   have n16_:Aside0 (gb277≠gb287):=⟨h16_⟩
   have n17_:Aside0 (gb287≠gb277):=⟨h17_⟩
   have n18_:Aside0 (Below w.heap.size w w57):=⟨h18_⟩
   clear HO270
   clear HO276
   clear BK255
   clear BK256
   clear BK272
   clear BK277
   clear HB
   clear h0_ h1_ h2_ h3_ h4_ h5_ h6_ h7_ h8_ h9_ h10_ h11_ h12_ h13_ h14_ h15_ h16_ h17_ h18_
   have HO270:=n0_
   have HO276:=n1_
   have HO285:=n2_
   have BK255:=n3_
   have BK256:=n4_
   have BK272:=n5_
   have BK277:=n6_
   have BK287:=n7_
   have GW287:=n8_
   have GE287:=n9_
   have NB255_287:=n10_
   have NB287_255:=n11_
   have NB256_287:=n12_
   have NB287_256:=n13_
   have NB272_287:=n14_
   have NB287_272:=n15_
   have NB277_287:=n16_
   have NB287_277:=n17_
   have HB:=n18_
   clear n0_ n1_ n2_ n3_ n4_ n5_ n6_ n7_ n8_ n9_ n10_ n11_ n12_ n13_ n14_ n15_ n16_ n17_ n18_
   have hHeld:w57.cell? ⟨gb277,0,none⟩=some (.string t273)∧w57.cell? ⟨gb277,1,none⟩=some (.slice Ao51 t274.length co51)∧w57.cell? ⟨gb256,0,none⟩=some (.int .i64 a1_0)∧w57.cell? ⟨gb256,1,none⟩=some (.int .i64 a1_1)∧w57.cell? ⟨gb256,2,none⟩=some (.string a1_2)∧w57.cell? ⟨gb256,3,none⟩=some (.string a1_3):=hS_
   obtain ⟨Ao59,co59,eo59⟩:=Kd.R_slice HO285.out
   (subst eo59)
   refine norm_ (a':=?_) ?_ ?_
   rotate_left
   · simp only [putAll,ζl,δa,δb,δc];rfl
   refine one_ (i:=8) (N:=none) #[τ,τ,τ,τ,τ,τ,τ,τ,τ,φ] rfl rfl (one_of HT_.out (by kernel_rfl)) (by decide) (fun K hK => ?_)
   have hs58:w57.cell? ⟨gb287,0,none⟩=some (.string (⟨#[]⟩:ByteArray)):=(δl BK287.out 0).trans rfl
   have hfs58:=δm BK287.out 0
   have hns58_0:=NB255_287.out
   have hns58_1:=NB256_287.out
   have hns58_2:=NB272_287.out
   have hns58_3:=NB277_287.out
   have hms58_0:=NB287_255.out
   have hms58_1:=NB287_256.out
   have hms58_2:=NB287_272.out
   have hms58_3:=NB287_277.out
   have hs60:w57.cell? ⟨gb287,1,none⟩=some (.slice none 0 0):=(δl BK287.out 1).trans rfl
   have hfs60:=δm BK287.out 1
   have hns60_0:=NB255_287.out
   have hns60_1:=NB256_287.out
   have hns60_2:=NB272_287.out
   have hns60_3:=NB277_287.out
   have hms60_0:=NB287_255.out
   have hms60_1:=NB287_256.out
   have hms60_2:=NB287_272.out
   have hms60_3:=NB287_277.out
   refine skip_ (w1:=?_) (by rfl) rfl ?_ ?_
   rotate_left
   ·
    go_simp
    rfl
   refine hK.out _ _ ⟨((δt (p:=⟨gb287,_,none⟩) NB277_287.out _).trans (((δt (p:=⟨gb287,_,none⟩) NB277_287.out _).trans (hHeld.1)))),((δt (p:=⟨gb287,_,none⟩) NB277_287.out _).trans (((δt (p:=⟨gb287,_,none⟩) NB277_287.out _).trans (hHeld.2.1)))),((δt (p:=⟨gb287,_,none⟩) NB256_287.out _).trans (((δt (p:=⟨gb287,_,none⟩) NB256_287.out _).trans (hHeld.2.2.1)))),((δt (p:=⟨gb287,_,none⟩) NB256_287.out _).trans (((δt (p:=⟨gb287,_,none⟩) NB256_287.out _).trans (hHeld.2.2.2.1)))),((δt (p:=⟨gb287,_,none⟩) NB256_287.out _).trans (((δt (p:=⟨gb287,_,none⟩) NB256_287.out _).trans (hHeld.2.2.2.2.1)))),((δt (p:=⟨gb287,_,none⟩) NB256_287.out _).trans (((δt (p:=⟨gb287,_,none⟩) NB256_287.out _).trans (hHeld.2.2.2.2.2))))⟩ (fun hHeld => ?_)
   clear hK K
   refine pu 9 10 ?_
   refine done_ (done_of HT_.out (by kernel_rfl)) ?_
   go_upto_region 11 with (fail)
   go_cut [51] (fun v51 wc => ∃ (kq:Nat) (x51_24:Bool),v51 = .bool x51_24∧Aside0 (laws_FnExactUpdateClient.j0 kq t271 t286 x51_24 a0_0 l0_1 a1_0 a1_1 a1_2 a1_3 t267 t268 t273 t274 t282 t283=some r)∧Aside0 (kq≤k)∧Aside0 (Kd.R k39 39 wc w.heap.size (fun k_=>some k_≠((.slice Ao51 t274.length co51):Value).ownBlock∧some k_≠((.slice Ao59 t283.length co59):Value).ownBlock) (.slice Ao41 t268.length co41) t268)∧Aside0 (Kd.R k39 39 wc w.heap.size (fun k_=>some k_≠((.slice Ao41 t268.length co41):Value).ownBlock∧some k_≠((.slice Ao59 t283.length co59):Value).ownBlock) (.slice Ao51 t274.length co51) t274)∧Aside0 (Kd.R k39 39 wc w.heap.size (fun k_=>some k_≠((.slice Ao41 t268.length co41):Value).ownBlock∧some k_≠((.slice Ao51 t274.length co51):Value).ownBlock) (.slice Ao59 t283.length co59) t283)∧Aside0 (wc.heap[gb255]? = some (.cells #[.string a0_0,(.slice A0_1 l0_1.length c0_1)] 45 (0,0)))∧Aside0 (wc.heap[gb256]? = some (.cells #[.int .i64 a1_0,.int .i64 a1_1,.string a1_2,.string a1_3] 46 (0,0)))∧Aside0 (wc.heap[gb272]? = some (.cells #[.string t267,(.slice Ao41 t268.length co41)] 25 (0,0)))∧Aside0 (wc.heap[gb277]? = some (.cells #[.string t273,(.slice Ao51 t274.length co51)] 25 (0,0)))∧Aside0 (wc.heap[gb287]? = some (.cells #[.string t282,(.slice Ao59 t283.length co59)] 25 (0,0)))∧Aside0 (Below w.heap.size w wc))
   case first =>
    have H:=HC25.out
    clear HC25
    obtain ⟨t288,A61,H⟩:=bsm H
    by_cases c62:t288=τ
    ·
     subst c62
     rw [ifT] at H
     have H':=ζa H
     clear H
     have hnb63:=NB287_255.out
     have hnc63:=NB255_287.out
     have hnb64:=NB287_256.out
     have hnc64:=NB256_287.out
     have hnb65:=NB287_272.out
     have hnc65:=NB272_287.out
     have hnb66:=NB287_277.out
     have hnc66:=NB277_287.out
     have hcz67_0:w57.cell? ⟨gb287,0,none⟩=some (.string (⟨#[]⟩:ByteArray)):=(δl BK287.out 0).trans rfl
     have hcz67_1:w57.cell? ⟨gb287,1,none⟩=some (.slice none 0 0):=(δl BK287.out 1).trans rfl
     have hfz67_0:=δm BK287.out 0
     have hfz67_1:=δm BK287.out 1
     have hnb68:=NB272_255.out
     have hnc68:=NB255_272.out
     have hnb69:=NB272_256.out
     have hnc69:=NB256_272.out
     have hnb70:=NB272_277.out
     have hnc70:=NB277_272.out
     have hcz71_0:w57.cell? ⟨gb272,0,none⟩=some (.string t267):=(δl BK272.out 0).trans rfl
     have hcz71_1:w57.cell? ⟨gb272,1,none⟩=some (.slice Ao41 t268.length co41):=(δl BK272.out 1).trans rfl
     have hfz71_0:=δm BK272.out 0
     have hfz71_1:=δm BK272.out 1
     go_wp2_with (((with_reducible refine δv (f:=21) rfl ?_);refine gl 45 Try.func21 #[.agg #[.string t282,.slice Ao59 t283.length co59],.agg #[.string t267,.slice Ao41 t268.length co41]] ?_;(with_reducible refine (laws_eqClient.calls k t282 _ _ t283 t267 _ _ t268 τ _ ?side1 ?side2 ?side3 ?side4 A61.out).mono ?_);(case side1=>refine (ζg (e:=39) (base:=w.heap.size) (ok:=fun k_=>(some k_≠(.slice Ao41 t268.length co41:Value).ownBlock∧some k_≠(.slice Ao51 t274.length co51:Value).ownBlock)) (n:=t283.length) (c:=co59) ?_).2.2;exact (by exact (Kd.R_mono (ζi (p:=⟨gb287,1,none⟩) (ζi (p:=⟨gb287,0,none⟩) (Kd.R_types HO285.out BK287.out (by decide)) (fun _ hk=>hk.2) (.string t282)) (fun _ hk=>hk.2) (.slice Ao59 t283.length co59)) (fun _ h_=>h_.1))));(case side2=>exact (ζg HO285.out).2.1);(case side3=>refine (ζg (e:=39) (base:=w.heap.size) (ok:=fun k_=>(some k_≠(.slice Ao51 t274.length co51:Value).ownBlock∧some k_≠(.slice Ao59 t283.length co59:Value).ownBlock)) (n:=t268.length) (c:=co41) ?_).2.2;exact (by exact (Kd.R_mono (ζi (p:=⟨gb287,1,none⟩) (ζi (p:=⟨gb287,0,none⟩) (Kd.R_types HO270.out BK287.out (by decide)) (fun _ hk=>hk.2) (.string t282)) (fun _ hk=>hk.2) (.slice Ao59 t283.length co59)) (fun _ h_=>h_.1))));(case side4=>exact (ζg HO270.out).2.1);rintro e w72 ⟨rfl,hb⟩;refine ⟨_,rfl,?_⟩;replace HO270:=ζa (ζh (by exact (Kd.R_mono (ζi (p:=⟨gb287,1,none⟩) (ζi (p:=⟨gb287,0,none⟩) (Kd.R_types HO270.out BK287.out (by decide)) (fun _ hk=>hk.2) (.string t282)) (fun _ hk=>hk.2) (.slice Ao59 t283.length co59)) (fun _ h_=>h_.1))) hb);replace HO276:=ζa (ζh (by exact (Kd.R_mono (ζi (p:=⟨gb287,1,none⟩) (ζi (p:=⟨gb287,0,none⟩) (Kd.R_types HO276.out BK287.out (by decide)) (fun _ hk=>hk.2) (.string t282)) (fun _ hk=>hk.2) (.slice Ao59 t283.length co59)) (fun _ h_=>h_.1))) hb);replace HO285:=ζa (ζh (by exact (Kd.R_mono (ζi (p:=⟨gb287,1,none⟩) (ζi (p:=⟨gb287,0,none⟩) (Kd.R_types HO285.out BK287.out (by decide)) (fun _ hk=>hk.2) (.string t282)) (fun _ hk=>hk.2) (.slice Ao59 t283.length co59)) (fun _ h_=>h_.1))) hb);replace BK255:=ζa (blk_below (g:=gb255) (o:=.cells #[.string a0_0,.slice A0_1 l0_1.length c0_1] 45 (0,0)) (by refine blk_far ?_ NB255_287.out _;refine blk_far ?_ NB255_287.out _;exact BK255.out) hb);replace BK256:=ζa (blk_below (g:=gb256) (o:=.cells #[.int .i64 a1_0,.int .i64 a1_1,.string a1_2,.string a1_3] 46 (0,0)) (by refine blk_far ?_ NB256_287.out _;refine blk_far ?_ NB256_287.out _;exact BK256.out) hb);replace BK272:=ζa (blk_below (g:=gb272) (o:=.cells #[.string t267,.slice Ao41 t268.length co41] 25 (0,0)) (by refine blk_far ?_ NB272_287.out _;refine blk_far ?_ NB272_287.out _;exact BK272.out) hb);replace BK277:=ζa (blk_below (g:=gb277) (o:=.cells #[.string t273,.slice Ao51 t274.length co51] 25 (0,0)) (by refine blk_far ?_ NB277_287.out _;refine blk_far ?_ NB277_287.out _;exact BK277.out) hb);replace BK287:=ζa (blk_below (g:=gb287) (o:=.cells #[.string t282,.slice Ao59 t283.length co59] 25 (0,0)) (by refine δw (cs:=#[.string t282,.slice none 0 0]) ?_ 1 _ rfl;refine δw (cs:=#[.string (⟨#[]⟩:ByteArray),.slice none 0 0]) ?_ 0 _ rfl;exact BK287.out) hb);replace HB:=ζa (δr (by repeat ((with_reducible first|exact HB.out|refine δq ?_ GE287.out))) hb);(try clear hb);(try clear hb2);(try clear hk);(try clear hi)))
     go_meet
     case rel=>exact ⟨_,((t286 != t271)),(by rfl),H',⟨by omega⟩,⟨by exact HO270.out⟩,⟨by exact HO276.out⟩,⟨by exact HO285.out⟩,⟨by exact BK255.out⟩,⟨by exact BK256.out⟩,⟨by exact BK272.out⟩,⟨by exact BK277.out⟩,⟨by exact BK287.out⟩,⟨by repeat ((with_reducible exact HB.out))⟩⟩
    ·
     replace c62:=Bool.eq_false_iff.mpr c62
     subst c62
     rw [ifF] at H
     have H':=ζa H
     clear H
     have hnb73:=NB287_255.out
     have hnc73:=NB255_287.out
     have hnb74:=NB287_256.out
     have hnc74:=NB256_287.out
     have hnb75:=NB287_272.out
     have hnc75:=NB272_287.out
     have hnb76:=NB287_277.out
     have hnc76:=NB277_287.out
     have hcz77_0:w57.cell? ⟨gb287,0,none⟩=some (.string (⟨#[]⟩:ByteArray)):=(δl BK287.out 0).trans rfl
     have hcz77_1:w57.cell? ⟨gb287,1,none⟩=some (.slice none 0 0):=(δl BK287.out 1).trans rfl
     have hfz77_0:=δm BK287.out 0
     have hfz77_1:=δm BK287.out 1
     have hnb78:=NB272_255.out
     have hnc78:=NB255_272.out
     have hnb79:=NB272_256.out
     have hnc79:=NB256_272.out
     have hnb80:=NB272_277.out
     have hnc80:=NB277_272.out
     have hcz81_0:w57.cell? ⟨gb272,0,none⟩=some (.string t267):=(δl BK272.out 0).trans rfl
     have hcz81_1:w57.cell? ⟨gb272,1,none⟩=some (.slice Ao41 t268.length co41):=(δl BK272.out 1).trans rfl
     have hfz81_0:=δm BK272.out 0
     have hfz81_1:=δm BK272.out 1
     go_wp2_with (((with_reducible refine δv (f:=21) rfl ?_);refine gl 45 Try.func21 #[.agg #[.string t282,.slice Ao59 t283.length co59],.agg #[.string t267,.slice Ao41 t268.length co41]] ?_;(with_reducible refine (laws_eqClient.calls k t282 _ _ t283 t267 _ _ t268 φ _ ?side1 ?side2 ?side3 ?side4 A61.out).mono ?_);(case side1=>refine (ζg (e:=39) (base:=w.heap.size) (ok:=fun k_=>(some k_≠(.slice Ao41 t268.length co41:Value).ownBlock∧some k_≠(.slice Ao51 t274.length co51:Value).ownBlock)) (n:=t283.length) (c:=co59) ?_).2.2;exact (by exact (Kd.R_mono (ζi (p:=⟨gb287,1,none⟩) (ζi (p:=⟨gb287,0,none⟩) (Kd.R_types HO285.out BK287.out (by decide)) (fun _ hk=>hk.2) (.string t282)) (fun _ hk=>hk.2) (.slice Ao59 t283.length co59)) (fun _ h_=>h_.1))));(case side2=>exact (ζg HO285.out).2.1);(case side3=>refine (ζg (e:=39) (base:=w.heap.size) (ok:=fun k_=>(some k_≠(.slice Ao51 t274.length co51:Value).ownBlock∧some k_≠(.slice Ao59 t283.length co59:Value).ownBlock)) (n:=t268.length) (c:=co41) ?_).2.2;exact (by exact (Kd.R_mono (ζi (p:=⟨gb287,1,none⟩) (ζi (p:=⟨gb287,0,none⟩) (Kd.R_types HO270.out BK287.out (by decide)) (fun _ hk=>hk.2) (.string t282)) (fun _ hk=>hk.2) (.slice Ao59 t283.length co59)) (fun _ h_=>h_.1))));(case side4=>exact (ζg HO270.out).2.1);rintro e w82 ⟨rfl,hb⟩;refine ⟨_,rfl,?_⟩;replace HO270:=ζa (ζh (by exact (Kd.R_mono (ζi (p:=⟨gb287,1,none⟩) (ζi (p:=⟨gb287,0,none⟩) (Kd.R_types HO270.out BK287.out (by decide)) (fun _ hk=>hk.2) (.string t282)) (fun _ hk=>hk.2) (.slice Ao59 t283.length co59)) (fun _ h_=>h_.1))) hb);replace HO276:=ζa (ζh (by exact (Kd.R_mono (ζi (p:=⟨gb287,1,none⟩) (ζi (p:=⟨gb287,0,none⟩) (Kd.R_types HO276.out BK287.out (by decide)) (fun _ hk=>hk.2) (.string t282)) (fun _ hk=>hk.2) (.slice Ao59 t283.length co59)) (fun _ h_=>h_.1))) hb);replace HO285:=ζa (ζh (by exact (Kd.R_mono (ζi (p:=⟨gb287,1,none⟩) (ζi (p:=⟨gb287,0,none⟩) (Kd.R_types HO285.out BK287.out (by decide)) (fun _ hk=>hk.2) (.string t282)) (fun _ hk=>hk.2) (.slice Ao59 t283.length co59)) (fun _ h_=>h_.1))) hb);replace BK255:=ζa (blk_below (g:=gb255) (o:=.cells #[.string a0_0,.slice A0_1 l0_1.length c0_1] 45 (0,0)) (by refine blk_far ?_ NB255_287.out _;refine blk_far ?_ NB255_287.out _;exact BK255.out) hb);replace BK256:=ζa (blk_below (g:=gb256) (o:=.cells #[.int .i64 a1_0,.int .i64 a1_1,.string a1_2,.string a1_3] 46 (0,0)) (by refine blk_far ?_ NB256_287.out _;refine blk_far ?_ NB256_287.out _;exact BK256.out) hb);replace BK272:=ζa (blk_below (g:=gb272) (o:=.cells #[.string t267,.slice Ao41 t268.length co41] 25 (0,0)) (by refine blk_far ?_ NB272_287.out _;refine blk_far ?_ NB272_287.out _;exact BK272.out) hb);replace BK277:=ζa (blk_below (g:=gb277) (o:=.cells #[.string t273,.slice Ao51 t274.length co51] 25 (0,0)) (by refine blk_far ?_ NB277_287.out _;refine blk_far ?_ NB277_287.out _;exact BK277.out) hb);replace BK287:=ζa (blk_below (g:=gb287) (o:=.cells #[.string t282,.slice Ao59 t283.length co59] 25 (0,0)) (by refine δw (cs:=#[.string t282,.slice none 0 0]) ?_ 1 _ rfl;refine δw (cs:=#[.string (⟨#[]⟩:ByteArray),.slice none 0 0]) ?_ 0 _ rfl;exact BK287.out) hb);replace HB:=ζa (δr (by repeat ((with_reducible first|exact HB.out|refine δq ?_ GE287.out))) hb);(try clear hb);(try clear hb2);(try clear hk);(try clear hi)))
     go_meet
     case rel=>exact ⟨_,(τ),(by rfl),H',⟨by omega⟩,⟨by exact HO270.out⟩,⟨by exact HO276.out⟩,⟨by exact HO285.out⟩,⟨by exact BK255.out⟩,⟨by exact BK256.out⟩,⟨by exact BK272.out⟩,⟨by exact BK277.out⟩,⟨by exact BK287.out⟩,⟨by repeat ((with_reducible exact HB.out))⟩⟩
   case rest =>
    clear HC25
    try clear c2
    try clear p2
    try clear c6
    try clear c7
    try clear c8
    try clear c20
    try clear c21
    try clear c62
    try clear c63
    try clear c64
    try clear c65
    try clear c66
    try clear c68
    try clear c69
    try clear c70
    try clear c73
    try clear c74
    try clear c75
    try clear c76
    try clear c78
    try clear c79
    try clear c80
    try clear hcz67_0
    try clear hcz67_1
    try clear hcz71_0
    try clear hcz71_1
    try clear hcz77_0
    try clear hcz77_1
    try clear hcz81_0
    try clear hcz81_1
    try clear hfz67_0
    try clear hfz67_1
    try clear hfz71_0
    try clear hfz71_1
    try clear hfz77_0
    try clear hfz77_1
    try clear hfz81_0
    try clear hfz81_1
    obtain ⟨kq,x51_24,rfl,HA,HJ24,HO_273001,HO_278001,HO_288001,BK255,BK256,BK272,BK277,BK287,HB⟩:=hcut
    cases kq with
    | zero=>exact absurd HA.out (by simp [laws_FnExactUpdateClient.j0])
    | succ kj24 =>
     have H:=HA.out
     clear HA
     simp only [laws_FnExactUpdateClient.j0] at H
     by_cases c83:x51_24=τ
     ·
      subst c83
      rw [ifT] at H
      obtain rfl:=Option.some.inj H
      go_wp2
      go_ret
      exact ⟨by rfl,by repeat ((with_reducible exact HB.out))⟩
     ·
      replace c83:=Bool.eq_false_iff.mpr c83
      subst c83
      rw [ifF] at H
      obtain ⟨⟨t289,t290⟩,A84,H⟩:=bsm H
      dsimp only at H
      obtain ⟨t293,A85,H⟩:=bsm H
      by_cases c86:t293=τ
      ·
       subst c86
       rw [ifT] at H
       obtain ⟨⟨t294,t295⟩,A87,H⟩:=bsm H
       dsimp only at H
       have HC88:=ζa H
       clear H
       try go_wp2
       replace HO_273001:=ζa (ζe HO_273001.out)
       replace HO_278001:=ζa (ζe HO_278001.out)
       replace HO_288001:=ζa (ζe HO_288001.out)
       replace BK255:=ζa (δp BK255.out)
       replace BK256:=ζa (δp BK256.out)
       replace BK272:=ζa (δp BK272.out)
       replace BK277:=ζa (δp BK277.out)
       replace BK287:=ζa (δp BK287.out)
       replace HB:=ζa (δj HB.out)
       refine start_ (n:=5) (S:=fun w'=>w'.cell? ⟨gb277,0,none⟩=some (.string t273)∧w'.cell? ⟨gb277,1,none⟩=some (.slice Ao51 t274.length co51)∧w'.cell? ⟨gb255,0,none⟩=some (.string a0_0)∧w'.cell? ⟨gb255,1,none⟩=some (.slice A0_1 l0_1.length c0_1)) (ds:=[]) #[φ,φ,φ,φ,φ] (by kernel_rfl) rfl rfl ⟨(δl BK277.out 0).trans rfl,(δl BK277.out 1).trans rfl,(δl BK255.out 0).trans rfl,(δl BK255.out 1).trans rfl⟩ (fun hHeld => ?_)
       generalize wc.drew=w89 at HO_273001 HO_278001 HO_288001 BK255 BK256 BK272 BK277 BK287 HB hHeld ⊢
       refine take_ (i:=0) (N:=some 52) (v:=?_) (a':=?_) #[τ,φ,φ,φ,φ] rfl rfl (by kernel_rfl) (fun _ _ _ h=>h) (Or.inl ⟨by rfl,?_⟩) hHeld ?_ ?_
       rotate_left
       · rintro w' ⟨s0,s1,s2,s3⟩;go_simp;with_reducible rfl
       rotate_left
       · simp only [ζl,δa,δb,δc,i64_w,i32_w];rfl
       refine take_ (i:=1) (N:=some 53) (v:=?_) (a':=?_) #[τ,τ,φ,φ,φ] rfl rfl (by kernel_rfl) (fun _ _ _ h=>h) (Or.inl ⟨by rfl,?_⟩) hHeld ?_ ?_
       rotate_left
       · rintro w' ⟨s0,s1,s2,s3⟩;go_simp;with_reducible rfl
       rotate_left
       · simp only [ζl,δa,δb,δc,i64_w,i32_w];rfl
       refine one_ (i:=2) (N:=some 54) #[τ,τ,τ,φ,φ] rfl rfl (by kernel_rfl) (by decide) (fun K hK => ?_)
       refine gs Try.func19 #[.agg #[.string a0_0,.slice A0_1 l0_1.length c0_1]] ?_
       with_reducible refine (laws_toClient.calls kj24 a0_0 _ _ l0_1 t289 t290 _ ?side1 ?side2 A84.out).mono ?_
       (case side1=>repeat (exact (Kd.C_below HR0_1.out HB.out)))
       (case side2=>exact HC0_1.out)
       rintro e w90 ⟨v291,rfl,ho0,hb⟩
       refine ⟨_,rfl,?_⟩
       have HO292:=ζa (Kd.R_lower (Kd.R_new' (Kd.R_new' (Kd.R_new' ho0 (Kd.R_lt (by exact HO_273001.out))) (Kd.R_lt (by exact HO_278001.out))) (Kd.R_lt (by exact HO_288001.out))) (δs (by exact HB.out)))
       replace HO_273001:=ζa (Kd.R_elder' (by exact HO_273001.out) (Kd.R_base ho0) hb)
       replace HO_278001:=ζa (Kd.R_elder' (by exact HO_278001.out) (Kd.R_base ho0) hb)
       replace HO_288001:=ζa (Kd.R_elder' (by exact HO_288001.out) (Kd.R_base ho0) hb)
       replace BK255:=ζa (blk_below (g:=gb255) (o:=.cells #[.string a0_0,.slice A0_1 l0_1.length c0_1] 45 (0,0)) (by exact BK255.out) hb)
       replace BK256:=ζa (blk_below (g:=gb256) (o:=.cells #[.int .i64 a1_0,.int .i64 a1_1,.string a1_2,.string a1_3] 46 (0,0)) (by exact BK256.out) hb)
       replace BK272:=ζa (blk_below (g:=gb272) (o:=.cells #[.string t267,.slice Ao41 t268.length co41] 25 (0,0)) (by exact BK272.out) hb)
       replace BK277:=ζa (blk_below (g:=gb277) (o:=.cells #[.string t273,.slice Ao51 t274.length co51] 25 (0,0)) (by exact BK277.out) hb)
       replace BK287:=ζa (blk_below (g:=gb287) (o:=.cells #[.string t282,.slice Ao59 t283.length co59] 25 (0,0)) (by exact BK287.out) hb)
       replace HB:=ζa (δr (by exact HB.out) hb)
       (try clear hb)
       (try clear hb2)
       (try clear hk)
       (try clear hi)
       (try clear ho0)
       obtain ⟨Ao91,co91,eo91⟩:=Kd.R_slice HO292.out
       (subst eo91)
       refine hK.out _ _ ⟨(δl BK277.out 0).trans rfl,(δl BK277.out 1).trans rfl,(δl BK255.out 0).trans rfl,(δl BK255.out 1).trans rfl⟩ (fun hHeld => ?_)
       clear hK K
       refine nm 54 ?_
       refine one_ (i:=3) (N:=some 55) #[τ,τ,τ,τ,φ] rfl rfl (by kernel_rfl) (by decide) (fun K hK => ?_)
       refine gs Try.func21 #[.agg #[.string t273,.slice Ao51 t274.length co51],.agg #[.string t289,.slice Ao91 t290.length co91]] ?_
       with_reducible refine (laws_eqClient.calls kj24 t273 _ _ t274 t289 _ _ t290 τ _ ?side1 ?side2 ?side3 ?side4 A85.out).mono ?_
       (case side1=>repeat (exact (ζg HO_278001.out).2.2))
       (case side2=>exact (ζg HO_278001.out).2.1)
       (case side3=>repeat (exact (ζg HO292.out).2.2))
       (case side4=>exact (ζg HO292.out).2.1)
       rintro e w92 ⟨rfl,hb⟩
       refine ⟨_,rfl,?_⟩
       replace HO_273001:=ζa (ζh (by exact HO_273001.out) hb)
       replace HO_278001:=ζa (ζh (by exact HO_278001.out) hb)
       replace HO_288001:=ζa (ζh (by exact HO_288001.out) hb)
       replace HO292:=ζa (ζh (by exact HO292.out) hb)
       replace BK255:=ζa (blk_below (g:=gb255) (o:=.cells #[.string a0_0,.slice A0_1 l0_1.length c0_1] 45 (0,0)) (by exact BK255.out) hb)
       replace BK256:=ζa (blk_below (g:=gb256) (o:=.cells #[.int .i64 a1_0,.int .i64 a1_1,.string a1_2,.string a1_3] 46 (0,0)) (by exact BK256.out) hb)
       replace BK272:=ζa (blk_below (g:=gb272) (o:=.cells #[.string t267,.slice Ao41 t268.length co41] 25 (0,0)) (by exact BK272.out) hb)
       replace BK277:=ζa (blk_below (g:=gb277) (o:=.cells #[.string t273,.slice Ao51 t274.length co51] 25 (0,0)) (by exact BK277.out) hb)
       replace BK287:=ζa (blk_below (g:=gb287) (o:=.cells #[.string t282,.slice Ao59 t283.length co59] 25 (0,0)) (by exact BK287.out) hb)
       replace HB:=ζa (δr (by exact HB.out) hb)
       (try clear hb)
       (try clear hb2)
       (try clear hk)
       (try clear hi)
       refine hK.out _ _ ⟨(δl BK277.out 0).trans rfl,(δl BK277.out 1).trans rfl,(δl BK255.out 0).trans rfl,(δl BK255.out 1).trans rfl⟩ (fun hHeld => ?_)
       clear hK K
       refine nm 55 ?_
       refine ζk (i:=4) (N:=some 56) (v:=?_) (a':=?_) #[τ,τ,τ,τ,τ] rfl rfl (by kernel_rfl) (fun _ _ _ h=>h) (Or.inl ⟨by rfl,?_⟩) ?_ ?_
       rotate_left
       · intro w';go_simp;with_reducible rfl
       rotate_left
       · simp only [ζl,δa,δb,δc,i64_w,i32_w];rfl
       refine done_ (by kernel_rfl) ?_
       have hnb93:=NB277_255.out
       have hnc93:=NB255_277.out
       have hnb94:=NB277_256.out
       have hnc94:=NB256_277.out
       have hnb95:=NB277_272.out
       have hnc95:=NB272_277.out
       have hnb96:=NB277_287.out
       have hnc96:=NB287_277.out
       have hcz97_0:w92.cell? ⟨gb277,0,none⟩=some (.string t273):=(δl BK277.out 0).trans rfl
       have hcz97_1:w92.cell? ⟨gb277,1,none⟩=some (.slice Ao51 t274.length co51):=(δl BK277.out 1).trans rfl
       have hfz97_0:=δm BK277.out 0
       have hfz97_1:=δm BK277.out 1
       go_upto_region 17 with (((with_reducible refine δv (f:=22) rfl ?_);refine gl 59 Try.func22 #[.agg #[.string t273,.slice Ao51 t274.length co51],.int .i64 1] ?_;(with_reducible refine (laws_markClient.calls kj24 t273 (fun k_=>some k_=(.slice Ao51 t274.length co51:Value).ownBlock) (.slice Ao51 t274.length co51) t274 1 t294 t295 w _ ?side1 ?side2 A87.out).mono ?_);(case side1=>repeat ((with_reducible exact HB.out)));(case side2=>exact Kd.R_tight rfl HO_278001.out);rintro e w98 ⟨rfl,hy0,hb,hkp⟩;refine ⟨_,rfl,?_⟩;replace HO_273001:=ζa (Kd.R_mono (ok':=fun k_=>some k_≠(.slice Ao51 t274.length co51:Value).ownBlock∧some k_≠(.slice Ao59 t283.length co59:Value).ownBlock∧some k_≠(.slice Ao91 t290.length co91:Value).ownBlock) (Kd.R_keptB (HO_273001.out) hkp (fun k_ hk_ hs_=>(hk_.1.1) hs_)) (fun k_ hk_=>⟨hk_.1.1.1,hk_.1.1.2,hk_.1.2⟩));replace HO_288001:=ζa (Kd.R_mono (ok':=fun k_=>some k_≠(.slice Ao41 t268.length co41:Value).ownBlock∧some k_≠(.slice Ao51 t274.length co51:Value).ownBlock∧some k_≠(.slice Ao91 t290.length co91:Value).ownBlock) (Kd.R_keptB (HO_288001.out) hkp (fun k_ hk_ hs_=>(hk_.1.2) hs_)) (fun k_ hk_=>⟨hk_.1.1.1,hk_.1.1.2,hk_.1.2⟩));replace BK255:=ζa (blk_kept (by exact BK255.out) hkp (fun hs_=>(fun e_=>(ζf HO_278001.out BK255.out (by decide)) e_) hs_));replace BK256:=ζa (blk_kept (by exact BK256.out) hkp (fun hs_=>(fun e_=>(ζf HO_278001.out BK256.out (by decide)) e_) hs_));replace BK272:=ζa (blk_kept (by exact BK272.out) hkp (fun hs_=>(fun e_=>(ζf HO_278001.out BK272.out (by decide)) e_) hs_));replace BK277:=ζa (blk_kept (by exact BK277.out) hkp (fun hs_=>(fun e_=>(ζf HO_278001.out BK277.out (by decide)) e_) hs_));replace BK287:=ζa (blk_kept (by exact BK287.out) hkp (fun hs_=>(fun e_=>(ζf HO_278001.out BK287.out (by decide)) e_) hs_));replace HO_278001:=ζa (Kd.R_reok rfl hy0 (fun k_ e_=>HO_278001.out.1 k_ e_));replace HO292:=ζa (Kd.R_mono (ok':=fun k_=>some k_≠(.slice Ao41 t268.length co41:Value).ownBlock∧some k_≠(.slice Ao51 t274.length co51:Value).ownBlock∧some k_≠(.slice Ao59 t283.length co59:Value).ownBlock) (Kd.R_keptB (HO292.out) hkp (fun k_ hk_ hs_=>(hk_.1.2) hs_)) (fun k_ hk_=>⟨hk_.1.1.1.2,hk_.1.1.2,hk_.1.2⟩));replace HB:=ζa (hb);(try clear hb);(try clear hkp);(try clear hy0)))
       (try simp only [ζl,δa,δb,δc])
       go_cut [72] (fun v72 wc => ∃ (kq:Nat) (x72_87:Bool),v72 = .bool x72_87∧Aside0 (laws_FnExactUpdateClient.j1 kq t271 x72_87 a0_0 l0_1 a1_0 a1_1 a1_2 a1_3 t267 t268 t282 t283=some r)∧Aside0 (kq≤kj24)∧Aside0 (Kd.R k39 39 wc w.heap.size (fun k_=>some k_≠((.slice Ao51 t274.length co51):Value).ownBlock∧some k_≠((.slice Ao59 t283.length co59):Value).ownBlock) (.slice Ao41 t268.length co41) t268)∧Aside0 (Kd.R k39 39 wc w.heap.size (fun k_=>some k_≠((.slice Ao41 t268.length co41):Value).ownBlock∧some k_≠((.slice Ao59 t283.length co59):Value).ownBlock) (.slice Ao51 t274.length co51) t295)∧Aside0 (Kd.R k39 39 wc w.heap.size (fun k_=>some k_≠((.slice Ao41 t268.length co41):Value).ownBlock∧some k_≠((.slice Ao51 t274.length co51):Value).ownBlock) (.slice Ao59 t283.length co59) t283)∧Aside0 (wc.heap[gb255]? = some (.cells #[.string a0_0,(.slice A0_1 l0_1.length c0_1)] 45 (0,0)))∧Aside0 (wc.heap[gb256]? = some (.cells #[.int .i64 a1_0,.int .i64 a1_1,.string a1_2,.string a1_3] 46 (0,0)))∧Aside0 (wc.heap[gb272]? = some (.cells #[.string t267,(.slice Ao41 t268.length co41)] 25 (0,0)))∧Aside0 (wc.heap[gb277]? = some (.cells #[.string t273,(.slice Ao51 t274.length co51)] 25 (0,0)))∧Aside0 (wc.heap[gb287]? = some (.cells #[.string t282,(.slice Ao59 t283.length co59)] 25 (0,0)))∧Aside0 (Below w.heap.size w wc))
       case first =>
        have H:=HC88.out
        clear HC88
        by_cases c99:t294<0
        ·
         rw [if_pos c99] at H
         have c99b0:=decide_eq_true c99
         clear c99
         have H':=ζa H
         clear H
         go_wp2
         go_meet
         case rel=>exact ⟨_,(τ),(by rfl),H',⟨by have:=HJ24.out;omega⟩,⟨by exact Kd.R_mono HO_273001.out (fun _ hk=>⟨hk.1,hk.2.1⟩)⟩,⟨by exact Kd.R_mono HO_278001.out (fun _ hk=>⟨hk.1.1,hk.1.2⟩)⟩,⟨by exact Kd.R_mono HO_288001.out (fun _ hk=>⟨hk.1,hk.2.1⟩)⟩,⟨by exact BK255.out⟩,⟨by exact BK256.out⟩,⟨by exact BK272.out⟩,⟨by exact BK277.out⟩,⟨by exact BK287.out⟩,⟨by repeat ((with_reducible exact HB.out))⟩⟩
        ·
         rw [if_neg c99] at H
         have c99b0:=decide_eq_false c99
         clear c99
         obtain ⟨t296,A100,H⟩:=bsm H
         by_cases c101:t296=τ
         ·
          subst c101
          rw [ifT] at H
          have H':=ζa H
          clear H
          have hnb102:=NB287_255.out
          have hnc102:=NB255_287.out
          have hnb103:=NB287_256.out
          have hnc103:=NB256_287.out
          have hnb104:=NB287_272.out
          have hnc104:=NB272_287.out
          have hnb105:=NB287_277.out
          have hnc105:=NB277_287.out
          have hcz106_0:w98.cell? ⟨gb287,0,none⟩=some (.string t282):=(δl BK287.out 0).trans rfl
          have hcz106_1:w98.cell? ⟨gb287,1,none⟩=some (.slice Ao59 t283.length co59):=(δl BK287.out 1).trans rfl
          have hfz106_0:=δm BK287.out 0
          have hfz106_1:=δm BK287.out 1
          have hnb107:=NB272_255.out
          have hnc107:=NB255_272.out
          have hnb108:=NB272_256.out
          have hnc108:=NB256_272.out
          have hnb109:=NB272_277.out
          have hnc109:=NB277_272.out
          have hcz110_0:w98.cell? ⟨gb272,0,none⟩=some (.string t267):=(δl BK272.out 0).trans rfl
          have hcz110_1:w98.cell? ⟨gb272,1,none⟩=some (.slice Ao41 t268.length co41):=(δl BK272.out 1).trans rfl
          have hfz110_0:=δm BK272.out 0
          have hfz110_1:=δm BK272.out 1
          go_wp2_with ((go_at_call 21;(with_reducible refine (laws_eqClient.calls kj24 t282 _ _ t283 t267 _ _ t268 τ _ ?side1 ?side2 ?side3 ?side4 A100.out).mono ?_);(case side1=>repeat (exact (ζg HO_288001.out).2.2));(case side2=>exact (ζg HO_288001.out).2.1);(case side3=>repeat (exact (ζg HO_273001.out).2.2));(case side4=>exact (ζg HO_273001.out).2.1);rintro e w111 ⟨rfl,hb⟩;replace HO_273001:=ζa (ζh (by exact HO_273001.out) hb);replace HO_278001:=ζa (ζh (by exact HO_278001.out) hb);replace HO_288001:=ζa (ζh (by exact HO_288001.out) hb);replace HO292:=ζa (ζh (by exact HO292.out) hb);replace BK255:=ζa (blk_below (g:=gb255) (o:=.cells #[.string a0_0,.slice A0_1 l0_1.length c0_1] 45 (0,0)) (by exact BK255.out) hb);replace BK256:=ζa (blk_below (g:=gb256) (o:=.cells #[.int .i64 a1_0,.int .i64 a1_1,.string a1_2,.string a1_3] 46 (0,0)) (by exact BK256.out) hb);replace BK272:=ζa (blk_below (g:=gb272) (o:=.cells #[.string t267,.slice Ao41 t268.length co41] 25 (0,0)) (by exact BK272.out) hb);replace BK277:=ζa (blk_below (g:=gb277) (o:=.cells #[.string t273,.slice Ao51 t274.length co51] 25 (0,0)) (by exact BK277.out) hb);replace BK287:=ζa (blk_below (g:=gb287) (o:=.cells #[.string t282,.slice Ao59 t283.length co59] 25 (0,0)) (by exact BK287.out) hb);replace HB:=ζa (δr (by exact HB.out) hb);(try clear hb);(try clear hb2);(try clear hk);(try clear hi)))
          go_meet
          case rel=>exact ⟨_,((t286 != t271)),(by rfl),H',⟨by have:=HJ24.out;omega⟩,⟨by exact Kd.R_mono HO_273001.out (fun _ hk=>⟨hk.1,hk.2.1⟩)⟩,⟨by exact Kd.R_mono HO_278001.out (fun _ hk=>⟨hk.1.1,hk.1.2⟩)⟩,⟨by exact Kd.R_mono HO_288001.out (fun _ hk=>⟨hk.1,hk.2.1⟩)⟩,⟨by exact BK255.out⟩,⟨by exact BK256.out⟩,⟨by exact BK272.out⟩,⟨by exact BK277.out⟩,⟨by exact BK287.out⟩,⟨by repeat ((with_reducible exact HB.out))⟩⟩
         ·
          replace c101:=Bool.eq_false_iff.mpr c101
          subst c101
          rw [ifF] at H
          have H':=ζa H
          clear H
          have hnb112:=NB287_255.out
          have hnc112:=NB255_287.out
          have hnb113:=NB287_256.out
          have hnc113:=NB256_287.out
          have hnb114:=NB287_272.out
          have hnc114:=NB272_287.out
          have hnb115:=NB287_277.out
          have hnc115:=NB277_287.out
          have hcz116_0:w98.cell? ⟨gb287,0,none⟩=some (.string t282):=(δl BK287.out 0).trans rfl
          have hcz116_1:w98.cell? ⟨gb287,1,none⟩=some (.slice Ao59 t283.length co59):=(δl BK287.out 1).trans rfl
          have hfz116_0:=δm BK287.out 0
          have hfz116_1:=δm BK287.out 1
          have hnb117:=NB272_255.out
          have hnc117:=NB255_272.out
          have hnb118:=NB272_256.out
          have hnc118:=NB256_272.out
          have hnb119:=NB272_277.out
          have hnc119:=NB277_272.out
          have hcz120_0:w98.cell? ⟨gb272,0,none⟩=some (.string t267):=(δl BK272.out 0).trans rfl
          have hcz120_1:w98.cell? ⟨gb272,1,none⟩=some (.slice Ao41 t268.length co41):=(δl BK272.out 1).trans rfl
          have hfz120_0:=δm BK272.out 0
          have hfz120_1:=δm BK272.out 1
          go_wp2_with ((go_at_call 21;(with_reducible refine (laws_eqClient.calls kj24 t282 _ _ t283 t267 _ _ t268 φ _ ?side1 ?side2 ?side3 ?side4 A100.out).mono ?_);(case side1=>repeat (exact (ζg HO_288001.out).2.2));(case side2=>exact (ζg HO_288001.out).2.1);(case side3=>repeat (exact (ζg HO_273001.out).2.2));(case side4=>exact (ζg HO_273001.out).2.1);rintro e w121 ⟨rfl,hb⟩;replace HO_273001:=ζa (ζh (by exact HO_273001.out) hb);replace HO_278001:=ζa (ζh (by exact HO_278001.out) hb);replace HO_288001:=ζa (ζh (by exact HO_288001.out) hb);replace HO292:=ζa (ζh (by exact HO292.out) hb);replace BK255:=ζa (blk_below (g:=gb255) (o:=.cells #[.string a0_0,.slice A0_1 l0_1.length c0_1] 45 (0,0)) (by exact BK255.out) hb);replace BK256:=ζa (blk_below (g:=gb256) (o:=.cells #[.int .i64 a1_0,.int .i64 a1_1,.string a1_2,.string a1_3] 46 (0,0)) (by exact BK256.out) hb);replace BK272:=ζa (blk_below (g:=gb272) (o:=.cells #[.string t267,.slice Ao41 t268.length co41] 25 (0,0)) (by exact BK272.out) hb);replace BK277:=ζa (blk_below (g:=gb277) (o:=.cells #[.string t273,.slice Ao51 t274.length co51] 25 (0,0)) (by exact BK277.out) hb);replace BK287:=ζa (blk_below (g:=gb287) (o:=.cells #[.string t282,.slice Ao59 t283.length co59] 25 (0,0)) (by exact BK287.out) hb);replace HB:=ζa (δr (by exact HB.out) hb);(try clear hb);(try clear hb2);(try clear hk);(try clear hi)))
          go_meet
          case rel=>exact ⟨_,(τ),(by rfl),H',⟨by have:=HJ24.out;omega⟩,⟨by exact Kd.R_mono HO_273001.out (fun _ hk=>⟨hk.1,hk.2.1⟩)⟩,⟨by exact Kd.R_mono HO_278001.out (fun _ hk=>⟨hk.1.1,hk.1.2⟩)⟩,⟨by exact Kd.R_mono HO_288001.out (fun _ hk=>⟨hk.1,hk.2.1⟩)⟩,⟨by exact BK255.out⟩,⟨by exact BK256.out⟩,⟨by exact BK272.out⟩,⟨by exact BK277.out⟩,⟨by exact BK287.out⟩,⟨by repeat ((with_reducible exact HB.out))⟩⟩
       case rest =>
        clear HC88
        try clear c1
        try clear c2
        try clear p2
        try clear c6
        try clear c7
        try clear c8
        try clear c9
        try clear c10
        try clear c11
        try clear c19
        try clear c20
        try clear c21
        try clear c22
        try clear c62
        try clear c63
        try clear c64
        try clear c65
        try clear c66
        try clear c68
        try clear c69
        try clear c70
        try clear c73
        try clear c74
        try clear c75
        try clear c76
        try clear c78
        try clear c79
        try clear c80
        try clear c83
        try clear c86
        try clear c93
        try clear c94
        try clear c95
        try clear c96
        try clear c99
        try clear c99b0
        try clear c101
        try clear c102
        try clear c103
        try clear c104
        try clear c105
        try clear c107
        try clear c108
        try clear c109
        try clear c112
        try clear c113
        try clear c114
        try clear c115
        try clear c117
        try clear c118
        try clear c119
        try clear hcz106_0
        try clear hcz106_1
        try clear hcz110_0
        try clear hcz110_1
        try clear hcz116_0
        try clear hcz116_1
        try clear hcz120_0
        try clear hcz120_1
        try clear hcz67_0
        try clear hcz67_1
        try clear hcz71_0
        try clear hcz71_1
        try clear hcz77_0
        try clear hcz77_1
        try clear hcz81_0
        try clear hcz81_1
        try clear hcz97_0
        try clear hcz97_1
        try clear hfz106_0
        try clear hfz106_1
        try clear hfz110_0
        try clear hfz110_1
        try clear hfz116_0
        try clear hfz116_1
        try clear hfz120_0
        try clear hfz120_1
        try clear hfz67_0
        try clear hfz67_1
        try clear hfz71_0
        try clear hfz71_1
        try clear hfz77_0
        try clear hfz77_1
        try clear hfz81_0
        try clear hfz81_1
        try clear hfz97_0
        try clear hfz97_1
        try clear p2
        obtain ⟨kq,x72_87,rfl,HA,HJ87,HO_273001,HO_278001,HO_288001,BK255,BK256,BK272,BK277,BK287,HB⟩:=hcut
        have hl278001_87:=(ζg HO_278001.out).1
        rw [hl278001_87] at HO_278001
        (try simp only [hl278001_87])
        (try simp only [hl278001_87] at BK255)
        (try simp only [hl278001_87] at BK256)
        (try simp only [hl278001_87] at BK272)
        (try simp only [hl278001_87] at BK277)
        (try simp only [hl278001_87] at BK287)
        (try simp only [hl278001_87] at HO_273001)
        (try simp only [hl278001_87] at HO_288001)
        cases kq with
        | zero=>exact absurd HA.out (by simp [laws_FnExactUpdateClient.j1])
        | succ kj87 =>
         have H:=HA.out
         clear HA
         simp only [laws_FnExactUpdateClient.j1] at H
         by_cases c122:x72_87=τ
         ·
          subst c122
          rw [ifT] at H
          obtain rfl:=Option.some.inj H
          go_wp2
          go_ret
          exact ⟨by rfl,by repeat ((with_reducible exact HB.out))⟩
         ·
          replace c122:=Bool.eq_false_iff.mpr c122
          subst c122
          rw [ifF] at H
          obtain ⟨⟨t297,t298⟩,A123,H⟩:=bsm H
          dsimp only at H
          obtain ⟨t299,A124,H⟩:=bsm H
          by_cases c125:t299<0
          ·
           rw [if_pos c125] at H
           have c125b0:=decide_eq_true c125
           clear c125
           obtain rfl:=Option.some.inj H
           have hnb126:=NB287_255.out
           have hnc126:=NB255_287.out
           have hnb127:=NB287_256.out
           have hnc127:=NB256_287.out
           have hnb128:=NB287_272.out
           have hnc128:=NB272_287.out
           have hnb129:=NB287_277.out
           have hnc129:=NB277_287.out
           have hcz130_0:wc.cell? ⟨gb287,0,none⟩=some (.string t282):=(δl BK287.out 0).trans rfl
           have hcz130_1:wc.cell? ⟨gb287,1,none⟩=some (.slice Ao59 t283.length co59):=(δl BK287.out 1).trans rfl
           have hfz130_0:=δm BK287.out 0
           have hfz130_1:=δm BK287.out 1
           go_wp2_with (first|((with_reducible refine δv (f:=22) rfl ?_);refine gl 75 Try.func22 #[.agg #[.string t282,.slice Ao59 t283.length co59],.int .i64 1] ?_;(with_reducible refine (laws_markClient.calls kj87 t282 (fun k_=>some k_=(.slice Ao59 t283.length co59:Value).ownBlock) (.slice Ao59 t283.length co59) t283 1 t297 t298 w _ ?side1 ?side2 A123.out).mono ?_);(case side1=>repeat ((with_reducible exact HB.out)));(case side2=>exact Kd.R_tight rfl HO_288001.out);rintro e w131 ⟨rfl,hy0,hb,hkp⟩;refine ⟨_,rfl,?_⟩;replace HO_273001:=ζa (Kd.R_mono (ok':=fun k_=>some k_≠(.slice Ao51 t295.length co51:Value).ownBlock∧some k_≠(.slice Ao59 t283.length co59:Value).ownBlock) (Kd.R_keptB (HO_273001.out) hkp (fun k_ hk_ hs_=>(hk_.2) hs_)) (fun k_ hk_=>⟨hk_.1.1,hk_.1.2⟩));replace HO_278001:=ζa (Kd.R_mono (ok':=fun k_=>some k_≠(.slice Ao41 t268.length co41:Value).ownBlock∧some k_≠(.slice Ao59 t283.length co59:Value).ownBlock) (Kd.R_keptB (HO_278001.out) hkp (fun k_ hk_ hs_=>(hk_.2) hs_)) (fun k_ hk_=>⟨hk_.1.1,hk_.1.2⟩));replace BK255:=ζa (blk_kept (by exact BK255.out) hkp (fun hs_=>(fun e_=>(ζf HO_288001.out BK255.out (by decide)) e_) hs_));replace BK256:=ζa (blk_kept (by exact BK256.out) hkp (fun hs_=>(fun e_=>(ζf HO_288001.out BK256.out (by decide)) e_) hs_));replace BK272:=ζa (blk_kept (by exact BK272.out) hkp (fun hs_=>(fun e_=>(ζf HO_288001.out BK272.out (by decide)) e_) hs_));replace BK277:=ζa (blk_kept (by exact BK277.out) hkp (fun hs_=>(fun e_=>(ζf HO_288001.out BK277.out (by decide)) e_) hs_));replace BK287:=ζa (blk_kept (by exact BK287.out) hkp (fun hs_=>(fun e_=>(ζf HO_288001.out BK287.out (by decide)) e_) hs_));replace HO_288001:=ζa (Kd.R_reok rfl hy0 (fun k_ e_=>HO_288001.out.1 k_ e_));replace HB:=ζa (hb);(try clear hb);(try clear hkp);(try clear hy0);have hcz132_0:w131.cell? ⟨gb287,0,none⟩=some (.string t282):=(δl BK287.out 0).trans rfl;have hcz132_1:w131.cell? ⟨gb287,1,none⟩=some (.slice Ao59 t283.length co59):=(δl BK287.out 1).trans rfl;have hfz132_0:=δm BK287.out 0;have hfz132_1:=δm BK287.out 1)|((with_reducible refine δv (f:=23) rfl ?_);refine goesL_ (some 78) rfl rfl Try.func23 (by kernel_rfl) rfl #[.agg #[.string t282,.slice Ao59 t298.length co59],.int .i64 1] rfl (by (try simp only [δd,δe,δf]);first|(rw [show t298.length=t283.length from (ζg HO_288001.out).1.symm] <;> rfl)) ?_;(with_reducible refine (laws_heldClient.calls kj87 t282 _ _ t298 1 t299 _ ?side1 ?side2 A124.out).mono ?_);(case side1=>repeat (exact (ζg HO_288001.out).2.2));(case side2=>rw [show t298.length=t283.length from (ζg HO_288001.out).1.symm];exact (ζg HO_288001.out).2.1);rintro e w133 ⟨rfl,hb⟩;refine ⟨_,rfl,?_⟩;replace HO_273001:=ζa (ζh (by exact HO_273001.out) hb);replace HO_278001:=ζa (ζh (by exact HO_278001.out) hb);replace HO_288001:=ζa (ζh (by exact HO_288001.out) hb);replace BK255:=ζa (blk_below (g:=gb255) (o:=.cells #[.string a0_0,.slice A0_1 l0_1.length c0_1] 45 (0,0)) (by exact BK255.out) hb);replace BK256:=ζa (blk_below (g:=gb256) (o:=.cells #[.int .i64 a1_0,.int .i64 a1_1,.string a1_2,.string a1_3] 46 (0,0)) (by exact BK256.out) hb);replace BK272:=ζa (blk_below (g:=gb272) (o:=.cells #[.string t267,.slice Ao41 t268.length co41] 25 (0,0)) (by exact BK272.out) hb);replace BK277:=ζa (blk_below (g:=gb277) (o:=.cells #[.string t273,.slice Ao51 t295.length co51] 25 (0,0)) (by exact BK277.out) hb);replace BK287:=ζa (blk_below (g:=gb287) (o:=.cells #[.string t282,.slice Ao59 t283.length co59] 25 (0,0)) (by exact BK287.out) hb);replace HB:=ζa (δr (by exact HB.out) hb);(try clear hb);(try clear hb2);(try clear hk);(try clear hi)))
           go_ret
           exact ⟨by rfl,by repeat ((with_reducible exact HB.out))⟩
          ·
           rw [if_neg c125] at H
           have c125b0:=decide_eq_false c125
           clear c125
           by_cases c134:t299=t297
           ·
            rw [if_pos c134] at H
            have c134b0:=beq_iff_eq.mpr c134
            have c134b1:=bne_eq_false_iff_eq.mpr c134
            clear c134
            obtain ⟨⟨t300,t301⟩,A135,H⟩:=bsm H
            dsimp only at H
            obtain ⟨⟨t304,t305,t306,t307⟩,A136,H⟩:=bsm H
            dsimp only at H
            obtain ⟨⟨t308,t309,t312⟩,A137,H⟩:=bsm H
            dsimp only at H
            have HC138:=ζa H
            clear H
            have hnb139:=NB287_255.out
            have hnc139:=NB255_287.out
            have hnb140:=NB287_256.out
            have hnc140:=NB256_287.out
            have hnb141:=NB287_272.out
            have hnc141:=NB272_287.out
            have hnb142:=NB287_277.out
            have hnc142:=NB277_287.out
            have hcz143_0:wc.cell? ⟨gb287,0,none⟩=some (.string t282):=(δl BK287.out 0).trans rfl
            have hcz143_1:wc.cell? ⟨gb287,1,none⟩=some (.slice Ao59 t283.length co59):=(δl BK287.out 1).trans rfl
            have hfz143_0:=δm BK287.out 0
            have hfz143_1:=δm BK287.out 1
            try go_wp2_with (first|((with_reducible refine δv (f:=22) rfl ?_);refine gl 75 Try.func22 #[.agg #[.string t282,.slice Ao59 t283.length co59],.int .i64 1] ?_;(with_reducible refine (laws_markClient.calls kj87 t282 (fun k_=>some k_=(.slice Ao59 t283.length co59:Value).ownBlock) (.slice Ao59 t283.length co59) t283 1 t297 t298 w _ ?side1 ?side2 A123.out).mono ?_);(case side1=>repeat ((with_reducible exact HB.out)));(case side2=>exact Kd.R_tight rfl HO_288001.out);rintro e w144 ⟨rfl,hy0,hb,hkp⟩;refine ⟨_,rfl,?_⟩;replace HO_273001:=ζa (Kd.R_mono (ok':=fun k_=>some k_≠(.slice Ao51 t295.length co51:Value).ownBlock∧some k_≠(.slice Ao59 t283.length co59:Value).ownBlock) (Kd.R_keptB (HO_273001.out) hkp (fun k_ hk_ hs_=>(hk_.2) hs_)) (fun k_ hk_=>⟨hk_.1.1,hk_.1.2⟩));replace HO_278001:=ζa (Kd.R_mono (ok':=fun k_=>some k_≠(.slice Ao41 t268.length co41:Value).ownBlock∧some k_≠(.slice Ao59 t283.length co59:Value).ownBlock) (Kd.R_keptB (HO_278001.out) hkp (fun k_ hk_ hs_=>(hk_.2) hs_)) (fun k_ hk_=>⟨hk_.1.1,hk_.1.2⟩));replace BK255:=ζa (blk_kept (by exact BK255.out) hkp (fun hs_=>(fun e_=>(ζf HO_288001.out BK255.out (by decide)) e_) hs_));replace BK256:=ζa (blk_kept (by exact BK256.out) hkp (fun hs_=>(fun e_=>(ζf HO_288001.out BK256.out (by decide)) e_) hs_));replace BK272:=ζa (blk_kept (by exact BK272.out) hkp (fun hs_=>(fun e_=>(ζf HO_288001.out BK272.out (by decide)) e_) hs_));replace BK277:=ζa (blk_kept (by exact BK277.out) hkp (fun hs_=>(fun e_=>(ζf HO_288001.out BK277.out (by decide)) e_) hs_));replace BK287:=ζa (blk_kept (by exact BK287.out) hkp (fun hs_=>(fun e_=>(ζf HO_288001.out BK287.out (by decide)) e_) hs_));replace HO_288001:=ζa (Kd.R_reok rfl hy0 (fun k_ e_=>HO_288001.out.1 k_ e_));replace HB:=ζa (hb);(try clear hb);(try clear hkp);(try clear hy0);have hcz145_0:w144.cell? ⟨gb287,0,none⟩=some (.string t282):=(δl BK287.out 0).trans rfl;have hcz145_1:w144.cell? ⟨gb287,1,none⟩=some (.slice Ao59 t283.length co59):=(δl BK287.out 1).trans rfl;have hfz145_0:=δm BK287.out 0;have hfz145_1:=δm BK287.out 1)|((with_reducible refine δv (f:=23) rfl ?_);refine goesL_ (some 78) rfl rfl Try.func23 (by kernel_rfl) rfl #[.agg #[.string t282,.slice Ao59 t298.length co59],.int .i64 1] rfl (by (try simp only [δd,δe,δf]);first|(rw [show t298.length=t283.length from (ζg HO_288001.out).1.symm] <;> rfl)) ?_;(with_reducible refine (laws_heldClient.calls kj87 t282 _ _ t298 1 t299 _ ?side1 ?side2 A124.out).mono ?_);(case side1=>repeat (exact (ζg HO_288001.out).2.2));(case side2=>rw [show t298.length=t283.length from (ζg HO_288001.out).1.symm];exact (ζg HO_288001.out).2.1);rintro e w146 ⟨rfl,hb⟩;refine ⟨_,rfl,?_⟩;replace HO_273001:=ζa (ζh (by exact HO_273001.out) hb);replace HO_278001:=ζa (ζh (by exact HO_278001.out) hb);replace HO_288001:=ζa (ζh (by exact HO_288001.out) hb);replace BK255:=ζa (blk_below (g:=gb255) (o:=.cells #[.string a0_0,.slice A0_1 l0_1.length c0_1] 45 (0,0)) (by exact BK255.out) hb);replace BK256:=ζa (blk_below (g:=gb256) (o:=.cells #[.int .i64 a1_0,.int .i64 a1_1,.string a1_2,.string a1_3] 46 (0,0)) (by exact BK256.out) hb);replace BK272:=ζa (blk_below (g:=gb272) (o:=.cells #[.string t267,.slice Ao41 t268.length co41] 25 (0,0)) (by exact BK272.out) hb);replace BK277:=ζa (blk_below (g:=gb277) (o:=.cells #[.string t273,.slice Ao51 t295.length co51] 25 (0,0)) (by exact BK277.out) hb);replace BK287:=ζa (blk_below (g:=gb287) (o:=.cells #[.string t282,.slice Ao59 t283.length co59] 25 (0,0)) (by exact BK287.out) hb);replace HB:=ζa (δr (by exact HB.out) hb);(try clear hb);(try clear hb2);(try clear hk);(try clear hi)))
            replace HO_273001:=ζa (ζe HO_273001.out)
            replace HO_278001:=ζa (ζe HO_278001.out)
            replace HO_288001:=ζa (ζe HO_288001.out)
            replace BK255:=ζa (δp BK255.out)
            replace BK256:=ζa (δp BK256.out)
            replace BK272:=ζa (δp BK272.out)
            replace BK277:=ζa (δp BK277.out)
            replace BK287:=ζa (δp BK287.out)
            replace HB:=ζa (δj HB.out)
            refine sta 11 (fun w'=>w'.cell? ⟨gb255,0,none⟩=some (.string a0_0)∧w'.cell? ⟨gb255,1,none⟩=some (.slice A0_1 l0_1.length c0_1)∧w'.cell? ⟨gb256,0,none⟩=some (.int .i64 a1_0)∧w'.cell? ⟨gb256,1,none⟩=some (.int .i64 a1_1)∧w'.cell? ⟨gb256,2,none⟩=some (.string a1_2)∧w'.cell? ⟨gb256,3,none⟩=some (.string a1_3)) [] laws_FnExactUpdateClient.tab27 laws_FnExactUpdateClient.bits27 ⟨(δl BK255.out 0).trans rfl,(δl BK255.out 1).trans rfl,(δl BK256.out 0).trans rfl,(δl BK256.out 1).trans rfl,(δl BK256.out 2).trans rfl,(δl BK256.out 3).trans rfl⟩ (fun hHeld HT_ HW_ => ?_)
            generalize w146.drew=w147 at HO_273001 HO_278001 HO_288001 BK255 BK256 BK272 BK277 BK287 HB hHeld ⊢
            refine ta 0 85 ?_
            refine ta 2 87 ?_
            refine join_ (σ:=Value × Value × Nat) 2 #[τ,τ,τ,τ,τ,τ,τ,τ,τ,φ,φ] (fun s_ => [(86,.agg #[.string t300,s_.1]),(88,.agg #[.int .i64 t304,.int .i64 t305,.string t306,.string t307]),(89,.tuple #[.agg #[.string t308,s_.2.1],.int .i64 t312]),(14,.pointer (some ⟨s_.2.2,0,none⟩)),(84,.tuple #[.agg #[.string t308,s_.2.1],.int .i64 t312]),(90,.agg #[.string t308,s_.2.1]),(91,.int .i64 t312)]) (fun s_ w'=>(w'.cell? ⟨gb255,0,none⟩=some (.string a0_0)∧w'.cell? ⟨gb255,1,none⟩=some (.slice A0_1 l0_1.length c0_1)∧w'.cell? ⟨gb256,0,none⟩=some (.int .i64 a1_0)∧w'.cell? ⟨gb256,1,none⟩=some (.int .i64 a1_1)∧w'.cell? ⟨gb256,2,none⟩=some (.string a1_2)∧w'.cell? ⟨gb256,3,none⟩=some (.string a1_3))∧(Kd.R k39 39 w' w.heap.size (fun k_=>some k_≠(s_.2.1:Value).ownBlock∧some k_≠(.slice Ao41 t268.length co41:Value).ownBlock∧some k_≠(.slice Ao51 t295.length co51:Value).ownBlock∧some k_≠(.slice Ao59 t283.length co59:Value).ownBlock) s_.1 t301)∧(Kd.R k39 39 w' w.heap.size (fun k_=>some k_≠(s_.1:Value).ownBlock∧some k_≠(.slice Ao41 t268.length co41:Value).ownBlock∧some k_≠(.slice Ao51 t295.length co51:Value).ownBlock∧some k_≠(.slice Ao59 t283.length co59:Value).ownBlock) s_.2.1 t309)∧(Kd.R k39 39 w' w.heap.size (fun k_=>some k_≠(s_.1:Value).ownBlock∧some k_≠(s_.2.1:Value).ownBlock∧some k_≠(.slice Ao51 t295.length co51:Value).ownBlock∧some k_≠(.slice Ao59 t283.length co59:Value).ownBlock) (.slice Ao41 t268.length co41) t268)∧(Kd.R k39 39 w' w.heap.size (fun k_=>some k_≠(s_.1:Value).ownBlock∧some k_≠(s_.2.1:Value).ownBlock∧some k_≠(.slice Ao41 t268.length co41:Value).ownBlock∧some k_≠(.slice Ao59 t283.length co59:Value).ownBlock) (.slice Ao51 t295.length co51) t295)∧(Kd.R k39 39 w' w.heap.size (fun k_=>some k_≠(s_.1:Value).ownBlock∧some k_≠(s_.2.1:Value).ownBlock∧some k_≠(.slice Ao41 t268.length co41:Value).ownBlock∧some k_≠(.slice Ao51 t295.length co51:Value).ownBlock) (.slice Ao59 t283.length co59) t298)∧(w'.heap[gb255]? = some (.cells #[.string a0_0,.slice A0_1 l0_1.length c0_1] 45 (0,0)))∧(w'.heap[gb256]? = some (.cells #[.int .i64 a1_0,.int .i64 a1_1,.string a1_2,.string a1_3] 46 (0,0)))∧(w'.heap[gb272]? = some (.cells #[.string t267,.slice Ao41 t268.length co41] 25 (0,0)))∧(w'.heap[gb277]? = some (.cells #[.string t273,.slice Ao51 t295.length co51] 25 (0,0)))∧(w'.heap[gb287]? = some (.cells #[.string t282,.slice Ao59 t283.length co59] 25 (0,0)))∧(w'.heap[s_.2.2]? = some (.cells #[.string (⟨#[]⟩:ByteArray),.slice none 0 0] 25 (0,0)))∧(w.heap.size≤s_.2.2)∧(w.heap.size≤s_.2.2)∧(gb255≠s_.2.2)∧(s_.2.2≠gb255)∧(gb256≠s_.2.2)∧(s_.2.2≠gb256)∧(gb272≠s_.2.2)∧(s_.2.2≠gb272)∧(gb277≠s_.2.2)∧(s_.2.2≠gb277)∧(gb287≠s_.2.2)∧(s_.2.2≠gb287)∧(Below w.heap.size w w')) ?_ ?_
            rotate_left
            ·
             intro hCont
             refine tw 1 8 86 14 (fun K hK => ?_) (fun K hK => ?_)
             ·
              skip
              refine gs Try.func19 #[.agg #[.string a0_0,.slice A0_1 l0_1.length c0_1]] ?_
              with_reducible refine (laws_toClient.calls kj87 a0_0 _ _ l0_1 t300 t301 _ ?side1 ?side2 A135.out).mono ?_
              (case side1=>repeat (exact (Kd.C_below HR0_1.out HB.out)))
              (case side2=>exact HC0_1.out)
              rintro e w148 ⟨v302,rfl,ho0,hb⟩
              refine ⟨_,rfl,?_⟩
              have HO303:=ζa (Kd.R_lower (Kd.R_new' (Kd.R_new' (Kd.R_new' ho0 (Kd.R_lt (by exact HO_273001.out))) (Kd.R_lt (by exact HO_278001.out))) (Kd.R_lt (by exact HO_288001.out))) (δs (by exact HB.out)))
              replace HO_273001:=ζa (Kd.R_elder' (by exact HO_273001.out) (Kd.R_base ho0) hb)
              replace HO_278001:=ζa (Kd.R_elder' (by exact HO_278001.out) (Kd.R_base ho0) hb)
              replace HO_288001:=ζa (Kd.R_elder' (by exact HO_288001.out) (Kd.R_base ho0) hb)
              replace BK255:=ζa (blk_below (g:=gb255) (o:=.cells #[.string a0_0,.slice A0_1 l0_1.length c0_1] 45 (0,0)) (by exact BK255.out) hb)
              replace BK256:=ζa (blk_below (g:=gb256) (o:=.cells #[.int .i64 a1_0,.int .i64 a1_1,.string a1_2,.string a1_3] 46 (0,0)) (by exact BK256.out) hb)
              replace BK272:=ζa (blk_below (g:=gb272) (o:=.cells #[.string t267,.slice Ao41 t268.length co41] 25 (0,0)) (by exact BK272.out) hb)
              replace BK277:=ζa (blk_below (g:=gb277) (o:=.cells #[.string t273,.slice Ao51 t295.length co51] 25 (0,0)) (by exact BK277.out) hb)
              replace BK287:=ζa (blk_below (g:=gb287) (o:=.cells #[.string t282,.slice Ao59 t283.length co59] 25 (0,0)) (by exact BK287.out) hb)
              replace HB:=ζa (δr (by exact HB.out) hb)
              (try clear hb)
              (try clear hb2)
              (try clear hk)
              (try clear hi)
              (try clear ho0)
              refine hK.out _ _ ⟨(δl BK255.out 0).trans rfl,(δl BK255.out 1).trans rfl,(δl BK256.out 0).trans rfl,(δl BK256.out 1).trans rfl,(δl BK256.out 2).trans rfl,(δl BK256.out 3).trans rfl⟩ (fun hHeld => ?_)
              clear hK K
              refine nm 86 ?_
              refine tw 3 8 88 14 (fun K hK => ?_) (fun K hK => ?_)
              ·
               skip
               refine gs Try.func20 #[.agg #[.int .i64 a1_0,.int .i64 a1_1,.string a1_2,.string a1_3]] ?_
               with_reducible refine (laws_toHeader.calls a1_0 a1_1 a1_2 a1_3 t304 t305 t306 t307 _ A136.out).mono ?_
               rintro e w149 ⟨rfl,hb⟩
               refine ⟨_,rfl,?_⟩
               replace HO_273001:=ζa (ζh (by exact HO_273001.out) hb)
               replace HO_278001:=ζa (ζh (by exact HO_278001.out) hb)
               replace HO_288001:=ζa (ζh (by exact HO_288001.out) hb)
               replace HO303:=ζa (ζh (by exact HO303.out) hb)
               replace BK255:=ζa (blk_below (g:=gb255) (o:=.cells #[.string a0_0,.slice A0_1 l0_1.length c0_1] 45 (0,0)) (by exact BK255.out) hb)
               replace BK256:=ζa (blk_below (g:=gb256) (o:=.cells #[.int .i64 a1_0,.int .i64 a1_1,.string a1_2,.string a1_3] 46 (0,0)) (by exact BK256.out) hb)
               replace BK272:=ζa (blk_below (g:=gb272) (o:=.cells #[.string t267,.slice Ao41 t268.length co41] 25 (0,0)) (by exact BK272.out) hb)
               replace BK277:=ζa (blk_below (g:=gb277) (o:=.cells #[.string t273,.slice Ao51 t295.length co51] 25 (0,0)) (by exact BK277.out) hb)
               replace BK287:=ζa (blk_below (g:=gb287) (o:=.cells #[.string t282,.slice Ao59 t283.length co59] 25 (0,0)) (by exact BK287.out) hb)
               replace HB:=ζa (δr (by exact HB.out) hb)
               (try clear hb)
               (try clear hb2)
               (try clear hk)
               (try clear hi)
               obtain ⟨Ao150,co150,eo150⟩:=Kd.R_slice HO303.out
               (subst eo150)
               refine hK.out _ _ ⟨(δl BK255.out 0).trans rfl,(δl BK255.out 1).trans rfl,(δl BK256.out 0).trans rfl,(δl BK256.out 1).trans rfl,(δl BK256.out 2).trans rfl,(δl BK256.out 3).trans rfl⟩ (fun hHeld => ?_)
               clear hK K
               refine nm 88 ?_
               refine tw 4 8 89 14 (fun K hK => ?_) (fun K hK => ?_)
               ·
                skip
                refine gs Try.func8 #[.agg #[.string t300,.slice Ao150 t301.length co150],.agg #[.int .i64 t304,.int .i64 t305,.string t306,.string t307]] ?_
                with_reducible refine (impl_UpdateClient.calls kj87 t300 _ _ t301 t304 t305 t306 t307 t308 t309 t312 _ ?side1 ?side2 A137.out).mono ?_
                (case side1=>repeat (exact (ζg HO303.out).2.2))
                (case side2=>exact (ζg HO303.out).2.1)
                rintro e w151 ⟨v310,rfl,ho0,hb⟩
                refine ⟨_,rfl,?_⟩
                have HO311:=ζa (Kd.R_lower (Kd.R_new' (Kd.R_new' (Kd.R_new' (Kd.R_new' ho0 (Kd.R_lt (by exact HO_273001.out))) (Kd.R_lt (by exact HO_278001.out))) (Kd.R_lt (by exact HO_288001.out))) (Kd.R_lt (by exact HO303.out))) (δs (by exact HB.out)))
                replace HO_273001:=ζa (Kd.R_elder' (by exact HO_273001.out) (Kd.R_base ho0) hb)
                replace HO_278001:=ζa (Kd.R_elder' (by exact HO_278001.out) (Kd.R_base ho0) hb)
                replace HO_288001:=ζa (Kd.R_elder' (by exact HO_288001.out) (Kd.R_base ho0) hb)
                replace HO303:=ζa (Kd.R_elder' (by exact HO303.out) (Kd.R_base ho0) hb)
                replace BK255:=ζa (blk_below (g:=gb255) (o:=.cells #[.string a0_0,.slice A0_1 l0_1.length c0_1] 45 (0,0)) (by exact BK255.out) hb)
                replace BK256:=ζa (blk_below (g:=gb256) (o:=.cells #[.int .i64 a1_0,.int .i64 a1_1,.string a1_2,.string a1_3] 46 (0,0)) (by exact BK256.out) hb)
                replace BK272:=ζa (blk_below (g:=gb272) (o:=.cells #[.string t267,.slice Ao41 t268.length co41] 25 (0,0)) (by exact BK272.out) hb)
                replace BK277:=ζa (blk_below (g:=gb277) (o:=.cells #[.string t273,.slice Ao51 t295.length co51] 25 (0,0)) (by exact BK277.out) hb)
                replace BK287:=ζa (blk_below (g:=gb287) (o:=.cells #[.string t282,.slice Ao59 t283.length co59] 25 (0,0)) (by exact BK287.out) hb)
                replace HB:=ζa (δr (by exact HB.out) hb)
                (try clear hb)
                (try clear hb2)
                (try clear hk)
                (try clear hi)
                (try clear ho0)
                refine hK.out _ _ ⟨(δl BK255.out 0).trans rfl,(δl BK255.out 1).trans rfl,(δl BK256.out 0).trans rfl,(δl BK256.out 1).trans rfl,(δl BK256.out 2).trans rfl,(δl BK256.out 3).trans rfl⟩ (fun hHeld => ?_)
                clear hK K
                refine nm 89 ?_
                refine pu 5 84 ?_
                refine pu 6 90 ?_
                refine pu 7 91 ?_
                refine on 8 14 (fun K hK => ?_)
                refine box_step ?hg (N:=14) ?hd (cs:=#[.string (⟨#[]⟩:ByteArray),.slice none 0 0]) (t:=25) ?hr ?_;(case hd=>rfl);(case hg=>rfl);(case hr=>(go_simp;done))
                intro gb313 hg w152 hbox hb
                replace HO_273001:=ζa (ζh (by exact HO_273001.out) hb)
                replace HO_278001:=ζa (ζh (by exact HO_278001.out) hb)
                replace HO_288001:=ζa (ζh (by exact HO_288001.out) hb)
                replace HO303:=ζa (ζh (by exact HO303.out) hb)
                replace HO311:=ζa (ζh (by exact HO311.out) hb)
                have BK313:=ζa (hbox)
                have GW313:=ζa (gbw hg (by exact HB.out))
                have GE313:=ζa (gbw hg (by exact HB.out))
                replace HB:=ζa (δr (by exact HB.out) hb)
                have NB255_313:=ζa ((by rw [hg];exact Nat.ne_of_lt (blk_lt (g:=gb255) (o:=.cells #[.string a0_0,.slice A0_1 l0_1.length c0_1] 45 (0,0)) (by exact BK255.out)):gb255≠gb313))
                have NB313_255:=ζa ((by rw [hg];exact Nat.ne_of_gt (blk_lt (g:=gb255) (o:=.cells #[.string a0_0,.slice A0_1 l0_1.length c0_1] 45 (0,0)) (by exact BK255.out)):gb313≠gb255))
                replace BK255:=ζa (blk_below (g:=gb255) (o:=.cells #[.string a0_0,.slice A0_1 l0_1.length c0_1] 45 (0,0)) (by exact BK255.out) hb)
                have NB256_313:=ζa ((by rw [hg];exact Nat.ne_of_lt (blk_lt (g:=gb256) (o:=.cells #[.int .i64 a1_0,.int .i64 a1_1,.string a1_2,.string a1_3] 46 (0,0)) (by exact BK256.out)):gb256≠gb313))
                have NB313_256:=ζa ((by rw [hg];exact Nat.ne_of_gt (blk_lt (g:=gb256) (o:=.cells #[.int .i64 a1_0,.int .i64 a1_1,.string a1_2,.string a1_3] 46 (0,0)) (by exact BK256.out)):gb313≠gb256))
                replace BK256:=ζa (blk_below (g:=gb256) (o:=.cells #[.int .i64 a1_0,.int .i64 a1_1,.string a1_2,.string a1_3] 46 (0,0)) (by exact BK256.out) hb)
                have NB272_313:=ζa ((by rw [hg];exact Nat.ne_of_lt (blk_lt (g:=gb272) (o:=.cells #[.string t267,.slice Ao41 t268.length co41] 25 (0,0)) (by exact BK272.out)):gb272≠gb313))
                have NB313_272:=ζa ((by rw [hg];exact Nat.ne_of_gt (blk_lt (g:=gb272) (o:=.cells #[.string t267,.slice Ao41 t268.length co41] 25 (0,0)) (by exact BK272.out)):gb313≠gb272))
                replace BK272:=ζa (blk_below (g:=gb272) (o:=.cells #[.string t267,.slice Ao41 t268.length co41] 25 (0,0)) (by exact BK272.out) hb)
                have NB277_313:=ζa ((by rw [hg];exact Nat.ne_of_lt (blk_lt (g:=gb277) (o:=.cells #[.string t273,.slice Ao51 t295.length co51] 25 (0,0)) (by exact BK277.out)):gb277≠gb313))
                have NB313_277:=ζa ((by rw [hg];exact Nat.ne_of_gt (blk_lt (g:=gb277) (o:=.cells #[.string t273,.slice Ao51 t295.length co51] 25 (0,0)) (by exact BK277.out)):gb313≠gb277))
                replace BK277:=ζa (blk_below (g:=gb277) (o:=.cells #[.string t273,.slice Ao51 t295.length co51] 25 (0,0)) (by exact BK277.out) hb)
                have NB287_313:=ζa ((by rw [hg];exact Nat.ne_of_lt (blk_lt (g:=gb287) (o:=.cells #[.string t282,.slice Ao59 t283.length co59] 25 (0,0)) (by exact BK287.out)):gb287≠gb313))
                have NB313_287:=ζa ((by rw [hg];exact Nat.ne_of_gt (blk_lt (g:=gb287) (o:=.cells #[.string t282,.slice Ao59 t283.length co59] 25 (0,0)) (by exact BK287.out)):gb313≠gb287))
                replace BK287:=ζa (blk_below (g:=gb287) (o:=.cells #[.string t282,.slice Ao59 t283.length co59] 25 (0,0)) (by exact BK287.out) hb)
                clear hb hbox hg
                refine hK.out _ _ ⟨(δl BK255.out 0).trans rfl,(δl BK255.out 1).trans rfl,(δl BK256.out 0).trans rfl,(δl BK256.out 1).trans rfl,(δl BK256.out 2).trans rfl,(δl BK256.out 3).trans rfl⟩ (fun hHeld => ?_)
                clear hK K
                refine nm 14 ?_
                exact norm_ (by simp only [putAll,ζl,δa,δb,δc]) (hCont (.slice Ao150 t301.length co150,v310,gb313) _ ⟨hHeld,(by exact Kd.R_mono HO303.out (fun _ hk=>⟨hk.2,⟨hk.1.1.1.2,⟨hk.1.1.2,hk.1.2⟩⟩⟩)),(by exact Kd.R_mono HO311.out (fun _ hk=>⟨hk.2,⟨hk.1.1.1.2,⟨hk.1.1.2,hk.1.2⟩⟩⟩)),(by exact Kd.R_mono HO_273001.out (fun _ hk=>⟨hk.1.2,⟨hk.2,⟨hk.1.1.1,hk.1.1.2⟩⟩⟩)),(by exact Kd.R_mono HO_278001.out (fun _ hk=>⟨hk.1.2,⟨hk.2,⟨hk.1.1.1,hk.1.1.2⟩⟩⟩)),(by exact Kd.R_mono HO_288001.out (fun _ hk=>⟨hk.1.2,⟨hk.2,⟨hk.1.1.1,hk.1.1.2⟩⟩⟩)),(by exact BK255.out),(by exact BK256.out),(by exact BK272.out),(by exact BK277.out),(by exact BK287.out),(by exact BK313.out),GW313.out,GE313.out,NB255_313.out,NB313_255.out,NB256_313.out,NB313_256.out,NB272_313.out,NB313_272.out,NB277_313.out,NB313_277.out,NB287_313.out,NB313_287.out,(by exact HB.out)⟩)
               ·
                skip
                refine box_step ?hg (N:=14) ?hd (cs:=#[.string (⟨#[]⟩:ByteArray),.slice none 0 0]) (t:=25) ?hr ?_;(case hd=>rfl);(case hg=>rfl);(case hr=>(go_simp;done))
                intro gb313 hg w150 hbox hb
                replace HO_273001:=ζa (ζh (by exact HO_273001.out) hb)
                replace HO_278001:=ζa (ζh (by exact HO_278001.out) hb)
                replace HO_288001:=ζa (ζh (by exact HO_288001.out) hb)
                replace HO303:=ζa (ζh (by exact HO303.out) hb)
                have BK313:=ζa (hbox)
                have GW313:=ζa (gbw hg (by exact HB.out))
                have GE313:=ζa (gbw hg (by exact HB.out))
                replace HB:=ζa (δr (by exact HB.out) hb)
                have NB255_313:=ζa ((by rw [hg];exact Nat.ne_of_lt (blk_lt (g:=gb255) (o:=.cells #[.string a0_0,.slice A0_1 l0_1.length c0_1] 45 (0,0)) (by exact BK255.out)):gb255≠gb313))
                have NB313_255:=ζa ((by rw [hg];exact Nat.ne_of_gt (blk_lt (g:=gb255) (o:=.cells #[.string a0_0,.slice A0_1 l0_1.length c0_1] 45 (0,0)) (by exact BK255.out)):gb313≠gb255))
                replace BK255:=ζa (blk_below (g:=gb255) (o:=.cells #[.string a0_0,.slice A0_1 l0_1.length c0_1] 45 (0,0)) (by exact BK255.out) hb)
                have NB256_313:=ζa ((by rw [hg];exact Nat.ne_of_lt (blk_lt (g:=gb256) (o:=.cells #[.int .i64 a1_0,.int .i64 a1_1,.string a1_2,.string a1_3] 46 (0,0)) (by exact BK256.out)):gb256≠gb313))
                have NB313_256:=ζa ((by rw [hg];exact Nat.ne_of_gt (blk_lt (g:=gb256) (o:=.cells #[.int .i64 a1_0,.int .i64 a1_1,.string a1_2,.string a1_3] 46 (0,0)) (by exact BK256.out)):gb313≠gb256))
                replace BK256:=ζa (blk_below (g:=gb256) (o:=.cells #[.int .i64 a1_0,.int .i64 a1_1,.string a1_2,.string a1_3] 46 (0,0)) (by exact BK256.out) hb)
                have NB272_313:=ζa ((by rw [hg];exact Nat.ne_of_lt (blk_lt (g:=gb272) (o:=.cells #[.string t267,.slice Ao41 t268.length co41] 25 (0,0)) (by exact BK272.out)):gb272≠gb313))
                have NB313_272:=ζa ((by rw [hg];exact Nat.ne_of_gt (blk_lt (g:=gb272) (o:=.cells #[.string t267,.slice Ao41 t268.length co41] 25 (0,0)) (by exact BK272.out)):gb313≠gb272))
                replace BK272:=ζa (blk_below (g:=gb272) (o:=.cells #[.string t267,.slice Ao41 t268.length co41] 25 (0,0)) (by exact BK272.out) hb)
                have NB277_313:=ζa ((by rw [hg];exact Nat.ne_of_lt (blk_lt (g:=gb277) (o:=.cells #[.string t273,.slice Ao51 t295.length co51] 25 (0,0)) (by exact BK277.out)):gb277≠gb313))
                have NB313_277:=ζa ((by rw [hg];exact Nat.ne_of_gt (blk_lt (g:=gb277) (o:=.cells #[.string t273,.slice Ao51 t295.length co51] 25 (0,0)) (by exact BK277.out)):gb313≠gb277))
                replace BK277:=ζa (blk_below (g:=gb277) (o:=.cells #[.string t273,.slice Ao51 t295.length co51] 25 (0,0)) (by exact BK277.out) hb)
                have NB287_313:=ζa ((by rw [hg];exact Nat.ne_of_lt (blk_lt (g:=gb287) (o:=.cells #[.string t282,.slice Ao59 t283.length co59] 25 (0,0)) (by exact BK287.out)):gb287≠gb313))
                have NB313_287:=ζa ((by rw [hg];exact Nat.ne_of_gt (blk_lt (g:=gb287) (o:=.cells #[.string t282,.slice Ao59 t283.length co59] 25 (0,0)) (by exact BK287.out)):gb313≠gb287))
                replace BK287:=ζa (blk_below (g:=gb287) (o:=.cells #[.string t282,.slice Ao59 t283.length co59] 25 (0,0)) (by exact BK287.out) hb)
                clear hb hbox hg
                obtain ⟨Ao151,co151,eo151⟩:=Kd.R_slice HO303.out
                ((injection eo151 with f1_ f2_ f3_;have f4_:=f1_.symm;have f5_:=f3_.symm;clear f1_ f2_ f3_;subst f4_;subst f5_))
                refine hK.out _ _ ⟨(δl BK255.out 0).trans rfl,(δl BK255.out 1).trans rfl,(δl BK256.out 0).trans rfl,(δl BK256.out 1).trans rfl,(δl BK256.out 2).trans rfl,(δl BK256.out 3).trans rfl⟩ (fun hHeld => ?_)
                clear hK K
                refine nm 14 ?_
                refine on 4 89 (fun K hK => ?_)
                refine gs Try.func8 #[.agg #[.string t300,.slice Ao151 t301.length co151],.agg #[.int .i64 t304,.int .i64 t305,.string t306,.string t307]] ?_
                with_reducible refine (impl_UpdateClient.calls kj87 t300 _ _ t301 t304 t305 t306 t307 t308 t309 t312 _ ?side1 ?side2 A137.out).mono ?_
                (case side1=>repeat (exact (ζg HO303.out).2.2))
                (case side2=>exact (ζg HO303.out).2.1)
                rintro e w152 ⟨v310,rfl,ho0,hb⟩
                refine ⟨_,rfl,?_⟩
                have HO311:=ζa (Kd.R_lower (Kd.R_new' (Kd.R_new' (Kd.R_new' (Kd.R_new' ho0 (Kd.R_lt (by exact HO_273001.out))) (Kd.R_lt (by exact HO_278001.out))) (Kd.R_lt (by exact HO_288001.out))) (Kd.R_lt (by exact HO303.out))) (δs (by exact HB.out)))
                replace HO_273001:=ζa (Kd.R_elder' (by exact HO_273001.out) (Kd.R_base ho0) hb)
                replace HO_278001:=ζa (Kd.R_elder' (by exact HO_278001.out) (Kd.R_base ho0) hb)
                replace HO_288001:=ζa (Kd.R_elder' (by exact HO_288001.out) (Kd.R_base ho0) hb)
                replace HO303:=ζa (Kd.R_elder' (by exact HO303.out) (Kd.R_base ho0) hb)
                replace BK255:=ζa (blk_below (g:=gb255) (o:=.cells #[.string a0_0,.slice A0_1 l0_1.length c0_1] 45 (0,0)) (by exact BK255.out) hb)
                replace BK256:=ζa (blk_below (g:=gb256) (o:=.cells #[.int .i64 a1_0,.int .i64 a1_1,.string a1_2,.string a1_3] 46 (0,0)) (by exact BK256.out) hb)
                replace BK272:=ζa (blk_below (g:=gb272) (o:=.cells #[.string t267,.slice Ao41 t268.length co41] 25 (0,0)) (by exact BK272.out) hb)
                replace BK277:=ζa (blk_below (g:=gb277) (o:=.cells #[.string t273,.slice Ao51 t295.length co51] 25 (0,0)) (by exact BK277.out) hb)
                replace BK287:=ζa (blk_below (g:=gb287) (o:=.cells #[.string t282,.slice Ao59 t283.length co59] 25 (0,0)) (by exact BK287.out) hb)
                replace BK313:=ζa (blk_below (g:=gb313) (o:=.cells #[.string (⟨#[]⟩:ByteArray),.slice none 0 0] 25 (0,0)) (by exact BK313.out) hb)
                replace HB:=ζa (δr (by exact HB.out) hb)
                (try clear hb)
                (try clear hb2)
                (try clear hk)
                (try clear hi)
                (try clear ho0)
                refine hK.out _ _ ⟨(δl BK255.out 0).trans rfl,(δl BK255.out 1).trans rfl,(δl BK256.out 0).trans rfl,(δl BK256.out 1).trans rfl,(δl BK256.out 2).trans rfl,(δl BK256.out 3).trans rfl⟩ (fun hHeld => ?_)
                clear hK K
                refine nm 89 ?_
                refine pu 5 84 ?_
                refine pu 6 90 ?_
                refine pu 7 91 ?_
                exact norm_ (by simp only [putAll,ζl,δa,δb,δc]) (hCont (.slice Ao151 t301.length co151,v310,gb313) _ ⟨hHeld,(by exact Kd.R_mono HO303.out (fun _ hk=>⟨hk.2,⟨hk.1.1.1.2,⟨hk.1.1.2,hk.1.2⟩⟩⟩)),(by exact Kd.R_mono HO311.out (fun _ hk=>⟨hk.2,⟨hk.1.1.1.2,⟨hk.1.1.2,hk.1.2⟩⟩⟩)),(by exact Kd.R_mono HO_273001.out (fun _ hk=>⟨hk.1.2,⟨hk.2,⟨hk.1.1.1,hk.1.1.2⟩⟩⟩)),(by exact Kd.R_mono HO_278001.out (fun _ hk=>⟨hk.1.2,⟨hk.2,⟨hk.1.1.1,hk.1.1.2⟩⟩⟩)),(by exact Kd.R_mono HO_288001.out (fun _ hk=>⟨hk.1.2,⟨hk.2,⟨hk.1.1.1,hk.1.1.2⟩⟩⟩)),(by exact BK255.out),(by exact BK256.out),(by exact BK272.out),(by exact BK277.out),(by exact BK287.out),(by exact BK313.out),GW313.out,GE313.out,NB255_313.out,NB313_255.out,NB256_313.out,NB313_256.out,NB272_313.out,NB313_272.out,NB277_313.out,NB313_277.out,NB287_313.out,NB313_287.out,(by exact HB.out)⟩)
              ·
               skip
               refine box_step ?hg (N:=14) ?hd (cs:=#[.string (⟨#[]⟩:ByteArray),.slice none 0 0]) (t:=25) ?hr ?_;(case hd=>rfl);(case hg=>rfl);(case hr=>(go_simp;done))
               intro gb313 hg w149 hbox hb
               replace HO_273001:=ζa (ζh (by exact HO_273001.out) hb)
               replace HO_278001:=ζa (ζh (by exact HO_278001.out) hb)
               replace HO_288001:=ζa (ζh (by exact HO_288001.out) hb)
               replace HO303:=ζa (ζh (by exact HO303.out) hb)
               have BK313:=ζa (hbox)
               have GW313:=ζa (gbw hg (by exact HB.out))
               have GE313:=ζa (gbw hg (by exact HB.out))
               replace HB:=ζa (δr (by exact HB.out) hb)
               have NB255_313:=ζa ((by rw [hg];exact Nat.ne_of_lt (blk_lt (g:=gb255) (o:=.cells #[.string a0_0,.slice A0_1 l0_1.length c0_1] 45 (0,0)) (by exact BK255.out)):gb255≠gb313))
               have NB313_255:=ζa ((by rw [hg];exact Nat.ne_of_gt (blk_lt (g:=gb255) (o:=.cells #[.string a0_0,.slice A0_1 l0_1.length c0_1] 45 (0,0)) (by exact BK255.out)):gb313≠gb255))
               replace BK255:=ζa (blk_below (g:=gb255) (o:=.cells #[.string a0_0,.slice A0_1 l0_1.length c0_1] 45 (0,0)) (by exact BK255.out) hb)
               have NB256_313:=ζa ((by rw [hg];exact Nat.ne_of_lt (blk_lt (g:=gb256) (o:=.cells #[.int .i64 a1_0,.int .i64 a1_1,.string a1_2,.string a1_3] 46 (0,0)) (by exact BK256.out)):gb256≠gb313))
               have NB313_256:=ζa ((by rw [hg];exact Nat.ne_of_gt (blk_lt (g:=gb256) (o:=.cells #[.int .i64 a1_0,.int .i64 a1_1,.string a1_2,.string a1_3] 46 (0,0)) (by exact BK256.out)):gb313≠gb256))
               replace BK256:=ζa (blk_below (g:=gb256) (o:=.cells #[.int .i64 a1_0,.int .i64 a1_1,.string a1_2,.string a1_3] 46 (0,0)) (by exact BK256.out) hb)
               have NB272_313:=ζa ((by rw [hg];exact Nat.ne_of_lt (blk_lt (g:=gb272) (o:=.cells #[.string t267,.slice Ao41 t268.length co41] 25 (0,0)) (by exact BK272.out)):gb272≠gb313))
               have NB313_272:=ζa ((by rw [hg];exact Nat.ne_of_gt (blk_lt (g:=gb272) (o:=.cells #[.string t267,.slice Ao41 t268.length co41] 25 (0,0)) (by exact BK272.out)):gb313≠gb272))
               replace BK272:=ζa (blk_below (g:=gb272) (o:=.cells #[.string t267,.slice Ao41 t268.length co41] 25 (0,0)) (by exact BK272.out) hb)
               have NB277_313:=ζa ((by rw [hg];exact Nat.ne_of_lt (blk_lt (g:=gb277) (o:=.cells #[.string t273,.slice Ao51 t295.length co51] 25 (0,0)) (by exact BK277.out)):gb277≠gb313))
               have NB313_277:=ζa ((by rw [hg];exact Nat.ne_of_gt (blk_lt (g:=gb277) (o:=.cells #[.string t273,.slice Ao51 t295.length co51] 25 (0,0)) (by exact BK277.out)):gb313≠gb277))
               replace BK277:=ζa (blk_below (g:=gb277) (o:=.cells #[.string t273,.slice Ao51 t295.length co51] 25 (0,0)) (by exact BK277.out) hb)
               have NB287_313:=ζa ((by rw [hg];exact Nat.ne_of_lt (blk_lt (g:=gb287) (o:=.cells #[.string t282,.slice Ao59 t283.length co59] 25 (0,0)) (by exact BK287.out)):gb287≠gb313))
               have NB313_287:=ζa ((by rw [hg];exact Nat.ne_of_gt (blk_lt (g:=gb287) (o:=.cells #[.string t282,.slice Ao59 t283.length co59] 25 (0,0)) (by exact BK287.out)):gb313≠gb287))
               replace BK287:=ζa (blk_below (g:=gb287) (o:=.cells #[.string t282,.slice Ao59 t283.length co59] 25 (0,0)) (by exact BK287.out) hb)
               clear hb hbox hg
               refine hK.out _ _ ⟨(δl BK255.out 0).trans rfl,(δl BK255.out 1).trans rfl,(δl BK256.out 0).trans rfl,(δl BK256.out 1).trans rfl,(δl BK256.out 2).trans rfl,(δl BK256.out 3).trans rfl⟩ (fun hHeld => ?_)
               clear hK K
               refine nm 14 ?_
               refine on 3 88 (fun K hK => ?_)
               refine gs Try.func20 #[.agg #[.int .i64 a1_0,.int .i64 a1_1,.string a1_2,.string a1_3]] ?_
               with_reducible refine (laws_toHeader.calls a1_0 a1_1 a1_2 a1_3 t304 t305 t306 t307 _ A136.out).mono ?_
               rintro e w150 ⟨rfl,hb⟩
               refine ⟨_,rfl,?_⟩
               replace HO_273001:=ζa (ζh (by exact HO_273001.out) hb)
               replace HO_278001:=ζa (ζh (by exact HO_278001.out) hb)
               replace HO_288001:=ζa (ζh (by exact HO_288001.out) hb)
               replace HO303:=ζa (ζh (by exact HO303.out) hb)
               replace BK255:=ζa (blk_below (g:=gb255) (o:=.cells #[.string a0_0,.slice A0_1 l0_1.length c0_1] 45 (0,0)) (by exact BK255.out) hb)
               replace BK256:=ζa (blk_below (g:=gb256) (o:=.cells #[.int .i64 a1_0,.int .i64 a1_1,.string a1_2,.string a1_3] 46 (0,0)) (by exact BK256.out) hb)
               replace BK272:=ζa (blk_below (g:=gb272) (o:=.cells #[.string t267,.slice Ao41 t268.length co41] 25 (0,0)) (by exact BK272.out) hb)
               replace BK277:=ζa (blk_below (g:=gb277) (o:=.cells #[.string t273,.slice Ao51 t295.length co51] 25 (0,0)) (by exact BK277.out) hb)
               replace BK287:=ζa (blk_below (g:=gb287) (o:=.cells #[.string t282,.slice Ao59 t283.length co59] 25 (0,0)) (by exact BK287.out) hb)
               replace BK313:=ζa (blk_below (g:=gb313) (o:=.cells #[.string (⟨#[]⟩:ByteArray),.slice none 0 0] 25 (0,0)) (by exact BK313.out) hb)
               replace HB:=ζa (δr (by exact HB.out) hb)
               (try clear hb)
               (try clear hb2)
               (try clear hk)
               (try clear hi)
               obtain ⟨Ao151,co151,eo151⟩:=Kd.R_slice HO303.out
               (subst eo151)
               refine hK.out _ _ ⟨(δl BK255.out 0).trans rfl,(δl BK255.out 1).trans rfl,(δl BK256.out 0).trans rfl,(δl BK256.out 1).trans rfl,(δl BK256.out 2).trans rfl,(δl BK256.out 3).trans rfl⟩ (fun hHeld => ?_)
               clear hK K
               refine nm 88 ?_
               refine on 4 89 (fun K hK => ?_)
               refine gs Try.func8 #[.agg #[.string t300,.slice Ao151 t301.length co151],.agg #[.int .i64 t304,.int .i64 t305,.string t306,.string t307]] ?_
               with_reducible refine (impl_UpdateClient.calls kj87 t300 _ _ t301 t304 t305 t306 t307 t308 t309 t312 _ ?side1 ?side2 A137.out).mono ?_
               (case side1=>repeat (exact (ζg HO303.out).2.2))
               (case side2=>exact (ζg HO303.out).2.1)
               rintro e w152 ⟨v310,rfl,ho0,hb⟩
               refine ⟨_,rfl,?_⟩
               have HO311:=ζa (Kd.R_lower (Kd.R_new' (Kd.R_new' (Kd.R_new' (Kd.R_new' ho0 (Kd.R_lt (by exact HO_273001.out))) (Kd.R_lt (by exact HO_278001.out))) (Kd.R_lt (by exact HO_288001.out))) (Kd.R_lt (by exact HO303.out))) (δs (by exact HB.out)))
               replace HO_273001:=ζa (Kd.R_elder' (by exact HO_273001.out) (Kd.R_base ho0) hb)
               replace HO_278001:=ζa (Kd.R_elder' (by exact HO_278001.out) (Kd.R_base ho0) hb)
               replace HO_288001:=ζa (Kd.R_elder' (by exact HO_288001.out) (Kd.R_base ho0) hb)
               replace HO303:=ζa (Kd.R_elder' (by exact HO303.out) (Kd.R_base ho0) hb)
               replace BK255:=ζa (blk_below (g:=gb255) (o:=.cells #[.string a0_0,.slice A0_1 l0_1.length c0_1] 45 (0,0)) (by exact BK255.out) hb)
               replace BK256:=ζa (blk_below (g:=gb256) (o:=.cells #[.int .i64 a1_0,.int .i64 a1_1,.string a1_2,.string a1_3] 46 (0,0)) (by exact BK256.out) hb)
               replace BK272:=ζa (blk_below (g:=gb272) (o:=.cells #[.string t267,.slice Ao41 t268.length co41] 25 (0,0)) (by exact BK272.out) hb)
               replace BK277:=ζa (blk_below (g:=gb277) (o:=.cells #[.string t273,.slice Ao51 t295.length co51] 25 (0,0)) (by exact BK277.out) hb)
               replace BK287:=ζa (blk_below (g:=gb287) (o:=.cells #[.string t282,.slice Ao59 t283.length co59] 25 (0,0)) (by exact BK287.out) hb)
               replace BK313:=ζa (blk_below (g:=gb313) (o:=.cells #[.string (⟨#[]⟩:ByteArray),.slice none 0 0] 25 (0,0)) (by exact BK313.out) hb)
               replace HB:=ζa (δr (by exact HB.out) hb)
               (try clear hb)
               (try clear hb2)
               (try clear hk)
               (try clear hi)
               (try clear ho0)
               refine hK.out _ _ ⟨(δl BK255.out 0).trans rfl,(δl BK255.out 1).trans rfl,(δl BK256.out 0).trans rfl,(δl BK256.out 1).trans rfl,(δl BK256.out 2).trans rfl,(δl BK256.out 3).trans rfl⟩ (fun hHeld => ?_)
               clear hK K
               refine nm 89 ?_
               refine pu 5 84 ?_
               refine pu 6 90 ?_
               refine pu 7 91 ?_
               exact norm_ (by simp only [putAll,ζl,δa,δb,δc]) (hCont (.slice Ao151 t301.length co151,v310,gb313) _ ⟨hHeld,(by exact Kd.R_mono HO303.out (fun _ hk=>⟨hk.2,⟨hk.1.1.1.2,⟨hk.1.1.2,hk.1.2⟩⟩⟩)),(by exact Kd.R_mono HO311.out (fun _ hk=>⟨hk.2,⟨hk.1.1.1.2,⟨hk.1.1.2,hk.1.2⟩⟩⟩)),(by exact Kd.R_mono HO_273001.out (fun _ hk=>⟨hk.1.2,⟨hk.2,⟨hk.1.1.1,hk.1.1.2⟩⟩⟩)),(by exact Kd.R_mono HO_278001.out (fun _ hk=>⟨hk.1.2,⟨hk.2,⟨hk.1.1.1,hk.1.1.2⟩⟩⟩)),(by exact Kd.R_mono HO_288001.out (fun _ hk=>⟨hk.1.2,⟨hk.2,⟨hk.1.1.1,hk.1.1.2⟩⟩⟩)),(by exact BK255.out),(by exact BK256.out),(by exact BK272.out),(by exact BK277.out),(by exact BK287.out),(by exact BK313.out),GW313.out,GE313.out,NB255_313.out,NB313_255.out,NB256_313.out,NB313_256.out,NB272_313.out,NB313_272.out,NB277_313.out,NB313_277.out,NB287_313.out,NB313_287.out,(by exact HB.out)⟩)
             ·
              skip
              refine box_step ?hg (N:=14) ?hd (cs:=#[.string (⟨#[]⟩:ByteArray),.slice none 0 0]) (t:=25) ?hr ?_;(case hd=>rfl);(case hg=>rfl);(case hr=>(go_simp;done))
              intro gb313 hg w148 hbox hb
              replace HO_273001:=ζa (ζh (by exact HO_273001.out) hb)
              replace HO_278001:=ζa (ζh (by exact HO_278001.out) hb)
              replace HO_288001:=ζa (ζh (by exact HO_288001.out) hb)
              have BK313:=ζa (hbox)
              have GW313:=ζa (gbw hg (by exact HB.out))
              have GE313:=ζa (gbw hg (by exact HB.out))
              replace HB:=ζa (δr (by exact HB.out) hb)
              have NB255_313:=ζa ((by rw [hg];exact Nat.ne_of_lt (blk_lt (g:=gb255) (o:=.cells #[.string a0_0,.slice A0_1 l0_1.length c0_1] 45 (0,0)) (by exact BK255.out)):gb255≠gb313))
              have NB313_255:=ζa ((by rw [hg];exact Nat.ne_of_gt (blk_lt (g:=gb255) (o:=.cells #[.string a0_0,.slice A0_1 l0_1.length c0_1] 45 (0,0)) (by exact BK255.out)):gb313≠gb255))
              replace BK255:=ζa (blk_below (g:=gb255) (o:=.cells #[.string a0_0,.slice A0_1 l0_1.length c0_1] 45 (0,0)) (by exact BK255.out) hb)
              have NB256_313:=ζa ((by rw [hg];exact Nat.ne_of_lt (blk_lt (g:=gb256) (o:=.cells #[.int .i64 a1_0,.int .i64 a1_1,.string a1_2,.string a1_3] 46 (0,0)) (by exact BK256.out)):gb256≠gb313))
              have NB313_256:=ζa ((by rw [hg];exact Nat.ne_of_gt (blk_lt (g:=gb256) (o:=.cells #[.int .i64 a1_0,.int .i64 a1_1,.string a1_2,.string a1_3] 46 (0,0)) (by exact BK256.out)):gb313≠gb256))
              replace BK256:=ζa (blk_below (g:=gb256) (o:=.cells #[.int .i64 a1_0,.int .i64 a1_1,.string a1_2,.string a1_3] 46 (0,0)) (by exact BK256.out) hb)
              have NB272_313:=ζa ((by rw [hg];exact Nat.ne_of_lt (blk_lt (g:=gb272) (o:=.cells #[.string t267,.slice Ao41 t268.length co41] 25 (0,0)) (by exact BK272.out)):gb272≠gb313))
              have NB313_272:=ζa ((by rw [hg];exact Nat.ne_of_gt (blk_lt (g:=gb272) (o:=.cells #[.string t267,.slice Ao41 t268.length co41] 25 (0,0)) (by exact BK272.out)):gb313≠gb272))
              replace BK272:=ζa (blk_below (g:=gb272) (o:=.cells #[.string t267,.slice Ao41 t268.length co41] 25 (0,0)) (by exact BK272.out) hb)
              have NB277_313:=ζa ((by rw [hg];exact Nat.ne_of_lt (blk_lt (g:=gb277) (o:=.cells #[.string t273,.slice Ao51 t295.length co51] 25 (0,0)) (by exact BK277.out)):gb277≠gb313))
              have NB313_277:=ζa ((by rw [hg];exact Nat.ne_of_gt (blk_lt (g:=gb277) (o:=.cells #[.string t273,.slice Ao51 t295.length co51] 25 (0,0)) (by exact BK277.out)):gb313≠gb277))
              replace BK277:=ζa (blk_below (g:=gb277) (o:=.cells #[.string t273,.slice Ao51 t295.length co51] 25 (0,0)) (by exact BK277.out) hb)
              have NB287_313:=ζa ((by rw [hg];exact Nat.ne_of_lt (blk_lt (g:=gb287) (o:=.cells #[.string t282,.slice Ao59 t283.length co59] 25 (0,0)) (by exact BK287.out)):gb287≠gb313))
              have NB313_287:=ζa ((by rw [hg];exact Nat.ne_of_gt (blk_lt (g:=gb287) (o:=.cells #[.string t282,.slice Ao59 t283.length co59] 25 (0,0)) (by exact BK287.out)):gb313≠gb287))
              replace BK287:=ζa (blk_below (g:=gb287) (o:=.cells #[.string t282,.slice Ao59 t283.length co59] 25 (0,0)) (by exact BK287.out) hb)
              clear hb hbox hg
              refine hK.out _ _ ⟨(δl BK255.out 0).trans rfl,(δl BK255.out 1).trans rfl,(δl BK256.out 0).trans rfl,(δl BK256.out 1).trans rfl,(δl BK256.out 2).trans rfl,(δl BK256.out 3).trans rfl⟩ (fun hHeld => ?_)
              clear hK K
              refine nm 14 ?_
              refine on 1 86 (fun K hK => ?_)
              refine gs Try.func19 #[.agg #[.string a0_0,.slice A0_1 l0_1.length c0_1]] ?_
              with_reducible refine (laws_toClient.calls kj87 a0_0 _ _ l0_1 t300 t301 _ ?side1 ?side2 A135.out).mono ?_
              (case side1=>repeat (exact (Kd.C_below HR0_1.out HB.out)))
              (case side2=>exact HC0_1.out)
              rintro e w149 ⟨v302,rfl,ho0,hb⟩
              refine ⟨_,rfl,?_⟩
              have HO303:=ζa (Kd.R_lower (Kd.R_new' (Kd.R_new' (Kd.R_new' ho0 (Kd.R_lt (by exact HO_273001.out))) (Kd.R_lt (by exact HO_278001.out))) (Kd.R_lt (by exact HO_288001.out))) (δs (by exact HB.out)))
              replace HO_273001:=ζa (Kd.R_elder' (by exact HO_273001.out) (Kd.R_base ho0) hb)
              replace HO_278001:=ζa (Kd.R_elder' (by exact HO_278001.out) (Kd.R_base ho0) hb)
              replace HO_288001:=ζa (Kd.R_elder' (by exact HO_288001.out) (Kd.R_base ho0) hb)
              replace BK255:=ζa (blk_below (g:=gb255) (o:=.cells #[.string a0_0,.slice A0_1 l0_1.length c0_1] 45 (0,0)) (by exact BK255.out) hb)
              replace BK256:=ζa (blk_below (g:=gb256) (o:=.cells #[.int .i64 a1_0,.int .i64 a1_1,.string a1_2,.string a1_3] 46 (0,0)) (by exact BK256.out) hb)
              replace BK272:=ζa (blk_below (g:=gb272) (o:=.cells #[.string t267,.slice Ao41 t268.length co41] 25 (0,0)) (by exact BK272.out) hb)
              replace BK277:=ζa (blk_below (g:=gb277) (o:=.cells #[.string t273,.slice Ao51 t295.length co51] 25 (0,0)) (by exact BK277.out) hb)
              replace BK287:=ζa (blk_below (g:=gb287) (o:=.cells #[.string t282,.slice Ao59 t283.length co59] 25 (0,0)) (by exact BK287.out) hb)
              replace BK313:=ζa (blk_below (g:=gb313) (o:=.cells #[.string (⟨#[]⟩:ByteArray),.slice none 0 0] 25 (0,0)) (by exact BK313.out) hb)
              replace HB:=ζa (δr (by exact HB.out) hb)
              (try clear hb)
              (try clear hb2)
              (try clear hk)
              (try clear hi)
              (try clear ho0)
              refine hK.out _ _ ⟨(δl BK255.out 0).trans rfl,(δl BK255.out 1).trans rfl,(δl BK256.out 0).trans rfl,(δl BK256.out 1).trans rfl,(δl BK256.out 2).trans rfl,(δl BK256.out 3).trans rfl⟩ (fun hHeld => ?_)
              clear hK K
              refine nm 86 ?_
              refine on 3 88 (fun K hK => ?_)
              refine gs Try.func20 #[.agg #[.int .i64 a1_0,.int .i64 a1_1,.string a1_2,.string a1_3]] ?_
              with_reducible refine (laws_toHeader.calls a1_0 a1_1 a1_2 a1_3 t304 t305 t306 t307 _ A136.out).mono ?_
              rintro e w150 ⟨rfl,hb⟩
              refine ⟨_,rfl,?_⟩
              replace HO_273001:=ζa (ζh (by exact HO_273001.out) hb)
              replace HO_278001:=ζa (ζh (by exact HO_278001.out) hb)
              replace HO_288001:=ζa (ζh (by exact HO_288001.out) hb)
              replace HO303:=ζa (ζh (by exact HO303.out) hb)
              replace BK255:=ζa (blk_below (g:=gb255) (o:=.cells #[.string a0_0,.slice A0_1 l0_1.length c0_1] 45 (0,0)) (by exact BK255.out) hb)
              replace BK256:=ζa (blk_below (g:=gb256) (o:=.cells #[.int .i64 a1_0,.int .i64 a1_1,.string a1_2,.string a1_3] 46 (0,0)) (by exact BK256.out) hb)
              replace BK272:=ζa (blk_below (g:=gb272) (o:=.cells #[.string t267,.slice Ao41 t268.length co41] 25 (0,0)) (by exact BK272.out) hb)
              replace BK277:=ζa (blk_below (g:=gb277) (o:=.cells #[.string t273,.slice Ao51 t295.length co51] 25 (0,0)) (by exact BK277.out) hb)
              replace BK287:=ζa (blk_below (g:=gb287) (o:=.cells #[.string t282,.slice Ao59 t283.length co59] 25 (0,0)) (by exact BK287.out) hb)
              replace BK313:=ζa (blk_below (g:=gb313) (o:=.cells #[.string (⟨#[]⟩:ByteArray),.slice none 0 0] 25 (0,0)) (by exact BK313.out) hb)
              replace HB:=ζa (δr (by exact HB.out) hb)
              (try clear hb)
              (try clear hb2)
              (try clear hk)
              (try clear hi)
              obtain ⟨Ao151,co151,eo151⟩:=Kd.R_slice HO303.out
              (subst eo151)
              refine hK.out _ _ ⟨(δl BK255.out 0).trans rfl,(δl BK255.out 1).trans rfl,(δl BK256.out 0).trans rfl,(δl BK256.out 1).trans rfl,(δl BK256.out 2).trans rfl,(δl BK256.out 3).trans rfl⟩ (fun hHeld => ?_)
              clear hK K
              refine nm 88 ?_
              refine on 4 89 (fun K hK => ?_)
              refine gs Try.func8 #[.agg #[.string t300,.slice Ao151 t301.length co151],.agg #[.int .i64 t304,.int .i64 t305,.string t306,.string t307]] ?_
              with_reducible refine (impl_UpdateClient.calls kj87 t300 _ _ t301 t304 t305 t306 t307 t308 t309 t312 _ ?side1 ?side2 A137.out).mono ?_
              (case side1=>repeat (exact (ζg HO303.out).2.2))
              (case side2=>exact (ζg HO303.out).2.1)
              rintro e w152 ⟨v310,rfl,ho0,hb⟩
              refine ⟨_,rfl,?_⟩
              have HO311:=ζa (Kd.R_lower (Kd.R_new' (Kd.R_new' (Kd.R_new' (Kd.R_new' ho0 (Kd.R_lt (by exact HO_273001.out))) (Kd.R_lt (by exact HO_278001.out))) (Kd.R_lt (by exact HO_288001.out))) (Kd.R_lt (by exact HO303.out))) (δs (by exact HB.out)))
              replace HO_273001:=ζa (Kd.R_elder' (by exact HO_273001.out) (Kd.R_base ho0) hb)
              replace HO_278001:=ζa (Kd.R_elder' (by exact HO_278001.out) (Kd.R_base ho0) hb)
              replace HO_288001:=ζa (Kd.R_elder' (by exact HO_288001.out) (Kd.R_base ho0) hb)
              replace HO303:=ζa (Kd.R_elder' (by exact HO303.out) (Kd.R_base ho0) hb)
              replace BK255:=ζa (blk_below (g:=gb255) (o:=.cells #[.string a0_0,.slice A0_1 l0_1.length c0_1] 45 (0,0)) (by exact BK255.out) hb)
              replace BK256:=ζa (blk_below (g:=gb256) (o:=.cells #[.int .i64 a1_0,.int .i64 a1_1,.string a1_2,.string a1_3] 46 (0,0)) (by exact BK256.out) hb)
              replace BK272:=ζa (blk_below (g:=gb272) (o:=.cells #[.string t267,.slice Ao41 t268.length co41] 25 (0,0)) (by exact BK272.out) hb)
              replace BK277:=ζa (blk_below (g:=gb277) (o:=.cells #[.string t273,.slice Ao51 t295.length co51] 25 (0,0)) (by exact BK277.out) hb)
              replace BK287:=ζa (blk_below (g:=gb287) (o:=.cells #[.string t282,.slice Ao59 t283.length co59] 25 (0,0)) (by exact BK287.out) hb)
              replace BK313:=ζa (blk_below (g:=gb313) (o:=.cells #[.string (⟨#[]⟩:ByteArray),.slice none 0 0] 25 (0,0)) (by exact BK313.out) hb)
              replace HB:=ζa (δr (by exact HB.out) hb)
              (try clear hb)
              (try clear hb2)
              (try clear hk)
              (try clear hi)
              (try clear ho0)
              refine hK.out _ _ ⟨(δl BK255.out 0).trans rfl,(δl BK255.out 1).trans rfl,(δl BK256.out 0).trans rfl,(δl BK256.out 1).trans rfl,(δl BK256.out 2).trans rfl,(δl BK256.out 3).trans rfl⟩ (fun hHeld => ?_)
              clear hK K
              refine nm 89 ?_
              refine pu 5 84 ?_
              refine pu 6 90 ?_
              refine pu 7 91 ?_
              exact norm_ (by simp only [putAll,ζl,δa,δb,δc]) (hCont (.slice Ao151 t301.length co151,v310,gb313) _ ⟨hHeld,(by exact Kd.R_mono HO303.out (fun _ hk=>⟨hk.2,⟨hk.1.1.1.2,⟨hk.1.1.2,hk.1.2⟩⟩⟩)),(by exact Kd.R_mono HO311.out (fun _ hk=>⟨hk.2,⟨hk.1.1.1.2,⟨hk.1.1.2,hk.1.2⟩⟩⟩)),(by exact Kd.R_mono HO_273001.out (fun _ hk=>⟨hk.1.2,⟨hk.2,⟨hk.1.1.1,hk.1.1.2⟩⟩⟩)),(by exact Kd.R_mono HO_278001.out (fun _ hk=>⟨hk.1.2,⟨hk.2,⟨hk.1.1.1,hk.1.1.2⟩⟩⟩)),(by exact Kd.R_mono HO_288001.out (fun _ hk=>⟨hk.1.2,⟨hk.2,⟨hk.1.1.1,hk.1.1.2⟩⟩⟩)),(by exact BK255.out),(by exact BK256.out),(by exact BK272.out),(by exact BK277.out),(by exact BK287.out),(by exact BK313.out),GW313.out,GE313.out,NB255_313.out,NB313_255.out,NB256_313.out,NB313_256.out,NB272_313.out,NB313_272.out,NB277_313.out,NB313_277.out,NB287_313.out,NB313_287.out,(by exact HB.out)⟩)
            rintro ⟨v302,v310,gb313⟩ w153 ⟨hS_,h0_,h1_,h2_,h3_,h4_,h5_,h6_,h7_,h8_,h9_,h10_,h11_,h12_,h13_,h14_,h15_,h16_,h17_,h18_,h19_,h20_,h21_,h22_,h23_⟩
            have n0_:Aside0 (Kd.R k39 39 w153 w.heap.size (fun k_=>some k_≠(v310:Value).ownBlock∧some k_≠(.slice Ao41 t268.length co41:Value).ownBlock∧some k_≠(.slice Ao51 t295.length co51:Value).ownBlock∧some k_≠(.slice Ao59 t283.length co59:Value).ownBlock) v302 t301):=⟨h0_⟩
            have n1_:Aside0 (Kd.R k39 39 w153 w.heap.size (fun k_=>some k_≠(v302:Value).ownBlock∧some k_≠(.slice Ao41 t268.length co41:Value).ownBlock∧some k_≠(.slice Ao51 t295.length co51:Value).ownBlock∧some k_≠(.slice Ao59 t283.length co59:Value).ownBlock) v310 t309):=⟨h1_⟩
            have n2_:Aside0 (Kd.R k39 39 w153 w.heap.size (fun k_=>some k_≠(v302:Value).ownBlock∧some k_≠(v310:Value).ownBlock∧some k_≠(.slice Ao51 t295.length co51:Value).ownBlock∧some k_≠(.slice Ao59 t283.length co59:Value).ownBlock) (.slice Ao41 t268.length co41) t268):=⟨h2_⟩
            have n3_:Aside0 (Kd.R k39 39 w153 w.heap.size (fun k_=>some k_≠(v302:Value).ownBlock∧some k_≠(v310:Value).ownBlock∧some k_≠(.slice Ao41 t268.length co41:Value).ownBlock∧some k_≠(.slice Ao59 t283.length co59:Value).ownBlock) (.slice Ao51 t295.length co51) t295):=⟨h3_⟩
            have n4_:Aside0 (Kd.R k39 39 w153 w.heap.size (fun k_=>some k_≠(v302:Value).ownBlock∧some k_≠(v310:Value).ownBlock∧some k_≠(.slice Ao41 t268.length co41:Value).ownBlock∧some k_≠(.slice Ao51 t295.length co51:Value).ownBlock) (.slice Ao59 t283.length co59) t298):=⟨h4_⟩
            have n5_:Aside0 (w153.heap[gb255]? = some (.cells #[.string a0_0,.slice A0_1 l0_1.length c0_1] 45 (0,0))):=⟨h5_⟩
            have n6_:Aside0 (w153.heap[gb256]? = some (.cells #[.int .i64 a1_0,.int .i64 a1_1,.string a1_2,.string a1_3] 46 (0,0))):=⟨h6_⟩
            have n7_:Aside0 (w153.heap[gb272]? = some (.cells #[.string t267,.slice Ao41 t268.length co41] 25 (0,0))):=⟨h7_⟩
            have n8_:Aside0 (w153.heap[gb277]? = some (.cells #[.string t273,.slice Ao51 t295.length co51] 25 (0,0))):=⟨h8_⟩
            have n9_:Aside0 (w153.heap[gb287]? = some (.cells #[.string t282,.slice Ao59 t283.length co59] 25 (0,0))):=⟨h9_⟩
            have n10_:Aside0 (w153.heap[gb313]? = some (.cells #[.string (⟨#[]⟩:ByteArray),.slice none 0 0] 25 (0,0))):=⟨h10_⟩
            have n11_:Aside0 (w.heap.size≤gb313):=⟨h11_⟩
            have n12_:Aside0 (w.heap.size≤gb313):=⟨h12_⟩
            have n13_:Aside0 (gb255≠gb313):=⟨h13_⟩
            have n14_:Aside0 (gb313≠gb255):=⟨h14_⟩
            have n15_:Aside0 (gb256≠gb313):=⟨h15_⟩
            have n16_:Aside0 (gb313≠gb256):=⟨h16_⟩
            have n17_:Aside0 (gb272≠gb313):=⟨h17_⟩
            have n18_:Aside0 (gb313≠gb272):=⟨h18_⟩
            have n19_:Aside0 (gb277≠gb313):=⟨h19_⟩
            have n20_:Aside0 (gb313≠gb277):=⟨h20_⟩
            have n21_:Aside0 (gb287≠gb313):=⟨h21_⟩
            have n22_:Aside0 (gb313≠gb287):=⟨h22_⟩
            have n23_:Aside0 (Below w.heap.size w w153):=⟨h23_⟩
            clear HO_273001
            clear HO_278001
            clear HO_288001
            clear BK255
            clear BK256
            clear BK272
            clear BK277
            clear BK287
            clear HB
            clear h0_ h1_ h2_ h3_ h4_ h5_ h6_ h7_ h8_ h9_ h10_ h11_ h12_ h13_ h14_ h15_ h16_ h17_ h18_ h19_ h20_ h21_ h22_ h23_
            have HO303:=n0_
            have HO311:=n1_
            have HO_273001:=n2_
            have HO_278001:=n3_
            have HO_288001:=n4_
            have BK255:=n5_
            have BK256:=n6_
            have BK272:=n7_
            have BK277:=n8_
            have BK287:=n9_
            have BK313:=n10_
            have GW313:=n11_
            have GE313:=n12_
            have NB255_313:=n13_
            have NB313_255:=n14_
            have NB256_313:=n15_
            have NB313_256:=n16_
            have NB272_313:=n17_
            have NB313_272:=n18_
            have NB277_313:=n19_
            have NB313_277:=n20_
            have NB287_313:=n21_
            have NB313_287:=n22_
            have HB:=n23_
            clear n0_ n1_ n2_ n3_ n4_ n5_ n6_ n7_ n8_ n9_ n10_ n11_ n12_ n13_ n14_ n15_ n16_ n17_ n18_ n19_ n20_ n21_ n22_ n23_
            have hHeld:w153.cell? ⟨gb255,0,none⟩=some (.string a0_0)∧w153.cell? ⟨gb255,1,none⟩=some (.slice A0_1 l0_1.length c0_1)∧w153.cell? ⟨gb256,0,none⟩=some (.int .i64 a1_0)∧w153.cell? ⟨gb256,1,none⟩=some (.int .i64 a1_1)∧w153.cell? ⟨gb256,2,none⟩=some (.string a1_2)∧w153.cell? ⟨gb256,3,none⟩=some (.string a1_3):=hS_
            obtain ⟨Ao155,co155,eo155⟩:=Kd.R_slice HO311.out
            (subst eo155)
            refine norm_ (a':=?_) ?_ ?_
            rotate_left
            · simp only [putAll,ζl,δa,δb,δc];rfl
            refine one_ (i:=9) (N:=none) #[τ,τ,τ,τ,τ,τ,τ,τ,τ,τ,φ] rfl rfl (one_of HT_.out (by kernel_rfl)) (by decide) (fun K hK => ?_)
            have hs154:w153.cell? ⟨gb313,0,none⟩=some (.string (⟨#[]⟩:ByteArray)):=(δl BK313.out 0).trans rfl
            have hfs154:=δm BK313.out 0
            have hns154_0:=NB255_313.out
            have hns154_1:=NB256_313.out
            have hns154_2:=NB272_313.out
            have hns154_3:=NB277_313.out
            have hns154_4:=NB287_313.out
            have hms154_0:=NB313_255.out
            have hms154_1:=NB313_256.out
            have hms154_2:=NB313_272.out
            have hms154_3:=NB313_277.out
            have hms154_4:=NB313_287.out
            have hs156:w153.cell? ⟨gb313,1,none⟩=some (.slice none 0 0):=(δl BK313.out 1).trans rfl
            have hfs156:=δm BK313.out 1
            have hns156_0:=NB255_313.out
            have hns156_1:=NB256_313.out
            have hns156_2:=NB272_313.out
            have hns156_3:=NB277_313.out
            have hns156_4:=NB287_313.out
            have hms156_0:=NB313_255.out
            have hms156_1:=NB313_256.out
            have hms156_2:=NB313_272.out
            have hms156_3:=NB313_277.out
            have hms156_4:=NB313_287.out
            refine skip_ (w1:=?_) (by rfl) rfl ?_ ?_
            rotate_left
            ·
             go_simp
             rfl
            refine hK.out _ _ ⟨((δt (p:=⟨gb313,_,none⟩) NB255_313.out _).trans (((δt (p:=⟨gb313,_,none⟩) NB255_313.out _).trans (hHeld.1)))),((δt (p:=⟨gb313,_,none⟩) NB255_313.out _).trans (((δt (p:=⟨gb313,_,none⟩) NB255_313.out _).trans (hHeld.2.1)))),((δt (p:=⟨gb313,_,none⟩) NB256_313.out _).trans (((δt (p:=⟨gb313,_,none⟩) NB256_313.out _).trans (hHeld.2.2.1)))),((δt (p:=⟨gb313,_,none⟩) NB256_313.out _).trans (((δt (p:=⟨gb313,_,none⟩) NB256_313.out _).trans (hHeld.2.2.2.1)))),((δt (p:=⟨gb313,_,none⟩) NB256_313.out _).trans (((δt (p:=⟨gb313,_,none⟩) NB256_313.out _).trans (hHeld.2.2.2.2.1)))),((δt (p:=⟨gb313,_,none⟩) NB256_313.out _).trans (((δt (p:=⟨gb313,_,none⟩) NB256_313.out _).trans (hHeld.2.2.2.2.2))))⟩ (fun hHeld => ?_)
            clear hK K
            refine pu 10 15 ?_
            refine done_ (done_of HT_.out (by kernel_rfl)) ?_
            go_upto_region 28 with (fail)
            go_cut [100] (fun v100 wc => ∃ (kq:Nat) (x100_137:Bool),v100 = .bool x100_137∧Aside0 (laws_FnExactUpdateClient.j2 kq t297 x100_137 t282 t298=some r)∧Aside0 (kq≤kj87)∧Aside0 (Kd.R k39 39 wc w.heap.size (fun k_=>some k_≠((.slice Ao51 t295.length co51):Value).ownBlock∧some k_≠((.slice Ao59 t283.length co59):Value).ownBlock∧some k_≠((.slice Ao155 t309.length co155):Value).ownBlock) (.slice Ao41 t268.length co41) t268)∧Aside0 (Kd.R k39 39 wc w.heap.size (fun k_=>some k_≠((.slice Ao41 t268.length co41):Value).ownBlock∧some k_≠((.slice Ao59 t283.length co59):Value).ownBlock∧some k_≠((.slice Ao155 t309.length co155):Value).ownBlock) (.slice Ao51 t295.length co51) t295)∧Aside0 (Kd.R k39 39 wc w.heap.size (fun k_=>some k_≠((.slice Ao41 t268.length co41):Value).ownBlock∧some k_≠((.slice Ao51 t295.length co51):Value).ownBlock∧some k_≠((.slice Ao155 t309.length co155):Value).ownBlock) (.slice Ao59 t283.length co59) t298)∧Aside0 (Kd.R k39 39 wc w.heap.size (fun k_=>some k_≠((.slice Ao41 t268.length co41):Value).ownBlock∧some k_≠((.slice Ao51 t295.length co51):Value).ownBlock∧some k_≠((.slice Ao59 t283.length co59):Value).ownBlock) (.slice Ao155 t309.length co155) t309)∧Aside0 (wc.heap[gb255]? = some (.cells #[.string a0_0,(.slice A0_1 l0_1.length c0_1)] 45 (0,0)))∧Aside0 (wc.heap[gb256]? = some (.cells #[.int .i64 a1_0,.int .i64 a1_1,.string a1_2,.string a1_3] 46 (0,0)))∧Aside0 (wc.heap[gb272]? = some (.cells #[.string t267,(.slice Ao41 t268.length co41)] 25 (0,0)))∧Aside0 (wc.heap[gb277]? = some (.cells #[.string t273,(.slice Ao51 t295.length co51)] 25 (0,0)))∧Aside0 (wc.heap[gb287]? = some (.cells #[.string t282,(.slice Ao59 t283.length co59)] 25 (0,0)))∧Aside0 (wc.heap[gb313]? = some (.cells #[.string t308,(.slice Ao155 t309.length co155)] 25 (0,0)))∧Aside0 (Below w.heap.size w wc))
            case first =>
             have H:=HC138.out
             clear HC138
             obtain ⟨t314,A157,H⟩:=bsm H
             by_cases c158:t314=τ
             ·
              subst c158
              rw [ifT] at H
              have H':=ζa H
              clear H
              have hnb159:=NB313_255.out
              have hnc159:=NB255_313.out
              have hnb160:=NB313_256.out
              have hnc160:=NB256_313.out
              have hnb161:=NB313_272.out
              have hnc161:=NB272_313.out
              have hnb162:=NB313_277.out
              have hnc162:=NB277_313.out
              have hnb163:=NB313_287.out
              have hnc163:=NB287_313.out
              have hcz164_0:w153.cell? ⟨gb313,0,none⟩=some (.string (⟨#[]⟩:ByteArray)):=(δl BK313.out 0).trans rfl
              have hcz164_1:w153.cell? ⟨gb313,1,none⟩=some (.slice none 0 0):=(δl BK313.out 1).trans rfl
              have hfz164_0:=δm BK313.out 0
              have hfz164_1:=δm BK313.out 1
              have hnb165:=NB272_255.out
              have hnc165:=NB255_272.out
              have hnb166:=NB272_256.out
              have hnc166:=NB256_272.out
              have hnb167:=NB272_277.out
              have hnc167:=NB277_272.out
              have hnb168:=NB272_287.out
              have hnc168:=NB287_272.out
              have hcz169_0:w153.cell? ⟨gb272,0,none⟩=some (.string t267):=(δl BK272.out 0).trans rfl
              have hcz169_1:w153.cell? ⟨gb272,1,none⟩=some (.slice Ao41 t268.length co41):=(δl BK272.out 1).trans rfl
              have hfz169_0:=δm BK272.out 0
              have hfz169_1:=δm BK272.out 1
              go_wp2_with (((with_reducible refine δv (f:=21) rfl ?_);refine gl 94 Try.func21 #[.agg #[.string t308,.slice Ao155 t309.length co155],.agg #[.string t267,.slice Ao41 t268.length co41]] ?_;(with_reducible refine (laws_eqClient.calls kj87 t308 _ _ t309 t267 _ _ t268 τ _ ?side1 ?side2 ?side3 ?side4 A157.out).mono ?_);(case side1=>refine (ζg (e:=39) (base:=w.heap.size) (ok:=fun k_=>(some k_≠(v302:Value).ownBlock∧(some k_≠(.slice Ao41 t268.length co41:Value).ownBlock∧(some k_≠(.slice Ao51 t295.length co51:Value).ownBlock∧some k_≠(.slice Ao59 t283.length co59:Value).ownBlock)))) (n:=t309.length) (c:=co155) ?_).2.2;exact (by exact (Kd.R_mono (ζi (p:=⟨gb313,1,none⟩) (ζi (p:=⟨gb313,0,none⟩) (Kd.R_types HO311.out BK313.out (by decide)) (fun _ hk=>hk.2) (.string t308)) (fun _ hk=>hk.2) (.slice Ao155 t309.length co155)) (fun _ h_=>h_.1))));(case side2=>exact (ζg HO311.out).2.1);(case side3=>refine (ζg (e:=39) (base:=w.heap.size) (ok:=fun k_=>(some k_≠(v302:Value).ownBlock∧(some k_≠(.slice Ao155 t309.length co155:Value).ownBlock∧(some k_≠(.slice Ao51 t295.length co51:Value).ownBlock∧some k_≠(.slice Ao59 t283.length co59:Value).ownBlock)))) (n:=t268.length) (c:=co41) ?_).2.2;exact (by exact (Kd.R_mono (ζi (p:=⟨gb313,1,none⟩) (ζi (p:=⟨gb313,0,none⟩) (Kd.R_types HO_273001.out BK313.out (by decide)) (fun _ hk=>hk.2) (.string t308)) (fun _ hk=>hk.2) (.slice Ao155 t309.length co155)) (fun _ h_=>h_.1))));(case side4=>exact (ζg HO_273001.out).2.1);rintro e w170 ⟨rfl,hb⟩;refine ⟨_,rfl,?_⟩;replace HO_273001:=ζa (ζh (by exact (Kd.R_mono (ζi (p:=⟨gb313,1,none⟩) (ζi (p:=⟨gb313,0,none⟩) (Kd.R_types HO_273001.out BK313.out (by decide)) (fun _ hk=>hk.2) (.string t308)) (fun _ hk=>hk.2) (.slice Ao155 t309.length co155)) (fun _ h_=>h_.1))) hb);replace HO_278001:=ζa (ζh (by exact (Kd.R_mono (ζi (p:=⟨gb313,1,none⟩) (ζi (p:=⟨gb313,0,none⟩) (Kd.R_types HO_278001.out BK313.out (by decide)) (fun _ hk=>hk.2) (.string t308)) (fun _ hk=>hk.2) (.slice Ao155 t309.length co155)) (fun _ h_=>h_.1))) hb);replace HO_288001:=ζa (ζh (by exact (Kd.R_mono (ζi (p:=⟨gb313,1,none⟩) (ζi (p:=⟨gb313,0,none⟩) (Kd.R_types HO_288001.out BK313.out (by decide)) (fun _ hk=>hk.2) (.string t308)) (fun _ hk=>hk.2) (.slice Ao155 t309.length co155)) (fun _ h_=>h_.1))) hb);replace HO303:=ζa (ζh (by exact (Kd.R_mono (ζi (p:=⟨gb313,1,none⟩) (ζi (p:=⟨gb313,0,none⟩) (Kd.R_types HO303.out BK313.out (by decide)) (fun _ hk=>hk.2) (.string t308)) (fun _ hk=>hk.2) (.slice Ao155 t309.length co155)) (fun _ h_=>h_.1))) hb);replace HO311:=ζa (ζh (by exact (Kd.R_mono (ζi (p:=⟨gb313,1,none⟩) (ζi (p:=⟨gb313,0,none⟩) (Kd.R_types HO311.out BK313.out (by decide)) (fun _ hk=>hk.2) (.string t308)) (fun _ hk=>hk.2) (.slice Ao155 t309.length co155)) (fun _ h_=>h_.1))) hb);replace BK255:=ζa (blk_below (g:=gb255) (o:=.cells #[.string a0_0,.slice A0_1 l0_1.length c0_1] 45 (0,0)) (by refine blk_far ?_ NB255_313.out _;refine blk_far ?_ NB255_313.out _;exact BK255.out) hb);replace BK256:=ζa (blk_below (g:=gb256) (o:=.cells #[.int .i64 a1_0,.int .i64 a1_1,.string a1_2,.string a1_3] 46 (0,0)) (by refine blk_far ?_ NB256_313.out _;refine blk_far ?_ NB256_313.out _;exact BK256.out) hb);replace BK272:=ζa (blk_below (g:=gb272) (o:=.cells #[.string t267,.slice Ao41 t268.length co41] 25 (0,0)) (by refine blk_far ?_ NB272_313.out _;refine blk_far ?_ NB272_313.out _;exact BK272.out) hb);replace BK277:=ζa (blk_below (g:=gb277) (o:=.cells #[.string t273,.slice Ao51 t295.length co51] 25 (0,0)) (by refine blk_far ?_ NB277_313.out _;refine blk_far ?_ NB277_313.out _;exact BK277.out) hb);replace BK287:=ζa (blk_below (g:=gb287) (o:=.cells #[.string t282,.slice Ao59 t283.length co59] 25 (0,0)) (by refine blk_far ?_ NB287_313.out _;refine blk_far ?_ NB287_313.out _;exact BK287.out) hb);replace BK313:=ζa (blk_below (g:=gb313) (o:=.cells #[.string t308,.slice Ao155 t309.length co155] 25 (0,0)) (by refine δw (cs:=#[.string t308,.slice none 0 0]) ?_ 1 _ rfl;refine δw (cs:=#[.string (⟨#[]⟩:ByteArray),.slice none 0 0]) ?_ 0 _ rfl;exact BK313.out) hb);replace HB:=ζa (δr (by repeat ((with_reducible first|exact HB.out|refine δq ?_ GE313.out))) hb);(try clear hb);(try clear hb2);(try clear hk);(try clear hi)))
              go_meet
              case rel=>exact ⟨_,((t312 != t271)),(by rfl),H',⟨by have:=HJ24.out;have:=HJ87.out;omega⟩,⟨by (try simp only [hl278001_87]);exact Kd.R_mono HO_273001.out (fun _ hk=>⟨hk.2.2.1,⟨hk.2.2.2,hk.2.1⟩⟩)⟩,⟨by (try simp only [hl278001_87]);exact Kd.R_mono HO_278001.out (fun _ hk=>⟨hk.2.2.1,⟨hk.2.2.2,hk.2.1⟩⟩)⟩,⟨by (try simp only [hl278001_87]);exact Kd.R_mono HO_288001.out (fun _ hk=>⟨hk.2.2.1,⟨hk.2.2.2,hk.2.1⟩⟩)⟩,⟨by (try simp only [hl278001_87]);exact Kd.R_mono HO311.out (fun _ hk=>⟨hk.2.1,⟨hk.2.2.1,hk.2.2.2⟩⟩)⟩,⟨by (try simp only [hl278001_87]);exact BK255.out⟩,⟨by (try simp only [hl278001_87]);exact BK256.out⟩,⟨by (try simp only [hl278001_87]);exact BK272.out⟩,⟨by (try simp only [hl278001_87]);exact BK277.out⟩,⟨by (try simp only [hl278001_87]);exact BK287.out⟩,⟨by (try simp only [hl278001_87]);exact BK313.out⟩,⟨by repeat ((with_reducible exact HB.out))⟩⟩
             ·
              replace c158:=Bool.eq_false_iff.mpr c158
              subst c158
              rw [ifF] at H
              have H':=ζa H
              clear H
              have hnb171:=NB313_255.out
              have hnc171:=NB255_313.out
              have hnb172:=NB313_256.out
              have hnc172:=NB256_313.out
              have hnb173:=NB313_272.out
              have hnc173:=NB272_313.out
              have hnb174:=NB313_277.out
              have hnc174:=NB277_313.out
              have hnb175:=NB313_287.out
              have hnc175:=NB287_313.out
              have hcz176_0:w153.cell? ⟨gb313,0,none⟩=some (.string (⟨#[]⟩:ByteArray)):=(δl BK313.out 0).trans rfl
              have hcz176_1:w153.cell? ⟨gb313,1,none⟩=some (.slice none 0 0):=(δl BK313.out 1).trans rfl
              have hfz176_0:=δm BK313.out 0
              have hfz176_1:=δm BK313.out 1
              have hnb177:=NB272_255.out
              have hnc177:=NB255_272.out
              have hnb178:=NB272_256.out
              have hnc178:=NB256_272.out
              have hnb179:=NB272_277.out
              have hnc179:=NB277_272.out
              have hnb180:=NB272_287.out
              have hnc180:=NB287_272.out
              have hcz181_0:w153.cell? ⟨gb272,0,none⟩=some (.string t267):=(δl BK272.out 0).trans rfl
              have hcz181_1:w153.cell? ⟨gb272,1,none⟩=some (.slice Ao41 t268.length co41):=(δl BK272.out 1).trans rfl
              have hfz181_0:=δm BK272.out 0
              have hfz181_1:=δm BK272.out 1
              go_wp2_with (((with_reducible refine δv (f:=21) rfl ?_);refine gl 94 Try.func21 #[.agg #[.string t308,.slice Ao155 t309.length co155],.agg #[.string t267,.slice Ao41 t268.length co41]] ?_;(with_reducible refine (laws_eqClient.calls kj87 t308 _ _ t309 t267 _ _ t268 φ _ ?side1 ?side2 ?side3 ?side4 A157.out).mono ?_);(case side1=>refine (ζg (e:=39) (base:=w.heap.size) (ok:=fun k_=>(some k_≠(v302:Value).ownBlock∧(some k_≠(.slice Ao41 t268.length co41:Value).ownBlock∧(some k_≠(.slice Ao51 t295.length co51:Value).ownBlock∧some k_≠(.slice Ao59 t283.length co59:Value).ownBlock)))) (n:=t309.length) (c:=co155) ?_).2.2;exact (by exact (Kd.R_mono (ζi (p:=⟨gb313,1,none⟩) (ζi (p:=⟨gb313,0,none⟩) (Kd.R_types HO311.out BK313.out (by decide)) (fun _ hk=>hk.2) (.string t308)) (fun _ hk=>hk.2) (.slice Ao155 t309.length co155)) (fun _ h_=>h_.1))));(case side2=>exact (ζg HO311.out).2.1);(case side3=>refine (ζg (e:=39) (base:=w.heap.size) (ok:=fun k_=>(some k_≠(v302:Value).ownBlock∧(some k_≠(.slice Ao155 t309.length co155:Value).ownBlock∧(some k_≠(.slice Ao51 t295.length co51:Value).ownBlock∧some k_≠(.slice Ao59 t283.length co59:Value).ownBlock)))) (n:=t268.length) (c:=co41) ?_).2.2;exact (by exact (Kd.R_mono (ζi (p:=⟨gb313,1,none⟩) (ζi (p:=⟨gb313,0,none⟩) (Kd.R_types HO_273001.out BK313.out (by decide)) (fun _ hk=>hk.2) (.string t308)) (fun _ hk=>hk.2) (.slice Ao155 t309.length co155)) (fun _ h_=>h_.1))));(case side4=>exact (ζg HO_273001.out).2.1);rintro e w182 ⟨rfl,hb⟩;refine ⟨_,rfl,?_⟩;replace HO_273001:=ζa (ζh (by exact (Kd.R_mono (ζi (p:=⟨gb313,1,none⟩) (ζi (p:=⟨gb313,0,none⟩) (Kd.R_types HO_273001.out BK313.out (by decide)) (fun _ hk=>hk.2) (.string t308)) (fun _ hk=>hk.2) (.slice Ao155 t309.length co155)) (fun _ h_=>h_.1))) hb);replace HO_278001:=ζa (ζh (by exact (Kd.R_mono (ζi (p:=⟨gb313,1,none⟩) (ζi (p:=⟨gb313,0,none⟩) (Kd.R_types HO_278001.out BK313.out (by decide)) (fun _ hk=>hk.2) (.string t308)) (fun _ hk=>hk.2) (.slice Ao155 t309.length co155)) (fun _ h_=>h_.1))) hb);replace HO_288001:=ζa (ζh (by exact (Kd.R_mono (ζi (p:=⟨gb313,1,none⟩) (ζi (p:=⟨gb313,0,none⟩) (Kd.R_types HO_288001.out BK313.out (by decide)) (fun _ hk=>hk.2) (.string t308)) (fun _ hk=>hk.2) (.slice Ao155 t309.length co155)) (fun _ h_=>h_.1))) hb);replace HO303:=ζa (ζh (by exact (Kd.R_mono (ζi (p:=⟨gb313,1,none⟩) (ζi (p:=⟨gb313,0,none⟩) (Kd.R_types HO303.out BK313.out (by decide)) (fun _ hk=>hk.2) (.string t308)) (fun _ hk=>hk.2) (.slice Ao155 t309.length co155)) (fun _ h_=>h_.1))) hb);replace HO311:=ζa (ζh (by exact (Kd.R_mono (ζi (p:=⟨gb313,1,none⟩) (ζi (p:=⟨gb313,0,none⟩) (Kd.R_types HO311.out BK313.out (by decide)) (fun _ hk=>hk.2) (.string t308)) (fun _ hk=>hk.2) (.slice Ao155 t309.length co155)) (fun _ h_=>h_.1))) hb);replace BK255:=ζa (blk_below (g:=gb255) (o:=.cells #[.string a0_0,.slice A0_1 l0_1.length c0_1] 45 (0,0)) (by refine blk_far ?_ NB255_313.out _;refine blk_far ?_ NB255_313.out _;exact BK255.out) hb);replace BK256:=ζa (blk_below (g:=gb256) (o:=.cells #[.int .i64 a1_0,.int .i64 a1_1,.string a1_2,.string a1_3] 46 (0,0)) (by refine blk_far ?_ NB256_313.out _;refine blk_far ?_ NB256_313.out _;exact BK256.out) hb);replace BK272:=ζa (blk_below (g:=gb272) (o:=.cells #[.string t267,.slice Ao41 t268.length co41] 25 (0,0)) (by refine blk_far ?_ NB272_313.out _;refine blk_far ?_ NB272_313.out _;exact BK272.out) hb);replace BK277:=ζa (blk_below (g:=gb277) (o:=.cells #[.string t273,.slice Ao51 t295.length co51] 25 (0,0)) (by refine blk_far ?_ NB277_313.out _;refine blk_far ?_ NB277_313.out _;exact BK277.out) hb);replace BK287:=ζa (blk_below (g:=gb287) (o:=.cells #[.string t282,.slice Ao59 t283.length co59] 25 (0,0)) (by refine blk_far ?_ NB287_313.out _;refine blk_far ?_ NB287_313.out _;exact BK287.out) hb);replace BK313:=ζa (blk_below (g:=gb313) (o:=.cells #[.string t308,.slice Ao155 t309.length co155] 25 (0,0)) (by refine δw (cs:=#[.string t308,.slice none 0 0]) ?_ 1 _ rfl;refine δw (cs:=#[.string (⟨#[]⟩:ByteArray),.slice none 0 0]) ?_ 0 _ rfl;exact BK313.out) hb);replace HB:=ζa (δr (by repeat ((with_reducible first|exact HB.out|refine δq ?_ GE313.out))) hb);(try clear hb);(try clear hb2);(try clear hk);(try clear hi)))
              go_meet
              case rel=>exact ⟨_,(τ),(by rfl),H',⟨by have:=HJ24.out;have:=HJ87.out;omega⟩,⟨by (try simp only [hl278001_87]);exact Kd.R_mono HO_273001.out (fun _ hk=>⟨hk.2.2.1,⟨hk.2.2.2,hk.2.1⟩⟩)⟩,⟨by (try simp only [hl278001_87]);exact Kd.R_mono HO_278001.out (fun _ hk=>⟨hk.2.2.1,⟨hk.2.2.2,hk.2.1⟩⟩)⟩,⟨by (try simp only [hl278001_87]);exact Kd.R_mono HO_288001.out (fun _ hk=>⟨hk.2.2.1,⟨hk.2.2.2,hk.2.1⟩⟩)⟩,⟨by (try simp only [hl278001_87]);exact Kd.R_mono HO311.out (fun _ hk=>⟨hk.2.1,⟨hk.2.2.1,hk.2.2.2⟩⟩)⟩,⟨by (try simp only [hl278001_87]);exact BK255.out⟩,⟨by (try simp only [hl278001_87]);exact BK256.out⟩,⟨by (try simp only [hl278001_87]);exact BK272.out⟩,⟨by (try simp only [hl278001_87]);exact BK277.out⟩,⟨by (try simp only [hl278001_87]);exact BK287.out⟩,⟨by (try simp only [hl278001_87]);exact BK313.out⟩,⟨by repeat ((with_reducible exact HB.out))⟩⟩
            case rest =>
             clear HC138
             try clear c1
             try clear c2
             try clear p2
             try clear c8
             try clear c15
             try clear c16
             try clear c17
             try clear c18
             try clear c19
             try clear c20
             try clear c21
             try clear c158
             try clear c159
             try clear c160
             try clear c161
             try clear c162
             try clear c163
             try clear c165
             try clear c166
             try clear c167
             try clear c168
             try clear c171
             try clear c172
             try clear c173
             try clear c174
             try clear c175
             try clear c177
             try clear c178
             try clear c179
             try clear c180
             try clear hcz164_0
             try clear hcz164_1
             try clear hcz169_0
             try clear hcz169_1
             try clear hcz176_0
             try clear hcz176_1
             try clear hcz181_0
             try clear hcz181_1
             try clear hfz164_0
             try clear hfz164_1
             try clear hfz169_0
             try clear hfz169_1
             try clear hfz176_0
             try clear hfz176_1
             try clear hfz181_0
             try clear hfz181_1
             obtain ⟨kq,x100_137,rfl,HA,HJ137,HO_273001,HO_278001,HO_288001,HO_314001,BK255,BK256,BK272,BK277,BK287,BK313,HB⟩:=hcut
             have hl288001_137:=(ζg HO_288001.out).1
             rw [hl288001_137] at HO_288001
             (try simp only [hl288001_137])
             (try simp only [hl288001_137] at BK255)
             (try simp only [hl288001_137] at BK256)
             (try simp only [hl288001_137] at BK272)
             (try simp only [hl288001_137] at BK277)
             (try simp only [hl288001_137] at BK287)
             (try simp only [hl288001_137] at BK313)
             (try simp only [hl288001_137] at HO_273001)
             (try simp only [hl288001_137] at HO_278001)
             (try simp only [hl288001_137] at HO_314001)
             cases kq with
             | zero=>exact absurd HA.out (by simp [laws_FnExactUpdateClient.j2])
             | succ kj137 =>
              have H:=HA.out
              clear HA
              simp only [laws_FnExactUpdateClient.j2] at H
              by_cases c183:x100_137=τ
              ·
               subst c183
               rw [ifT] at H
               obtain rfl:=Option.some.inj H
               go_wp2
               go_ret
               exact ⟨by rfl,by repeat ((with_reducible exact HB.out))⟩
              ·
               replace c183:=Bool.eq_false_iff.mpr c183
               subst c183
               rw [ifF] at H
               obtain ⟨t315,A184,H⟩:=bsm H
               by_cases c185:t315<0
               ·
                rw [if_pos c185] at H
                have c185b0:=decide_eq_true c185
                clear c185
                obtain rfl:=Option.some.inj H
                have hnb186:=NB287_255.out
                have hnc186:=NB255_287.out
                have hnb187:=NB287_256.out
                have hnc187:=NB256_287.out
                have hnb188:=NB287_272.out
                have hnc188:=NB272_287.out
                have hnb189:=NB287_277.out
                have hnc189:=NB277_287.out
                have hnb190:=NB287_313.out
                have hnc190:=NB313_287.out
                have hcz191_0:wc.cell? ⟨gb287,0,none⟩=some (.string t282):=(δl BK287.out 0).trans rfl
                have hcz191_1:wc.cell? ⟨gb287,1,none⟩=some (.slice Ao59 t298.length co59):=(δl BK287.out 1).trans rfl
                have hfz191_0:=δm BK287.out 0
                have hfz191_1:=δm BK287.out 1
                go_wp2_with (((with_reducible refine δv (f:=23) rfl ?_);refine gl 103 Try.func23 #[.agg #[.string t282,.slice Ao59 t298.length co59],.int .i64 1] ?_;(with_reducible refine (laws_heldClient.calls kj137 t282 _ _ t298 1 t315 _ ?side1 ?side2 A184.out).mono ?_);(case side1=>repeat (exact (ζg HO_288001.out).2.2));(case side2=>exact (ζg HO_288001.out).2.1);rintro e w192 ⟨rfl,hb⟩;refine ⟨_,rfl,?_⟩;replace HO_273001:=ζa (ζh (by exact HO_273001.out) hb);replace HO_278001:=ζa (ζh (by exact HO_278001.out) hb);replace HO_288001:=ζa (ζh (by exact HO_288001.out) hb);replace HO_314001:=ζa (ζh (by exact HO_314001.out) hb);replace BK255:=ζa (blk_below (g:=gb255) (o:=.cells #[.string a0_0,.slice A0_1 l0_1.length c0_1] 45 (0,0)) (by exact BK255.out) hb);replace BK256:=ζa (blk_below (g:=gb256) (o:=.cells #[.int .i64 a1_0,.int .i64 a1_1,.string a1_2,.string a1_3] 46 (0,0)) (by exact BK256.out) hb);replace BK272:=ζa (blk_below (g:=gb272) (o:=.cells #[.string t267,.slice Ao41 t268.length co41] 25 (0,0)) (by exact BK272.out) hb);replace BK277:=ζa (blk_below (g:=gb277) (o:=.cells #[.string t273,.slice Ao51 t295.length co51] 25 (0,0)) (by exact BK277.out) hb);replace BK287:=ζa (blk_below (g:=gb287) (o:=.cells #[.string t282,.slice Ao59 t298.length co59] 25 (0,0)) (by exact BK287.out) hb);replace BK313:=ζa (blk_below (g:=gb313) (o:=.cells #[.string t308,.slice Ao155 t309.length co155] 25 (0,0)) (by exact BK313.out) hb);replace HB:=ζa (δr (by exact HB.out) hb);(try clear hb);(try clear hb2);(try clear hk);(try clear hi)))
                go_ret
                exact ⟨by rfl,by repeat ((with_reducible exact HB.out))⟩
               ·
                rw [if_neg c185] at H
                have c185b0:=decide_eq_false c185
                clear c185
                by_cases c193:t315=t297
                ·
                 rw [if_pos c193] at H
                 have c193b0:=beq_iff_eq.mpr c193
                 have c193b1:=bne_eq_false_iff_eq.mpr c193
                 clear c193
                 obtain rfl:=Option.some.inj H
                 have hnb194:=NB287_255.out
                 have hnc194:=NB255_287.out
                 have hnb195:=NB287_256.out
                 have hnc195:=NB256_287.out
                 have hnb196:=NB287_272.out
                 have hnc196:=NB272_287.out
                 have hnb197:=NB287_277.out
                 have hnc197:=NB277_287.out
                 have hnb198:=NB287_313.out
                 have hnc198:=NB313_287.out
                 have hcz199_0:wc.cell? ⟨gb287,0,none⟩=some (.string t282):=(δl BK287.out 0).trans rfl
                 have hcz199_1:wc.cell? ⟨gb287,1,none⟩=some (.slice Ao59 t298.length co59):=(δl BK287.out 1).trans rfl
                 have hfz199_0:=δm BK287.out 0
                 have hfz199_1:=δm BK287.out 1
                 go_wp2_with (((with_reducible refine δv (f:=23) rfl ?_);refine gl 103 Try.func23 #[.agg #[.string t282,.slice Ao59 t298.length co59],.int .i64 1] ?_;(with_reducible refine (laws_heldClient.calls kj137 t282 _ _ t298 1 t315 _ ?side1 ?side2 A184.out).mono ?_);(case side1=>repeat (exact (ζg HO_288001.out).2.2));(case side2=>exact (ζg HO_288001.out).2.1);rintro e w200 ⟨rfl,hb⟩;refine ⟨_,rfl,?_⟩;replace HO_273001:=ζa (ζh (by exact HO_273001.out) hb);replace HO_278001:=ζa (ζh (by exact HO_278001.out) hb);replace HO_288001:=ζa (ζh (by exact HO_288001.out) hb);replace HO_314001:=ζa (ζh (by exact HO_314001.out) hb);replace BK255:=ζa (blk_below (g:=gb255) (o:=.cells #[.string a0_0,.slice A0_1 l0_1.length c0_1] 45 (0,0)) (by exact BK255.out) hb);replace BK256:=ζa (blk_below (g:=gb256) (o:=.cells #[.int .i64 a1_0,.int .i64 a1_1,.string a1_2,.string a1_3] 46 (0,0)) (by exact BK256.out) hb);replace BK272:=ζa (blk_below (g:=gb272) (o:=.cells #[.string t267,.slice Ao41 t268.length co41] 25 (0,0)) (by exact BK272.out) hb);replace BK277:=ζa (blk_below (g:=gb277) (o:=.cells #[.string t273,.slice Ao51 t295.length co51] 25 (0,0)) (by exact BK277.out) hb);replace BK287:=ζa (blk_below (g:=gb287) (o:=.cells #[.string t282,.slice Ao59 t298.length co59] 25 (0,0)) (by exact BK287.out) hb);replace BK313:=ζa (blk_below (g:=gb313) (o:=.cells #[.string t308,.slice Ao155 t309.length co155] 25 (0,0)) (by exact BK313.out) hb);replace HB:=ζa (δr (by exact HB.out) hb);(try clear hb);(try clear hb2);(try clear hk);(try clear hi)))
                 go_ret
                 exact ⟨by rfl,by repeat ((with_reducible exact HB.out))⟩
                ·
                 rw [if_neg c193] at H
                 have c193b0:=beq_eq_false_iff_ne.mpr c193
                 have c193b1:=bne_iff_ne.mpr c193
                 obtain rfl:=Option.some.inj H
                 have hnb201:=NB287_255.out
                 have hnc201:=NB255_287.out
                 have hnb202:=NB287_256.out
                 have hnc202:=NB256_287.out
                 have hnb203:=NB287_272.out
                 have hnc203:=NB272_287.out
                 have hnb204:=NB287_277.out
                 have hnc204:=NB277_287.out
                 have hnb205:=NB287_313.out
                 have hnc205:=NB313_287.out
                 have hcz206_0:wc.cell? ⟨gb287,0,none⟩=some (.string t282):=(δl BK287.out 0).trans rfl
                 have hcz206_1:wc.cell? ⟨gb287,1,none⟩=some (.slice Ao59 t298.length co59):=(δl BK287.out 1).trans rfl
                 have hfz206_0:=δm BK287.out 0
                 have hfz206_1:=δm BK287.out 1
                 go_wp2_with (((with_reducible refine δv (f:=23) rfl ?_);refine gl 103 Try.func23 #[.agg #[.string t282,.slice Ao59 t298.length co59],.int .i64 1] ?_;(with_reducible refine (laws_heldClient.calls kj137 t282 _ _ t298 1 t315 _ ?side1 ?side2 A184.out).mono ?_);(case side1=>repeat (exact (ζg HO_288001.out).2.2));(case side2=>exact (ζg HO_288001.out).2.1);rintro e w207 ⟨rfl,hb⟩;refine ⟨_,rfl,?_⟩;replace HO_273001:=ζa (ζh (by exact HO_273001.out) hb);replace HO_278001:=ζa (ζh (by exact HO_278001.out) hb);replace HO_288001:=ζa (ζh (by exact HO_288001.out) hb);replace HO_314001:=ζa (ζh (by exact HO_314001.out) hb);replace BK255:=ζa (blk_below (g:=gb255) (o:=.cells #[.string a0_0,.slice A0_1 l0_1.length c0_1] 45 (0,0)) (by exact BK255.out) hb);replace BK256:=ζa (blk_below (g:=gb256) (o:=.cells #[.int .i64 a1_0,.int .i64 a1_1,.string a1_2,.string a1_3] 46 (0,0)) (by exact BK256.out) hb);replace BK272:=ζa (blk_below (g:=gb272) (o:=.cells #[.string t267,.slice Ao41 t268.length co41] 25 (0,0)) (by exact BK272.out) hb);replace BK277:=ζa (blk_below (g:=gb277) (o:=.cells #[.string t273,.slice Ao51 t295.length co51] 25 (0,0)) (by exact BK277.out) hb);replace BK287:=ζa (blk_below (g:=gb287) (o:=.cells #[.string t282,.slice Ao59 t298.length co59] 25 (0,0)) (by exact BK287.out) hb);replace BK313:=ζa (blk_below (g:=gb313) (o:=.cells #[.string t308,.slice Ao155 t309.length co155] 25 (0,0)) (by exact BK313.out) hb);replace HB:=ζa (δr (by exact HB.out) hb);(try clear hb);(try clear hb2);(try clear hk);(try clear hi)))
                 go_ret
                 exact ⟨by rfl,by repeat ((with_reducible exact HB.out))⟩
           ·
            rw [if_neg c134] at H
            have c134b0:=beq_eq_false_iff_ne.mpr c134
            have c134b1:=bne_iff_ne.mpr c134
            obtain rfl:=Option.some.inj H
            have hnb208:=NB287_255.out
            have hnc208:=NB255_287.out
            have hnb209:=NB287_256.out
            have hnc209:=NB256_287.out
            have hnb210:=NB287_272.out
            have hnc210:=NB272_287.out
            have hnb211:=NB287_277.out
            have hnc211:=NB277_287.out
            have hcz212_0:wc.cell? ⟨gb287,0,none⟩=some (.string t282):=(δl BK287.out 0).trans rfl
            have hcz212_1:wc.cell? ⟨gb287,1,none⟩=some (.slice Ao59 t283.length co59):=(δl BK287.out 1).trans rfl
            have hfz212_0:=δm BK287.out 0
            have hfz212_1:=δm BK287.out 1
            go_wp2_with (first|((with_reducible refine δv (f:=22) rfl ?_);refine gl 75 Try.func22 #[.agg #[.string t282,.slice Ao59 t283.length co59],.int .i64 1] ?_;(with_reducible refine (laws_markClient.calls kj87 t282 (fun k_=>some k_=(.slice Ao59 t283.length co59:Value).ownBlock) (.slice Ao59 t283.length co59) t283 1 t297 t298 w _ ?side1 ?side2 A123.out).mono ?_);(case side1=>repeat ((with_reducible exact HB.out)));(case side2=>exact Kd.R_tight rfl HO_288001.out);rintro e w213 ⟨rfl,hy0,hb,hkp⟩;refine ⟨_,rfl,?_⟩;replace HO_273001:=ζa (Kd.R_mono (ok':=fun k_=>some k_≠(.slice Ao51 t295.length co51:Value).ownBlock∧some k_≠(.slice Ao59 t283.length co59:Value).ownBlock) (Kd.R_keptB (HO_273001.out) hkp (fun k_ hk_ hs_=>(hk_.2) hs_)) (fun k_ hk_=>⟨hk_.1.1,hk_.1.2⟩));replace HO_278001:=ζa (Kd.R_mono (ok':=fun k_=>some k_≠(.slice Ao41 t268.length co41:Value).ownBlock∧some k_≠(.slice Ao59 t283.length co59:Value).ownBlock) (Kd.R_keptB (HO_278001.out) hkp (fun k_ hk_ hs_=>(hk_.2) hs_)) (fun k_ hk_=>⟨hk_.1.1,hk_.1.2⟩));replace BK255:=ζa (blk_kept (by exact BK255.out) hkp (fun hs_=>(fun e_=>(ζf HO_288001.out BK255.out (by decide)) e_) hs_));replace BK256:=ζa (blk_kept (by exact BK256.out) hkp (fun hs_=>(fun e_=>(ζf HO_288001.out BK256.out (by decide)) e_) hs_));replace BK272:=ζa (blk_kept (by exact BK272.out) hkp (fun hs_=>(fun e_=>(ζf HO_288001.out BK272.out (by decide)) e_) hs_));replace BK277:=ζa (blk_kept (by exact BK277.out) hkp (fun hs_=>(fun e_=>(ζf HO_288001.out BK277.out (by decide)) e_) hs_));replace BK287:=ζa (blk_kept (by exact BK287.out) hkp (fun hs_=>(fun e_=>(ζf HO_288001.out BK287.out (by decide)) e_) hs_));replace HO_288001:=ζa (Kd.R_reok rfl hy0 (fun k_ e_=>HO_288001.out.1 k_ e_));replace HB:=ζa (hb);(try clear hb);(try clear hkp);(try clear hy0);have hcz214_0:w213.cell? ⟨gb287,0,none⟩=some (.string t282):=(δl BK287.out 0).trans rfl;have hcz214_1:w213.cell? ⟨gb287,1,none⟩=some (.slice Ao59 t283.length co59):=(δl BK287.out 1).trans rfl;have hfz214_0:=δm BK287.out 0;have hfz214_1:=δm BK287.out 1)|((with_reducible refine δv (f:=23) rfl ?_);refine goesL_ (some 78) rfl rfl Try.func23 (by kernel_rfl) rfl #[.agg #[.string t282,.slice Ao59 t298.length co59],.int .i64 1] rfl (by (try simp only [δd,δe,δf]);first|(rw [show t298.length=t283.length from (ζg HO_288001.out).1.symm] <;> rfl)) ?_;(with_reducible refine (laws_heldClient.calls kj87 t282 _ _ t298 1 t299 _ ?side1 ?side2 A124.out).mono ?_);(case side1=>repeat (exact (ζg HO_288001.out).2.2));(case side2=>rw [show t298.length=t283.length from (ζg HO_288001.out).1.symm];exact (ζg HO_288001.out).2.1);rintro e w215 ⟨rfl,hb⟩;refine ⟨_,rfl,?_⟩;replace HO_273001:=ζa (ζh (by exact HO_273001.out) hb);replace HO_278001:=ζa (ζh (by exact HO_278001.out) hb);replace HO_288001:=ζa (ζh (by exact HO_288001.out) hb);replace BK255:=ζa (blk_below (g:=gb255) (o:=.cells #[.string a0_0,.slice A0_1 l0_1.length c0_1] 45 (0,0)) (by exact BK255.out) hb);replace BK256:=ζa (blk_below (g:=gb256) (o:=.cells #[.int .i64 a1_0,.int .i64 a1_1,.string a1_2,.string a1_3] 46 (0,0)) (by exact BK256.out) hb);replace BK272:=ζa (blk_below (g:=gb272) (o:=.cells #[.string t267,.slice Ao41 t268.length co41] 25 (0,0)) (by exact BK272.out) hb);replace BK277:=ζa (blk_below (g:=gb277) (o:=.cells #[.string t273,.slice Ao51 t295.length co51] 25 (0,0)) (by exact BK277.out) hb);replace BK287:=ζa (blk_below (g:=gb287) (o:=.cells #[.string t282,.slice Ao59 t283.length co59] 25 (0,0)) (by exact BK287.out) hb);replace HB:=ζa (δr (by exact HB.out) hb);(try clear hb);(try clear hb2);(try clear hk);(try clear hi)))
            go_ret
            exact ⟨by rfl,by repeat ((with_reducible exact HB.out))⟩
      ·
       replace c86:=Bool.eq_false_iff.mpr c86
       subst c86
       rw [ifF] at H
       obtain rfl:=Option.some.inj H
       try go_wp2
       replace HO_273001:=ζa (ζe HO_273001.out)
       replace HO_278001:=ζa (ζe HO_278001.out)
       replace HO_288001:=ζa (ζe HO_288001.out)
       replace BK255:=ζa (δp BK255.out)
       replace BK256:=ζa (δp BK256.out)
       replace BK272:=ζa (δp BK272.out)
       replace BK277:=ζa (δp BK277.out)
       replace BK287:=ζa (δp BK287.out)
       replace HB:=ζa (δj HB.out)
       refine start_ (n:=5) (S:=fun w'=>w'.cell? ⟨gb277,0,none⟩=some (.string t273)∧w'.cell? ⟨gb277,1,none⟩=some (.slice Ao51 t274.length co51)∧w'.cell? ⟨gb255,0,none⟩=some (.string a0_0)∧w'.cell? ⟨gb255,1,none⟩=some (.slice A0_1 l0_1.length c0_1)) (ds:=[]) #[φ,φ,φ,φ,φ] (by kernel_rfl) rfl rfl ⟨(δl BK277.out 0).trans rfl,(δl BK277.out 1).trans rfl,(δl BK255.out 0).trans rfl,(δl BK255.out 1).trans rfl⟩ (fun hHeld => ?_)
       generalize wc.drew=w216 at HO_273001 HO_278001 HO_288001 BK255 BK256 BK272 BK277 BK287 HB hHeld ⊢
       refine take_ (i:=0) (N:=some 52) (v:=?_) (a':=?_) #[τ,φ,φ,φ,φ] rfl rfl (by kernel_rfl) (fun _ _ _ h=>h) (Or.inl ⟨by rfl,?_⟩) hHeld ?_ ?_
       rotate_left
       · rintro w' ⟨s0,s1,s2,s3⟩;go_simp;with_reducible rfl
       rotate_left
       · simp only [ζl,δa,δb,δc,i64_w,i32_w];rfl
       refine take_ (i:=1) (N:=some 53) (v:=?_) (a':=?_) #[τ,τ,φ,φ,φ] rfl rfl (by kernel_rfl) (fun _ _ _ h=>h) (Or.inl ⟨by rfl,?_⟩) hHeld ?_ ?_
       rotate_left
       · rintro w' ⟨s0,s1,s2,s3⟩;go_simp;with_reducible rfl
       rotate_left
       · simp only [ζl,δa,δb,δc,i64_w,i32_w];rfl
       refine one_ (i:=2) (N:=some 54) #[τ,τ,τ,φ,φ] rfl rfl (by kernel_rfl) (by decide) (fun K hK => ?_)
       refine gs Try.func19 #[.agg #[.string a0_0,.slice A0_1 l0_1.length c0_1]] ?_
       with_reducible refine (laws_toClient.calls kj24 a0_0 _ _ l0_1 t289 t290 _ ?side1 ?side2 A84.out).mono ?_
       (case side1=>repeat (exact (Kd.C_below HR0_1.out HB.out)))
       (case side2=>exact HC0_1.out)
       rintro e w217 ⟨v291,rfl,ho0,hb⟩
       refine ⟨_,rfl,?_⟩
       have HO292:=ζa (Kd.R_lower (Kd.R_new' (Kd.R_new' (Kd.R_new' ho0 (Kd.R_lt (by exact HO_273001.out))) (Kd.R_lt (by exact HO_278001.out))) (Kd.R_lt (by exact HO_288001.out))) (δs (by exact HB.out)))
       replace HO_273001:=ζa (Kd.R_elder' (by exact HO_273001.out) (Kd.R_base ho0) hb)
       replace HO_278001:=ζa (Kd.R_elder' (by exact HO_278001.out) (Kd.R_base ho0) hb)
       replace HO_288001:=ζa (Kd.R_elder' (by exact HO_288001.out) (Kd.R_base ho0) hb)
       replace BK255:=ζa (blk_below (g:=gb255) (o:=.cells #[.string a0_0,.slice A0_1 l0_1.length c0_1] 45 (0,0)) (by exact BK255.out) hb)
       replace BK256:=ζa (blk_below (g:=gb256) (o:=.cells #[.int .i64 a1_0,.int .i64 a1_1,.string a1_2,.string a1_3] 46 (0,0)) (by exact BK256.out) hb)
       replace BK272:=ζa (blk_below (g:=gb272) (o:=.cells #[.string t267,.slice Ao41 t268.length co41] 25 (0,0)) (by exact BK272.out) hb)
       replace BK277:=ζa (blk_below (g:=gb277) (o:=.cells #[.string t273,.slice Ao51 t274.length co51] 25 (0,0)) (by exact BK277.out) hb)
       replace BK287:=ζa (blk_below (g:=gb287) (o:=.cells #[.string t282,.slice Ao59 t283.length co59] 25 (0,0)) (by exact BK287.out) hb)
       replace HB:=ζa (δr (by exact HB.out) hb)
       (try clear hb)
       (try clear hb2)
       (try clear hk)
       (try clear hi)
       (try clear ho0)
       obtain ⟨Ao218,co218,eo218⟩:=Kd.R_slice HO292.out
       (subst eo218)
       refine hK.out _ _ ⟨(δl BK277.out 0).trans rfl,(δl BK277.out 1).trans rfl,(δl BK255.out 0).trans rfl,(δl BK255.out 1).trans rfl⟩ (fun hHeld => ?_)
       clear hK K
       refine nm 54 ?_
       refine one_ (i:=3) (N:=some 55) #[τ,τ,τ,τ,φ] rfl rfl (by kernel_rfl) (by decide) (fun K hK => ?_)
       refine gs Try.func21 #[.agg #[.string t273,.slice Ao51 t274.length co51],.agg #[.string t289,.slice Ao218 t290.length co218]] ?_
       with_reducible refine (laws_eqClient.calls kj24 t273 _ _ t274 t289 _ _ t290 φ _ ?side1 ?side2 ?side3 ?side4 A85.out).mono ?_
       (case side1=>repeat (exact (ζg HO_278001.out).2.2))
       (case side2=>exact (ζg HO_278001.out).2.1)
       (case side3=>repeat (exact (ζg HO292.out).2.2))
       (case side4=>exact (ζg HO292.out).2.1)
       rintro e w219 ⟨rfl,hb⟩
       refine ⟨_,rfl,?_⟩
       replace HO_273001:=ζa (ζh (by exact HO_273001.out) hb)
       replace HO_278001:=ζa (ζh (by exact HO_278001.out) hb)
       replace HO_288001:=ζa (ζh (by exact HO_288001.out) hb)
       replace HO292:=ζa (ζh (by exact HO292.out) hb)
       replace BK255:=ζa (blk_below (g:=gb255) (o:=.cells #[.string a0_0,.slice A0_1 l0_1.length c0_1] 45 (0,0)) (by exact BK255.out) hb)
       replace BK256:=ζa (blk_below (g:=gb256) (o:=.cells #[.int .i64 a1_0,.int .i64 a1_1,.string a1_2,.string a1_3] 46 (0,0)) (by exact BK256.out) hb)
       replace BK272:=ζa (blk_below (g:=gb272) (o:=.cells #[.string t267,.slice Ao41 t268.length co41] 25 (0,0)) (by exact BK272.out) hb)
       replace BK277:=ζa (blk_below (g:=gb277) (o:=.cells #[.string t273,.slice Ao51 t274.length co51] 25 (0,0)) (by exact BK277.out) hb)
       replace BK287:=ζa (blk_below (g:=gb287) (o:=.cells #[.string t282,.slice Ao59 t283.length co59] 25 (0,0)) (by exact BK287.out) hb)
       replace HB:=ζa (δr (by exact HB.out) hb)
       (try clear hb)
       (try clear hb2)
       (try clear hk)
       (try clear hi)
       refine hK.out _ _ ⟨(δl BK277.out 0).trans rfl,(δl BK277.out 1).trans rfl,(δl BK255.out 0).trans rfl,(δl BK255.out 1).trans rfl⟩ (fun hHeld => ?_)
       clear hK K
       refine nm 55 ?_
       refine ζk (i:=4) (N:=some 56) (v:=?_) (a':=?_) #[τ,τ,τ,τ,τ] rfl rfl (by kernel_rfl) (fun _ _ _ h=>h) (Or.inl ⟨by rfl,?_⟩) ?_ ?_
       rotate_left
       · intro w';go_simp;with_reducible rfl
       rotate_left
       · simp only [ζl,δa,δb,δc,i64_w,i32_w];rfl
       refine done_ (by kernel_rfl) ?_
       try go_wp2
       go_ret
       exact ⟨by rfl,by repeat ((with_reducible exact HB.out))⟩

end Go.Proofs.Ytggemblkhckbpaa.Q

/- Plain arithmetic: products of two amounts in halves of nine digits; long division digit by digit. No program. -/
namespace Go.Proofs.Ytggemblkhckbpaa.U
open Go Go.RowKit
set_option linter.unusedVariables false
set_option linter.unusedSimpArgs false

theorem wid {n : Int} (h0 : -9223372036854775808 ≤ n) (h1 : n ≤ 9223372036854775807) : wrap64 n = n := IntWalk.wrap64_in n ⟨h0, h1⟩
theorem tdiv_nn {a b : Int} (h : 0 ≤ a) : Int.tdiv a b = a / b := Int.tdiv_eq_ediv_of_nonneg h
theorem tmod_nn {a b : Int} (h : 0 ≤ a) : Int.tmod a b = a % b := Int.tmod_eq_emod_of_nonneg h
theorem u64w (n : Int) : IntKind.u64.wrap n = n % 18446744073709551616 := by simp [IntKind.wrap, IntKind.bits, IntKind.signed]
theorem u64id {n : Int} (h0 : 0 ≤ n) (h1 : n < 18446744073709551616) : IntKind.u64.wrap n = n := by rw [u64w]; exact Int.emod_eq_of_lt h0 h1

theorem mul_bd {x y X Y : Int} (hx : 0 ≤ x) (hx' : x ≤ X) (hy : 0 ≤ y) (hy' : y ≤ Y) : 0 ≤ x * y ∧ x * y ≤ X * Y :=
  ⟨Int.mul_nonneg hx hy, Int.mul_le_mul hx' hy' hy (Int.le_trans hx hx')⟩

theorem wide_eq (a b : Int) (ha : 0 ≤ a) (ha' : a ≤ 1000000000000000000) (hb : 0 ≤ b) (hb' : b ≤ 1000000000000000000) :
    a * b = (a / 1000000000) * (b / 1000000000) * 1000000000000000000 + ((a / 1000000000) * (b % 1000000000) + (a % 1000000000) * (b / 1000000000)) * 1000000000 + (a % 1000000000) * (b % 1000000000) := by
  have e1 : a = (a / 1000000000) * 1000000000 + a % 1000000000 := by omega
  have e2 : b = (b / 1000000000) * 1000000000 + b % 1000000000 := by omega
  generalize a / 1000000000 = x at *
  generalize a % 1000000000 = y at *
  generalize b / 1000000000 = z at *
  generalize b % 1000000000 = u at *
  subst e1 e2
  grind

/-- One digit more of a long division. -/
theorem digit_step (c T out rest low : Int) (hc : 1 ≤ c) (hT : 1 ≤ T) (hr : 0 ≤ rest) (hl : 0 ≤ low) :
    (out * 10 + (10 * rest + low / T % 10) / c) * T + ((10 * rest + low / T % 10) % c * T + low % T) / c = out * (10 * T) + (rest * (10 * T) + low % (10 * T)) / c := by
  have e1 : low % (10 * T) = low / T % 10 * T + low % T := by
    have h1 : low / (10 * T) = low / T / 10 := by rw [Int.mul_comm, Int.ediv_ediv_of_nonneg (by omega)]
    have h2 := Int.mul_ediv_add_emod low (10 * T)
    have h3 := Int.mul_ediv_add_emod low T
    have h4 := Int.mul_ediv_add_emod (low / T) 10
    rw [h1] at h2
    generalize low / T / 10 = p at *
    generalize low / T % 10 = d at *
    generalize low / T = m at *
    subst h4
    generalize low % T = e at *
    generalize low % (10 * T) = f at *
    grind
  have h5 := Int.mul_ediv_add_emod (10 * rest + low / T % 10) c
  generalize low / T % 10 = d at *
  generalize (10 * rest + d) / c = q at *
  generalize (10 * rest + d) % c = s at *
  have e2 : rest * (10 * T) + low % (10 * T) = c * (q * T) + (s * T + low % T) := by
    rw [e1]
    generalize low % T = e at *
    grind
  rw [e2, Int.mul_add_ediv_left _ _ (by omega)]
  grind

/-- Knuth's step: a digit that is guessed too great is told by the lower half. -/
theorem knuth_lower (Y yn1 yn0 u v q : Int) (hY : Y = yn1 * 4294967296 + yn0) (h0 : 0 ≤ yn0) (hv : 0 ≤ v) (hv' : v < 4294967296) (hq : 0 ≤ q) (h : q * Y ≤ u * 4294967296 + v) : q * yn1 ≤ u := by
  have h1 : q * Y = q * yn1 * 4294967296 + q * yn0 := by subst hY; grind
  have h2 : 0 ≤ q * yn0 := Int.mul_nonneg hq h0
  omega

end Go.Proofs.Ytggemblkhckbpaa.U

/- The text of a mark. -/
namespace Go.Proofs.Ytggemblkhckbpaa.U
open Go Go.RowKit Go.Proofs.Ytggemblkhckbpaa.Q Go.Proofs.YtggemblkhckbpaaW.PrintWords Go.Proofs.YtggemblkhckbpaaW.PrintLast Go.Proofs.YtggemblkhckbpaaW.PrintMore
set_option linter.unusedVariables false
set_option linter.unusedSimpArgs false

def digV (u : Nat) : ByteArray := ⟨(Lib.decDigits u).toArray⟩
theorem one_digit (u : Nat) (h : u < 10) : strOfNums [(wrap64 (48 + (u : Int))) % 256] = ⟨#[UInt8.ofNat (48 + u)]⟩ := by
  rw [wid (by omega) (by omega)]
  have : ((48 + (u : Int)) % 256) = ((48 + u : Nat) : Int) := by omega
  rw [this]
  rfl
theorem dec_big {v : Nat} (h : ¬ v < 10) : Lib.decDigits v = Lib.decDigits (v / 10) ++ [UInt8.ofNat (48 + v % 10)] := by
  conv => lhs; rw [Lib.decDigits, dif_neg h]
def markV (n : Nat) : ByteArray := if n = 0 then (⟨#[109, 48]⟩ : ByteArray) else (⟨#[109]⟩ : ByteArray) ++ digV n
theorem digV_big {v : Nat} (h : ¬ v < 10) : digV v = digV (v / 10) ++ (⟨#[UInt8.ofNat (48 + v % 10)]⟩ : ByteArray) := by
  apply ByteArray.ext
  unfold digV
  rw [dec_big h]
  simp
theorem mark_go (v : Nat) : ∀ (acc : ByteArray), 1 ≤ v → v ≤ 1000000000000000000 → acc.size + v ≤ 9000000000000000000 → Ev (fun k => laws_markText.l0 k (v : Int) acc) ((⟨#[109]⟩ : ByteArray) ++ (digV v ++ acc)) := by
  induction v using Nat.strongRecOn with
  | _ v ih =>
    intro acc h1 h2 h3
    have e1 : wrap64 (Int.tdiv (v : Int) 10) = ((v / 10 : Nat) : Int) := by rw [tdiv_nn (by omega), wid (by omega) (by omega)]; omega
    have e2 : Int.tmod (v : Int) 10 = ((v % 10 : Nat) : Int) := by rw [tmod_nn (by omega)]; omega
    have sz : (⟨#[UInt8.ofNat (48 + v % 10)]⟩ : ByteArray).size = 1 := rfl
    refine Ev.step (f := fun k => laws_markText.l0 k ((v / 10 : Nat) : Int) ((⟨#[UInt8.ofNat (48 + v % 10)]⟩ : ByteArray) ++ acc)) (fun k => ?_) ?_
    · rw [laws_markText.l0, if_pos (by omega), e1, e2]
      simp only [Option.bind_some, one_digit (v % 10) (by omega)]
      rw [if_pos (by rw [sz]; omega)]
    · have hacc : ((⟨#[UInt8.ofNat (48 + v % 10)]⟩ : ByteArray) ++ acc).size = 1 + acc.size := by rw [ByteArray.size_append, sz]
      by_cases hv : v < 10
      · have e : v / 10 = 0 := by omega
        rw [e]
        refine Ev.step (fun k => ?_) (Ev.now _)
        rw [show ((0 : Nat) : Int) = 0 from rfl, laws_markText.l0, if_neg (by decide), if_pos (by rw [hacc]; omega)]
        have : digV v = (⟨#[UInt8.ofNat (48 + v % 10)]⟩ : ByteArray) := by
          apply ByteArray.ext
          unfold digV
          rw [Lib.decDigits_one hv, Nat.mod_eq_of_lt hv]
        rw [this]
      · have := ih (v / 10) (by omega) ((⟨#[UInt8.ofNat (48 + v % 10)]⟩ : ByteArray) ++ acc) (by omega) (by omega) (by rw [hacc]; omega)
        rw [digV_big hv]
        simp only [ByteArray.append_assoc] at this ⊢
        exact this
theorem markText_ev (n : Nat) (h : n ≤ 1000000000000000000) : Ev (fun k => laws_markText.f k (n : Int)) (markV n) := by
  unfold laws_markText.f markV
  by_cases h0 : n = 0
  · subst h0
    simp only [if_pos (show ((0 : Nat) : Int) ≤ 0 by decide), if_true]
    exact Ev.now _
  · simp only [if_neg (show ¬ (n : Int) ≤ 0 by omega), if_neg h0]
    have e := mark_go n (⟨#[]⟩ : ByteArray) (by omega) h (by show 0 + n ≤ _; omega)
    have z : digV n ++ (⟨#[]⟩ : ByteArray) = digV n := by apply ByteArray.ext; simp
    rw [z] at e
    exact e
end Go.Proofs.Ytggemblkhckbpaa.U

/- A client's states: their size, their copy, their marks. -/
namespace Go.Proofs.Ytggemblkhckbpaa.U
open Go Go.RowKit Go.Proofs.Ytggemblkhckbpaa.Q Go.Proofs.YtggemblkhckbpaaW.PrintWords Go.Proofs.YtggemblkhckbpaaW.PrintLast Go.Proofs.YtggemblkhckbpaaW.PrintMore
set_option linter.unusedVariables false
set_option linter.unusedSimpArgs false

abbrev LS := S98
abbrev IS := S39
def toS (x : LS) : IS := ⟨x.f0, x.f1⟩
theorem rdLS (l : List LS) (i : Nat) (h : i < l.length) : rd_T98 l (i : Int) = l[i] := by simp [rd_T98, List.getD_eq_getElem?_getD, List.getElem?_eq_getElem h]
theorem rdIS (l : List IS) (i : Nat) (h : i < l.length) : rd_T39 l (i : Int) = l[i] := by simp [rd_T39, List.getD_eq_getElem?_getD, List.getElem?_eq_getElem h]
/-- All roots are short. -/
def ShortS (l : List LS) : Prop := l.length ≤ 1048576 ∧ ∀ x ∈ l, x.f1.size ≤ 1048576
theorem szState_ok (t : Int) (b : ByteArray) (n : Int) (hb : b.size ≤ 9223372036854775807) (h0 : 0 ≤ n) (h1 : n ≤ 1048576) :
    ∃ z, laws_szState.f t b n = some z ∧ (z < 0 ∨ (0 ≤ z ∧ z ≤ n ∧ b.size ≤ 1048576)) := by
  unfold laws_szState.f
  rw [wid (n := n - (b.size : Int)) (by omega) (by omega)]
  by_cases c1 : n - (b.size : Int) < 0
  · exact ⟨-1, by rw [if_pos c1], .inl (by decide)⟩
  exact ⟨_, by rw [if_neg c1], .inr (by omega)⟩
theorem szStateS_go (l : List LS) (hl : l.length ≤ 1048576) (hx : ∀ x ∈ l, x.f1.size ≤ 9223372036854775807) : ∀ (d i : Nat) (n : Int), i + d = l.length → 0 ≤ n → n ≤ 1048576 →
    ∃ z, Ev (fun k => laws_szStateS.l0 k l n (i : Int)) z ∧ (z < 0 ∨ (0 ≤ z ∧ z ≤ n ∧ ∀ x ∈ l.drop i, x.f1.size ≤ 1048576)) := by
  intro d
  induction d with
  | zero =>
    intro i n hi h0 h1
    refine ⟨n, Ev.step (fun k => ?_) (Ev.now _), .inr ⟨h0, Int.le_refl _, ?_⟩⟩
    · rw [laws_szStateS.l0, if_neg (by omega)]
    · rw [List.drop_of_length_le (by omega)]; simp
  | succ d ih =>
    intro i n hi h0 h1
    have hlt : i < l.length := by omega
    obtain ⟨z1, e1, hz1⟩ := szState_ok l[i].f0 l[i].f1 n (hx _ (List.getElem_mem hlt)) h0 h1
    have hstep : ∀ k, laws_szStateS.l0 (k + 1) l n (i : Int) = if z1 < 0 then some (-1) else laws_szStateS.l0 k l z1 ((i + 1 : Nat) : Int) := by
      intro k
      rw [laws_szStateS.l0, if_pos (by omega), if_pos (by omega), rdLS l i hlt, e1, wid (n := (i : Int) + 1) (by omega) (by omega)]
      rfl
    by_cases hn : z1 < 0
    · exact ⟨-1, Ev.step hstep (by simp only [if_pos hn]; exact Ev.now _), .inl (by decide)⟩
    rcases hz1 with hz1 | ⟨hz0, hzn, hb⟩
    · exact absurd hz1 hn
    obtain ⟨z, e2, hz⟩ := ih (i + 1) z1 (by omega) hz0 (by omega)
    refine ⟨z, Ev.step hstep (by simp only [if_neg hn]; exact e2), ?_⟩
    rcases hz with hz | ⟨hz1, hz2, hz3⟩
    · exact .inl hz
    refine .inr ⟨hz1, by omega, ?_⟩
    rw [List.drop_eq_getElem_cons hlt]
    intro x hxm
    rcases List.mem_cons.1 hxm with rfl | hxm
    · exact hb
    · exact hz3 x hxm
theorem szStateS_ev (l : List LS) (n : Int) (hl : l.length ≤ 9223372036854775807) (hx : ∀ x ∈ l, x.f1.size ≤ 9223372036854775807) (h0 : 0 ≤ n) (h1 : n ≤ 1048576) :
    ∃ z, Ev (fun k => laws_szStateS.f k l n) z ∧ (z < 0 ∨ (0 ≤ z ∧ z ≤ n ∧ ShortS l)) := by
  unfold laws_szStateS.f
  rw [wid (n := n - (l.length : Int)) (by omega) (by omega)]
  by_cases c1 : n - (l.length : Int) < 0
  · exact ⟨-1, by simp only [if_pos c1]; exact Ev.now _, .inl (by decide)⟩
  simp only [if_neg c1]
  obtain ⟨z, e, hz⟩ := szStateS_go l (by omega) hx l.length 0 (n - (l.length : Int)) (by omega) (by omega) (by omega)
  refine ⟨z, e, ?_⟩
  rcases hz with hz | ⟨hz1, hz2, hz3⟩
  · exact .inl hz
  · exact .inr ⟨hz1, by omega, by omega, by simpa using hz3⟩
theorem szClient_ev (a : ByteArray) (l : List LS) (n : Int) (ha : a.size ≤ 9223372036854775807) (hl : l.length ≤ 9223372036854775807) (hx : ∀ x ∈ l, x.f1.size ≤ 9223372036854775807) (h0 : 0 ≤ n) (h1 : n ≤ 1048576) :
    ∃ z, Ev (fun k => laws_szClient.f k a l n) z ∧ (z < 0 ∨ (0 ≤ z ∧ z ≤ n ∧ a.size ≤ 1048576 ∧ ShortS l)) := by
  unfold laws_szClient.f
  rw [wid (n := n - (a.size : Int)) (by omega) (by omega)]
  by_cases c1 : n - (a.size : Int) < 0
  · exact ⟨-1, by simp only [if_pos c1]; exact Ev.now _, .inl (by decide)⟩
  simp only [if_neg c1]
  obtain ⟨z, e, hz⟩ := szStateS_ev l (n - (a.size : Int)) hl hx (by omega) (by omega)
  by_cases hn : z < 0
  · exact ⟨-1, Ev.bind e (by simp only [if_pos hn]; exact Ev.now _), .inl (by decide)⟩
  refine ⟨z, Ev.bind e (by simp only [if_neg hn]; exact Ev.now _), .inr ?_⟩
  rcases hz with hz | ⟨hz1, hz2, hz3⟩
  · exact absurd hz hn
  · exact ⟨hz1, by omega, by omega, hz3⟩
theorem szHeader_ok (t0 t1 : Int) (a b : ByteArray) (n : Int) (ha : a.size ≤ 9223372036854775807) (hb : b.size ≤ 9223372036854775807) (h0 : 0 ≤ n) (h1 : n ≤ 1048576) :
    ∃ z, laws_szHeader.f t0 t1 a b n = some z ∧ (z < 0 ∨ (a.size ≤ 1048576 ∧ b.size ≤ 1048576)) := by
  unfold laws_szHeader.f
  rw [wid (n := n - (a.size : Int)) (by omega) (by omega)]
  by_cases c1 : n - (a.size : Int) < 0
  · exact ⟨-1, by rw [if_pos c1], .inl (by decide)⟩
  rw [if_neg c1, wid (n := n - (a.size : Int) - (b.size : Int)) (by omega) (by omega)]
  by_cases c2 : n - (a.size : Int) - (b.size : Int) < 0
  · exact ⟨-1, by rw [if_pos c2], .inl (by decide)⟩
  exact ⟨_, by rw [if_neg c2], .inr (by omega)⟩
theorem toStateS_go (l : List LS) (hl : l.length ≤ 1048576) : ∀ (d i : Nat) (o : List IS), i + d = l.length → o.length = l.length → (∀ j, j < i → o[j]? = (l.map toS)[j]?) →
    Ev (fun k => laws_toStateS.l0 k l o (i : Int)) (l.map toS) := by
  intro d
  induction d with
  | zero =>
    intro i o hi ho hj
    have e : o = l.map toS := by
      apply List.ext_getElem?
      intro j
      by_cases h : j < i
      · exact hj j h
      · rw [List.getElem?_eq_none (by omega), List.getElem?_eq_none (by simp; omega)]
    refine Ev.step (fun k => ?_) (Ev.now _)
    rw [laws_toStateS.l0, if_neg (by omega), e]
  | succ d ih =>
    intro i o hi ho hj
    have hlt : i < l.length := by omega
    refine Ev.step (f := fun k => laws_toStateS.l0 k l (o.set i (toS l[i])) ((i + 1 : Nat) : Int)) (fun k => ?_) (ih (i + 1) (o.set i (toS l[i])) (by omega) (by simpa using ho) ?_)
    · rw [laws_toStateS.l0, if_pos (by omega), if_pos (by omega), rdLS l i hlt]
      simp only [laws_toState.f, Option.bind_some]
      rw [if_pos (by omega), wid (n := (i : Int) + 1) (by omega) (by omega)]
      rfl
    · intro j hji
      rw [List.getElem?_set]
      by_cases h : i = j
      · subst h
        rw [if_pos rfl, if_pos (by omega)]
        simp [hlt]
      · rw [if_neg h]
        exact hj j (by omega)
theorem toClient_ev (a : ByteArray) (l : List LS) (hl : l.length ≤ 1048576) : Ev (fun k => laws_toClient.f k a l) (a, l.map toS) := by
  unfold laws_toClient.f laws_toStateS.f
  simp only [if_pos (show (0 : Int) ≤ (l.length : Int) by omega), if_pos (show (l.length : Int).toNat ≤ 11728124029610 by omega)]
  exact Ev.bind (toStateS_go l hl l.length 0 _ (by omega) (by simp) (by simp)) (Ev.now _)
theorem eqStateS_go (l : List IS) (hl : l.length ≤ 1048577) : ∀ (d i : Nat), i + d = l.length → Ev (fun k => laws_eqStateS.l0 k l l (i : Int)) true := by
  intro d
  induction d with
  | zero =>
    intro i hi
    exact Ev.step (fun k => by rw [laws_eqStateS.l0, if_neg (by omega)]) (Ev.now _)
  | succ d ih =>
    intro i hi
    refine Ev.step (f := fun k => laws_eqStateS.l0 k l l ((i + 1 : Nat) : Int)) (fun k => ?_) (ih (i + 1) (by omega))
    rw [laws_eqStateS.l0, if_pos (by omega), if_pos (by omega), if_pos (by omega), wid (n := (i : Int) + 1) (by omega) (by omega)]
    simp only [laws_eqState.f, if_true, Option.bind_some]
    rfl
theorem eqClient_ev (a : ByteArray) (l : List IS) (hl : l.length ≤ 1048577) : Ev (fun k => laws_eqClient.f k a l a l) true := by
  unfold laws_eqClient.f laws_eqStateS.f
  simp only [if_true]
  exact Ev.bind (eqStateS_go l hl l.length 0 (by omega)) (by simp only [if_true]; exact Ev.now _)
/-- The states as they are marked, from a number on. -/
def markS (n i : Nat) : IS := ⟨((n + 2 * i : Nat) : Int), markV (n + 2 * i + 1)⟩
def markSs (n : Nat) (l : List IS) : List IS := (List.range l.length).map fun i => markS n i
theorem markSs_len (n : Nat) (l : List IS) : (markSs n l).length = l.length := by simp [markSs]
theorem markStateS_go (N : Nat) (l : List IS) (n : Nat) (hl : l.length = N) (hN : N ≤ 1048577) (hn : n ≤ 1000000) : ∀ (d i : Nat) (o : List IS), i + d = N → o.length = N → (∀ j, j < i → o[j]? = some (markS n j)) →
    Ev (fun k => laws_markStateS.l0 k o ((n + 2 * i : Nat) : Int) (i : Int)) (((n + 2 * N : Nat) : Int), markSs n l) := by
  intro d
  induction d with
  | zero =>
    intro i o hi ho hj
    have e : o = markSs n l := by
      apply List.ext_getElem?
      intro j
      by_cases h : j < i
      · rw [hj j h]; unfold markSs; rw [List.getElem?_map, List.getElem?_range (by omega)]; rfl
      · rw [List.getElem?_eq_none (by omega), List.getElem?_eq_none (by unfold markSs; simp; omega)]
    refine Ev.step (fun k => ?_) (Ev.now _)
    rw [laws_markStateS.l0, if_neg (by omega), e, show i = N by omega]
  | succ d ih =>
    intro i o hi ho hj
    have hlt : i < o.length := by omega
    refine Ev.step (f := fun k => (laws_markText.f k ((n + 2 * i + 1 : Nat) : Int)).bind fun u => laws_markStateS.l0 k (o.set i ⟨((n + 2 * i : Nat) : Int), u⟩) ((n + 2 * (i + 1) : Nat) : Int) ((i + 1 : Nat) : Int)) (fun k => ?_) ?_
    · have w1 : wrap64 (((n + 2 * i : Nat) : Int) + 1) = ((n + 2 * i + 1 : Nat) : Int) := by rw [wid (by omega) (by omega)]; omega
      have w2 : wrap64 (((n + 2 * i + 1 : Nat) : Int) + 1) = ((n + 2 * (i + 1) : Nat) : Int) := by rw [wid (by omega) (by omega)]; omega
      have w3 : wrap64 ((i : Int) + 1) = ((i + 1 : Nat) : Int) := by rw [wid (by omega) (by omega)]; omega
      rw [laws_markStateS.l0, if_pos (by omega), if_pos (by omega), w1, w2, w3]
      simp only [Option.bind_some]
      congr 1
      funext u
      rw [Int.toNat_natCast, List.set_set]
      have : (rd_T39 (o.set i (⟨((n + 2 * i : Nat) : Int), (rd_T39 o (i : Int)).f1⟩ : IS)) (i : Int)).f0 = ((n + 2 * i : Nat) : Int) := by
        rw [rdIS _ i (by rw [List.length_set]; exact hlt), List.getElem_set_self]
      rw [this]
    · refine Ev.bind (markText_ev _ (by omega)) ?_
      refine ih (i + 1) _ (by omega) (by rw [List.length_set]; exact ho) (fun j hji => ?_)
      rw [List.getElem?_set]
      by_cases h : i = j
      · subst h
        rw [if_pos rfl, if_pos hlt]
        rfl
      · rw [if_neg h]
        exact hj j (by omega)
theorem markClient_ev (a : ByteArray) (l : List IS) (n : Nat) (hN : l.length ≤ 1048577) (hn : n ≤ 1000000) : Ev (fun k => laws_markClient.f k a l (n : Int)) (((n + 2 * l.length : Nat) : Int), markSs n l) := by
  unfold laws_markClient.f laws_markStateS.f
  exact Ev.bind (markStateS_go l.length l n rfl hN hn l.length 0 l (by omega) rfl (fun j h => by omega)) (Ev.now _)
theorem heldStateS_go (l : List IS) (n : Nat) (hN : l.length ≤ 1048577) (hn : n ≤ 1000000) : ∀ (d i : Nat), i + d = l.length →
    Ev (fun k => laws_heldStateS.l0 k (markSs n l) ((n + 2 * i : Nat) : Int) (i : Int)) ((n + 2 * l.length : Nat) : Int) := by
  intro d
  induction d with
  | zero =>
    intro i hi
    refine Ev.step (fun k => ?_) (Ev.now _)
    rw [laws_heldStateS.l0, if_neg (by rw [markSs_len]; omega), show i = l.length by omega]
  | succ d ih =>
    intro i hi
    have hlt : i < (markSs n l).length := by rw [markSs_len]; omega
    have er : rd_T39 (markSs n l) (i : Int) = markS n i := by rw [rdIS _ i hlt]; simp [markSs]
    refine Ev.step (f := fun k => (laws_markText.f k ((n + 2 * i + 1 : Nat) : Int)).bind fun u => if (markS n i).f1.toList = u.toList then laws_heldStateS.l0 k (markSs n l) ((n + 2 * (i + 1) : Nat) : Int) ((i + 1 : Nat) : Int) else some (-1)) (fun k => ?_) ?_
    · have w1 : wrap64 (((n + 2 * i : Nat) : Int) + 1) = ((n + 2 * i + 1 : Nat) : Int) := by rw [wid (by omega) (by omega)]; omega
      have w2 : wrap64 (((n + 2 * i + 1 : Nat) : Int) + 1) = ((n + 2 * (i + 1) : Nat) : Int) := by rw [wid (by omega) (by omega)]; omega
      have w3 : wrap64 ((i : Int) + 1) = ((i + 1 : Nat) : Int) := by rw [wid (by omega) (by omega)]; omega
      rw [laws_heldStateS.l0, if_pos (by omega), if_pos (by omega), er, if_pos (show (markS n i).f0 = ((n + 2 * i : Nat) : Int) from rfl), w1, w2, w3]
    · refine Ev.bind (markText_ev _ (by omega)) ?_
      simp only [markS, if_true]
      exact ih (i + 1) (by omega)
theorem heldClient_ev (a : ByteArray) (l : List IS) (n : Nat) (hN : l.length ≤ 1048577) (hn : n ≤ 1000000) : Ev (fun k => laws_heldClient.f k a (markSs n l) (n : Int)) ((n + 2 * l.length : Nat) : Int) := by
  unfold laws_heldClient.f laws_heldStateS.f
  refine Ev.bind (heldStateS_go l n hN hn l.length 0 (by omega)) ?_
  simp only [if_neg (show ¬ ((n + 2 * l.length : Nat) : Int) < 0 by omega)]
  exact Ev.now _
end Go.Proofs.Ytggemblkhckbpaa.U

/- Words of 32 bits: the program's operations on them, as operations on bit vectors. -/
namespace Go.Proofs.Ytggemblkhckbpaa.U
open Go Go.RowKit Go.Proofs.YtggemblkhckbpaaW.PrintWords Go.Proofs.YtggemblkhckbpaaW.PrintMore
set_option linter.unusedVariables false
set_option linter.unusedSimpArgs false

def u32 (b : BitVec 32) : Int := (b.toNat : Int)
theorem u32_bd (b : BitVec 32) : 0 ≤ u32 b ∧ u32 b < 4294967296 := by
  unfold u32
  have := b.isLt
  omega
theorem u32_wrap (n : Int) : IntKind.u32.wrap n = n % 4294967296 := rfl
theorem u32_nat (n : Nat) : IntKind.u32.wrap (n : Int) = u32 (BitVec.ofNat 32 n) := by
  rw [u32_wrap]
  unfold u32
  rw [BitVec.toNat_ofNat]
  omega
theorem int_b32 (b : BitVec 32) : BitVec.ofInt 32 (u32 b) = b := by
  unfold u32
  apply BitVec.eq_of_toNat_eq
  rw [BitVec.toNat_ofInt]
  have := b.isLt
  omega
theorem of32 (b : BitVec 32) : IntKind.u32.wrap ((b.toNat : Nat) : Int) = u32 b := by rw [u32_nat, BitVec.ofNat_toNat, BitVec.setWidth_eq]
theorem and32 (a b : BitVec 32) : Go.bits .and .u32 (u32 a) (u32 b) = u32 (a &&& b) := by
  show IntKind.u32.wrap (((BitVec.ofInt 32 (u32 a) &&& BitVec.ofInt 32 (u32 b)).toNat : Nat) : Int) = _
  rw [int_b32, int_b32, of32]
theorem or32 (a b : BitVec 32) : Go.bits .or .u32 (u32 a) (u32 b) = u32 (a ||| b) := by
  show IntKind.u32.wrap (((BitVec.ofInt 32 (u32 a) ||| BitVec.ofInt 32 (u32 b)).toNat : Nat) : Int) = _
  rw [int_b32, int_b32, of32]
theorem xor32 (a b : BitVec 32) : Go.bits .xor .u32 (u32 a) (u32 b) = u32 (a ^^^ b) := by
  show IntKind.u32.wrap (((BitVec.ofInt 32 (u32 a) ^^^ BitVec.ofInt 32 (u32 b)).toNat : Nat) : Int) = _
  rw [int_b32, int_b32, of32]
theorem add32 (a b : BitVec 32) : IntKind.u32.wrap (u32 a + u32 b) = u32 (a + b) := by
  unfold u32
  rw [← Int.natCast_add, u32_nat]
  unfold u32
  rw [BitVec.toNat_ofNat, BitVec.toNat_add]
theorem shl32 (a : BitVec 32) (n : Nat) (h : n ≤ 32) : shl .u32 (u32 a) (n : Int) = u32 (a <<< n) := by
  unfold shl
  have e : IntKind.u32.bits = 32 := rfl
  rw [e, Int.toNat_natCast, Nat.min_eq_left h]
  unfold u32
  have e2 : ((a.toNat : Int) * 2 ^ n) = ((a.toNat * 2 ^ n : Nat) : Int) := by push_cast; rfl
  rw [e2, u32_nat]
  unfold u32
  rw [BitVec.toNat_ofNat, BitVec.toNat_shiftLeft, Nat.shiftLeft_eq]
theorem shr32 (a : BitVec 32) (n : Nat) (h : n ≤ 32) : shr .u32 (u32 a) (n : Int) = u32 (a >>> n) := by
  unfold shr
  have e : IntKind.u32.bits = 32 := rfl
  rw [e, Int.toNat_natCast, Nat.min_eq_left h]
  unfold u32
  rw [BitVec.toNat_ushiftRight, Nat.shiftRight_eq_div_pow]
  push_cast
  rfl
theorem not32 (a : BitVec 32) : IntKind.u32.wrap (-(u32 a) - 1) = u32 (~~~a) := by
  rw [u32_wrap]
  unfold u32
  rw [BitVec.toNat_not]
  have := a.isLt
  omega
theorem ch32 (e f g : BitVec 32) : (e &&& f) ||| (~~~e &&& g) = (e &&& f) ^^^ (~~~e &&& g) := by
  apply BitVec.eq_of_getLsbD_eq
  intro i hi
  simp only [BitVec.getLsbD_or, BitVec.getLsbD_and, BitVec.getLsbD_xor, BitVec.getLsbD_not]
  cases e.getLsbD i <;> cases f.getLsbD i <;> cases g.getLsbD i <;> simp [hi]
theorem maj32 (a b c : BitVec 32) : (a &&& b) ||| (a &&& c) ||| (b &&& c) = (a &&& b) ^^^ (a &&& c) ^^^ (b &&& c) := by
  apply BitVec.eq_of_getLsbD_eq
  intro i hi
  simp only [BitVec.getLsbD_or, BitVec.getLsbD_and, BitVec.getLsbD_xor]
  cases a.getLsbD i <;> cases b.getLsbD i <;> cases c.getLsbD i <;> rfl
end Go.Proofs.Ytggemblkhckbpaa.U
