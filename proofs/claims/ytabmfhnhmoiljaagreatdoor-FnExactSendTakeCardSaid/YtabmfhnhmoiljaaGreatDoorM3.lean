/- Parts of the proof: what single Go functions compute, each with its walk, and plain laws over these. -/
import Derived.Test.YtabmfhnhmoiljaaGreatDoorM0
import Derived.Test.YtabmfhnhmoiljaaGreatDoorM1
import Derived.Test.YtabmfhnhmoiljaaGreatDoorM2
import Derived.IntWalk
import Derived.Laws.BitsLemmas
import Derived.Test.YtabmfhnhmoiljaaGreatDoorVMore
import Derived.Lib.ItoaNum
import Derived.Lib.AtoiAllCases
import Derived.Lib.Strings
import Derived.Lib.Bytealg
import Derived.Sort.Walk0
namespace Go.Proofs.YtabmfhnhmoiljaaGreatDoor.Q
open Go.RowKit Go.Proofs.YtabmfhnhmoiljaaGreatDoorW.PrintWords Go.Proofs.YtabmfhnhmoiljaaGreatDoorW.PrintLast Go.Proofs.YtabmfhnhmoiljaaGreatDoorW.PrintMore
open Go.Proofs.YtabmfhnhmoiljaaGreatDoorW.PrintWords.Aside0 renaming mk → ζa
open Go.Proofs.YtabmfhnhmoiljaaGreatDoorW.PrintWords renaming below_alloc → δk, pw_below_drewN → δi, below_drew1 → δj, gate_callee → δv, below_step → δr, below_size → δs
open List renaming map_toArray → δd, map_cons → δe, map_nil → δf, length_drop → δg, length_take → δh, setIfInBounds_toArray → δa, set_cons_zero → δb, set_cons_succ → δc
open Go.Proofs.YtabmfhnhmoiljaaGreatDoorW.PrintWords.Kd renaming R_reads' → ζg, R_alloc → ζd, R_drewN → ζc, R_drew → ζe, R_below → ζh
open Go.Act renaming put → ζl
open Bool renaming true → τ, false → φ
attribute [local go_sem] max2_int min2_int max_two min_two max_three min_three max_four min_four   -- for this text's walks alone
set_option linter.unusedVariables false
set_option linter.unusedSimpArgs false

/-! ### laws_FnExactSendTake: function 3 -/
mutual
def laws_FnExactSendTake.j0:Nat→ByteArray→List (S49)→ByteArray→ByteArray→ByteArray→Int→List (S51)→ByteArray→Int→List (S51)→List (S51)→ByteArray→Int→Bool→Option (Bool)
 | 0,_,_,_,_,_,_,_,_,_,_,_,_,_,_=>none
 | k+1,x0,x1,x2,x3,x4,x5,x14,x15,x16,x17,x18,x19,x20,x82=>if x82=τ then (some φ) else ((laws_toPairS.f k x1).bind fun t296=>((laws_eqPairS.f k x17 t296).bind fun t299=>(if t299=τ then ((laws_markPairS.f k x17 1).bind fun bt300=>(if bt300.1<0 then (laws_FnExactSendTake.j1 k x0 x1 x2 x3 x4 x5 x14 x15 x16 x18 τ) else ((laws_eqPairS.f k x18 x14).bind fun t302=>(if t302=τ then (if x19.toList=x15.toList then (laws_FnExactSendTake.j1 k x0 x1 x2 x3 x4 x5 x14 x15 x16 x18 (x20 != x16)) else (laws_FnExactSendTake.j1 k x0 x1 x2 x3 x4 x5 x14 x15 x16 x18 τ)) else (laws_FnExactSendTake.j1 k x0 x1 x2 x3 x4 x5 x14 x15 x16 x18 τ))))) else (some φ))))
def laws_FnExactSendTake.j1:Nat→ByteArray→List (S49)→ByteArray→ByteArray→ByteArray→Int→List (S51)→ByteArray→Int→List (S51)→Bool→Option (Bool)
 | 0,_,_,_,_,_,_,_,_,_,_,_=>none
 | k+1,x0,x1,x2,x3,x4,x5,x14,x15,x16,x18,x108=>if x108=τ then (some φ) else ((laws_markPairS.f k x18 1).bind fun bt303=>((laws_heldPairS.f k bt303.2 1).bind fun t305=>(if t305<0 then (some φ) else (if t305=bt303.1 then ((laws_toPairS.f k x1).bind fun t306=>((impl_SendTake.f k x0 t306 x2 x3 x4 x5).bind fun bt309=>((laws_eqPairS.f k bt309.1 x14).bind fun t314=>(if t314=τ then (if bt309.2.1.toList=x15.toList then (laws_FnExactSendTake.j2 k bt303.2 bt303.1 (bt309.2.2 != x16)) else (laws_FnExactSendTake.j2 k bt303.2 bt303.1 τ)) else (laws_FnExactSendTake.j2 k bt303.2 bt303.1 τ))))) else (some φ)))))
def laws_FnExactSendTake.j2:Nat→List (S51)→Int→Bool→Option (Bool)
 | 0,_,_,_=>none
 | k+1,x18,x22,x145=>if x145=τ then (some φ) else ((laws_heldPairS.f k x18 1).bind fun t315=>(if t315<0 then (some φ) else (if t315=x22 then (some τ) else (some φ))))
end
def laws_FnExactSendTake.f (k:Nat) (a0:ByteArray) (l1:List (S49)) (a2:ByteArray) (a3:ByteArray) (a4:ByteArray) (a5:Int):Option (Bool):=if (a0.size:Int) > 1048576 then (some τ) else (if (a2.size:Int) > 1048576 then (some τ) else (if (a3.size:Int) > 1048576 then (some τ) else (if (a4.size:Int) > 1048576 then (some τ) else ((laws_szPairS.f k l1 1048576).bind fun t278=>(if t278<0 then (some τ) else ((laws_toPairS.f k l1).bind fun t279=>((spec_SendTake.f k a0 t279 a2 a3 a4 a5).bind fun bt282=>((laws_toPairS.f k l1).bind fun t287=>((impl_SendTake.f k a0 t287 a2 a3 a4 a5).bind fun bt290=>((laws_eqPairS.f k bt290.1 bt282.1).bind fun t295=>(if t295=τ then (if bt290.2.1.toList=bt282.2.1.toList then (laws_FnExactSendTake.j0 k a0 l1 a2 a3 a4 a5 bt282.1 bt282.2.1 bt282.2.2 t287 bt290.1 bt290.2.1 bt290.2.2 (bt290.2.2 != bt282.2.2)) else (laws_FnExactSendTake.j0 k a0 l1 a2 a3 a4 a5 bt282.1 bt282.2.1 bt282.2.2 t287 bt290.1 bt290.2.1 bt290.2.2 τ)) else (laws_FnExactSendTake.j0 k a0 l1 a2 a3 a4 a5 bt282.1 bt282.2.1 bt282.2.2 t287 bt290.1 bt290.2.1 bt290.2.2 τ))))))))))))
set_option maxHeartbeats 8000000 in
set_option maxRecDepth 100000 in
theorem laws_FnExactSendTake.calls (k:Nat) (a0:ByteArray) (A1:Option Addr) (c1:Nat) (l1:List (S49)) (a2:ByteArray) (a3:ByteArray) (a4:ByteArray) (a5:Int) (r:Bool) (w:World) (hr1:Kd.C k49 w A1 l1.length l1) (hc1:l1.length≤c1) (hT0:TabsOK w) (h:laws_FnExactSendTake.f k a0 l1 a2 a3 a4 a5=some r) :
  Calls Tryz.prog 3 #[.string a0,.slice A1 l1.length c1,.string a2,.string a3,.string a4,.int .i64 a5] w fun e w'=>e = .returned (.bool r)∧Below w.heap.size w w':=by
 have HT0:=ζa hT0
 clear hT0
 have HR1:=ζa hr1
 have HC1:=ζa hc1
 clear hr1 hc1
 have HB:=ζa (Below.refl w.heap.size w)
 have H:(if (a0.size:Int) > 1048576 then (some τ) else (if (a2.size:Int) > 1048576 then (some τ) else (if (a3.size:Int) > 1048576 then (some τ) else (if (a4.size:Int) > 1048576 then (some τ) else ((laws_szPairS.f k l1 1048576).bind fun t278=>(if t278<0 then (some τ) else ((laws_toPairS.f k l1).bind fun t279=>((spec_SendTake.f k a0 t279 a2 a3 a4 a5).bind fun bt282=>((laws_toPairS.f k l1).bind fun t287=>((impl_SendTake.f k a0 t287 a2 a3 a4 a5).bind fun bt290=>((laws_eqPairS.f k bt290.1 bt282.1).bind fun t295=>(if t295=τ then (if bt290.2.1.toList=bt282.2.1.toList then (laws_FnExactSendTake.j0 k a0 l1 a2 a3 a4 a5 bt282.1 bt282.2.1 bt282.2.2 t287 bt290.1 bt290.2.1 bt290.2.2 (bt290.2.2 != bt282.2.2)) else (laws_FnExactSendTake.j0 k a0 l1 a2 a3 a4 a5 bt282.1 bt282.2.1 bt282.2.2 t287 bt290.1 bt290.2.1 bt290.2.2 τ)) else (laws_FnExactSendTake.j0 k a0 l1 a2 a3 a4 a5 bt282.1 bt282.2.1 bt282.2.2 t287 bt290.1 bt290.2.1 bt290.2.2 τ)))))))))))))=some r:=h
 clear h
 by_cases c7:(a0.size:Int) > 1048576
 ·
  rw [if_pos c7] at H
  have c7b0:decide (1048576<(a0.size:Int))=τ:=decide_eq_true c7
  have c7b1:decide (1048576<a0.size)=τ:=decide_eq_true (by omega)
  clear c7
  obtain rfl:=Option.some.inj H
  go_enter Tryz.func3,Tryz.ntmps3
  go_wp2
  go_ret
  exact ⟨by first|rfl|(simp [errW_none,errW_some] <;> rfl)|(simp [*,errW_none,errW_some] <;> rfl),by repeat (first|(with_reducible first|exact HB.out|apply δk|apply δi|apply δj)|exact HB.out)⟩
 ·
  rw [if_neg c7] at H
  have c7b0:decide (1048576<(a0.size:Int))=φ:=decide_eq_false c7
  have c7b1:decide (1048576<a0.size)=φ:=decide_eq_false (by omega)
  clear c7
  by_cases c8:(a2.size:Int) > 1048576
  ·
   rw [if_pos c8] at H
   have c8b0:decide (1048576<(a2.size:Int))=τ:=decide_eq_true c8
   have c8b1:decide (1048576<a2.size)=τ:=decide_eq_true (by omega)
   clear c8
   obtain rfl:=Option.some.inj H
   go_enter Tryz.func3,Tryz.ntmps3
   go_wp2
   go_ret
   exact ⟨by first|rfl|(simp [errW_none,errW_some] <;> rfl)|(simp [*,errW_none,errW_some] <;> rfl),by repeat (first|(with_reducible first|exact HB.out|apply δk|apply δi|apply δj)|exact HB.out)⟩
  ·
   rw [if_neg c8] at H
   have c8b0:decide (1048576<(a2.size:Int))=φ:=decide_eq_false c8
   have c8b1:decide (1048576<a2.size)=φ:=decide_eq_false (by omega)
   clear c8
   by_cases c9:(a3.size:Int) > 1048576
   ·
    rw [if_pos c9] at H
    have c9b0:decide (1048576<(a3.size:Int))=τ:=decide_eq_true c9
    have c9b1:decide (1048576<a3.size)=τ:=decide_eq_true (by omega)
    clear c9
    obtain rfl:=Option.some.inj H
    go_enter Tryz.func3,Tryz.ntmps3
    go_wp2
    go_ret
    exact ⟨by first|rfl|(simp [errW_none,errW_some] <;> rfl)|(simp [*,errW_none,errW_some] <;> rfl),by repeat (first|(with_reducible first|exact HB.out|apply δk|apply δi|apply δj)|exact HB.out)⟩
   ·
    rw [if_neg c9] at H
    have c9b0:decide (1048576<(a3.size:Int))=φ:=decide_eq_false c9
    have c9b1:decide (1048576<a3.size)=φ:=decide_eq_false (by omega)
    clear c9
    by_cases c10:(a4.size:Int) > 1048576
    ·
     rw [if_pos c10] at H
     have c10b0:decide (1048576<(a4.size:Int))=τ:=decide_eq_true c10
     have c10b1:decide (1048576<a4.size)=τ:=decide_eq_true (by omega)
     clear c10
     obtain rfl:=Option.some.inj H
     go_enter Tryz.func3,Tryz.ntmps3
     go_wp2
     go_ret
     exact ⟨by first|rfl|(simp [errW_none,errW_some] <;> rfl)|(simp [*,errW_none,errW_some] <;> rfl),by repeat (first|(with_reducible first|exact HB.out|apply δk|apply δi|apply δj)|exact HB.out)⟩
    ·
     rw [if_neg c10] at H
     have c10b0:decide (1048576<(a4.size:Int))=φ:=decide_eq_false c10
     have c10b1:decide (1048576<a4.size)=φ:=decide_eq_false (by omega)
     clear c10
     replace H:=Option.bind_eq_some_iff.mp H
     obtain ⟨t278,A110,H⟩:=H
     replace H:(if t278<0 then (some τ) else ((laws_toPairS.f k l1).bind fun t279=>((spec_SendTake.f k a0 t279 a2 a3 a4 a5).bind fun bt282=>((laws_toPairS.f k l1).bind fun t287=>((impl_SendTake.f k a0 t287 a2 a3 a4 a5).bind fun bt290=>((laws_eqPairS.f k bt290.1 bt282.1).bind fun t295=>(if t295=τ then (if bt290.2.1.toList=bt282.2.1.toList then (laws_FnExactSendTake.j0 k a0 l1 a2 a3 a4 a5 bt282.1 bt282.2.1 bt282.2.2 t287 bt290.1 bt290.2.1 bt290.2.2 (bt290.2.2 != bt282.2.2)) else (laws_FnExactSendTake.j0 k a0 l1 a2 a3 a4 a5 bt282.1 bt282.2.1 bt282.2.2 t287 bt290.1 bt290.2.1 bt290.2.2 τ)) else (laws_FnExactSendTake.j0 k a0 l1 a2 a3 a4 a5 bt282.1 bt282.2.1 bt282.2.2 t287 bt290.1 bt290.2.1 bt290.2.2 τ))))))))=some r:=H
     have A11:=ζa A110
     clear A110
     by_cases c12:t278<0
     ·
      rw [if_pos c12] at H
      have c12b0:decide (t278<0)=τ:=decide_eq_true c12
      clear c12
      obtain rfl:=Option.some.inj H
      go_enter Tryz.func3,Tryz.ntmps3
      go_wp2_with (first|((with_reducible refine δv (f:=14) rfl ?_);refine goesL_ (some 41) rfl rfl Tryz.func14 (by kernel_rfl) rfl #[.slice A1 l1.length c1,.int .i64 1048576] rfl (by (try simp only [δd,δe,δf]);first|done|rfl|(simp only [δg,δh];rfl)) ?_;(with_reducible refine (laws_szPairS.calls k _ _ l1 1048576 t278 _ ?side1 ?side2 A11.out).mono ?_);(case side1=>repeat (first|exact HR1.out|(with_reducible refine Kd.C_alloc ?_ _)|(with_reducible refine Kd.C_drewN ?_ _)|(with_reducible refine Kd.C_drew ?_)));(case side2=>exact HC1.out);rintro e w13 ⟨rfl,hb⟩;refine ⟨_,rfl,?_⟩;have n0_:=ζa (δr (by repeat (first|(with_reducible first|exact HB.out|apply δk|apply δi|apply δj)|exact HB.out)) hb);clear HB;have HB:=n0_;clear n0_;(try clear hb);(try clear hb2);(try clear hk);(try clear hi)))
      go_ret
      exact ⟨by first|rfl|(simp [errW_none,errW_some] <;> rfl)|(simp [*,errW_none,errW_some] <;> rfl),by repeat (first|(with_reducible first|exact HB.out|apply δk|apply δi|apply δj)|exact HB.out)⟩
     ·
      rw [if_neg c12] at H
      have c12b0:decide (t278<0)=φ:=decide_eq_false c12
      clear c12
      replace H:=Option.bind_eq_some_iff.mp H
      obtain ⟨t279,A140,H⟩:=H
      replace H:((spec_SendTake.f k a0 t279 a2 a3 a4 a5).bind fun bt282=>((laws_toPairS.f k l1).bind fun t287=>((impl_SendTake.f k a0 t287 a2 a3 a4 a5).bind fun bt290=>((laws_eqPairS.f k bt290.1 bt282.1).bind fun t295=>(if t295=τ then (if bt290.2.1.toList=bt282.2.1.toList then (laws_FnExactSendTake.j0 k a0 l1 a2 a3 a4 a5 bt282.1 bt282.2.1 bt282.2.2 t287 bt290.1 bt290.2.1 bt290.2.2 (bt290.2.2 != bt282.2.2)) else (laws_FnExactSendTake.j0 k a0 l1 a2 a3 a4 a5 bt282.1 bt282.2.1 bt282.2.2 t287 bt290.1 bt290.2.1 bt290.2.2 τ)) else (laws_FnExactSendTake.j0 k a0 l1 a2 a3 a4 a5 bt282.1 bt282.2.1 bt282.2.2 t287 bt290.1 bt290.2.1 bt290.2.2 τ))))))=some r:=H
      have A14:=ζa A140
      clear A140
      replace H:=Option.bind_eq_some_iff.mp H
      obtain ⟨⟨t282,t283,t284⟩,A150,H⟩:=H
      replace H:((laws_toPairS.f k l1).bind fun t287=>((impl_SendTake.f k a0 t287 a2 a3 a4 a5).bind fun bt290=>((laws_eqPairS.f k bt290.1 t282).bind fun t295=>(if t295=τ then (if bt290.2.1.toList=t283.toList then (laws_FnExactSendTake.j0 k a0 l1 a2 a3 a4 a5 t282 t283 t284 t287 bt290.1 bt290.2.1 bt290.2.2 (bt290.2.2 != t284)) else (laws_FnExactSendTake.j0 k a0 l1 a2 a3 a4 a5 t282 t283 t284 t287 bt290.1 bt290.2.1 bt290.2.2 τ)) else (laws_FnExactSendTake.j0 k a0 l1 a2 a3 a4 a5 t282 t283 t284 t287 bt290.1 bt290.2.1 bt290.2.2 τ)))))=some r:=H
      have A15:=ζa A150
      clear A150
      replace H:=Option.bind_eq_some_iff.mp H
      obtain ⟨t287,A160,H⟩:=H
      replace H:((impl_SendTake.f k a0 t287 a2 a3 a4 a5).bind fun bt290=>((laws_eqPairS.f k bt290.1 t282).bind fun t295=>(if t295=τ then (if bt290.2.1.toList=t283.toList then (laws_FnExactSendTake.j0 k a0 l1 a2 a3 a4 a5 t282 t283 t284 t287 bt290.1 bt290.2.1 bt290.2.2 (bt290.2.2 != t284)) else (laws_FnExactSendTake.j0 k a0 l1 a2 a3 a4 a5 t282 t283 t284 t287 bt290.1 bt290.2.1 bt290.2.2 τ)) else (laws_FnExactSendTake.j0 k a0 l1 a2 a3 a4 a5 t282 t283 t284 t287 bt290.1 bt290.2.1 bt290.2.2 τ))))=some r:=H
      have A16:=ζa A160
      clear A160
      replace H:=Option.bind_eq_some_iff.mp H
      obtain ⟨⟨t290,t291,t292⟩,A170,H⟩:=H
      replace H:((laws_eqPairS.f k t290 t282).bind fun t295=>(if t295=τ then (if t291.toList=t283.toList then (laws_FnExactSendTake.j0 k a0 l1 a2 a3 a4 a5 t282 t283 t284 t287 t290 t291 t292 (t292 != t284)) else (laws_FnExactSendTake.j0 k a0 l1 a2 a3 a4 a5 t282 t283 t284 t287 t290 t291 t292 τ)) else (laws_FnExactSendTake.j0 k a0 l1 a2 a3 a4 a5 t282 t283 t284 t287 t290 t291 t292 τ)))=some r:=H
      have A17:=ζa A170
      clear A170
      have HC18:=ζa H
      clear H
      go_enter Tryz.func3,Tryz.ntmps3
      go_upto_region 16 with (first|((with_reducible refine δv (f:=14) rfl ?_);refine goesL_ (some 41) rfl rfl Tryz.func14 (by kernel_rfl) rfl #[.slice A1 l1.length c1,.int .i64 1048576] rfl (by (try simp only [δd,δe,δf]);first|done|rfl|(simp only [δg,δh];rfl)) ?_;(with_reducible refine (laws_szPairS.calls k _ _ l1 1048576 t278 _ ?side1 ?side2 A11.out).mono ?_);(case side1=>repeat (first|exact HR1.out|(with_reducible refine Kd.C_alloc ?_ _)|(with_reducible refine Kd.C_drewN ?_ _)|(with_reducible refine Kd.C_drew ?_)));(case side2=>exact HC1.out);rintro e w19 ⟨rfl,hb⟩;refine ⟨_,rfl,?_⟩;have n0_:=ζa (δr (by repeat (first|(with_reducible first|exact HB.out|apply δk|apply δi|apply δj)|exact HB.out)) hb);clear HB;have HB:=n0_;clear n0_;(try clear hb);(try clear hb2);(try clear hk);(try clear hi))|((with_reducible refine δv (f:=16) rfl ?_);refine goesL_ (some 47) rfl rfl Tryz.func16 (by kernel_rfl) rfl #[.slice A1 l1.length c1] rfl (by (try simp only [δd,δe,δf]);first|done|rfl|(simp only [δg,δh];rfl)) ?_;(with_reducible refine (laws_toPairS.calls k _ _ l1 t279 _ ?side1 ?side2 A14.out).mono ?_);(case side1=>repeat (first|exact (Kd.C_below HR1.out HB.out)|(with_reducible refine Kd.C_alloc ?_ _)|(with_reducible refine Kd.C_drewN ?_ _)|(with_reducible refine Kd.C_drew ?_)));(case side2=>exact HC1.out);rintro e w20 ⟨v280,rfl,ho0,hb⟩;refine ⟨_,rfl,?_⟩;have n0_:=ζa (Kd.R_lower ho0 (δs (by repeat (first|(with_reducible first|exact HB.out|apply δk|apply δi|apply δj)|exact HB.out))));have n1_:=ζa (δr (by repeat (first|(with_reducible first|exact HB.out|apply δk|apply δi|apply δj)|exact HB.out)) hb);clear HB;have HO281:=n0_;have HB:=n1_;clear n0_ n1_;(try clear hb);(try clear hb2);(try clear hk);(try clear hi);(try clear ho0);obtain ⟨Ao21,co21,eo21⟩:=Kd.R_slice HO281.out;subst eo21)|((with_reducible refine δv (f:=15) rfl ?_);refine goesL_ (some 52) rfl rfl Tryz.func15 (by kernel_rfl) rfl #[.string a0,.slice Ao21 t279.length co21,.string a2,.string a3,.string a4,.int .i64 a5] rfl (by (try simp only [δd,δe,δf]);first|done|rfl|(simp only [δg,δh];rfl)) ?_;(with_reducible refine (spec_SendTake.calls k a0 _ _ t279 a2 a3 a4 a5 t282 t283 t284 _ ?side1 ?side2 A15.out).mono ?_);(case side1=>repeat (first|exact (ζg HO281.out).2.2|(with_reducible refine Kd.C_alloc ?_ _)|(with_reducible refine Kd.C_drewN ?_ _)|(with_reducible refine Kd.C_drew ?_)));(case side2=>exact (ζg HO281.out).2.1);rintro e w22 ⟨v285,rfl,ho0,hb⟩;refine ⟨_,rfl,?_⟩;have n0_:=ζa (Kd.R_elder' (by (with_reducible repeat (first|apply ζd|apply ζc|apply ζe));exact HO281.out) (Kd.R_base ho0) hb);have n1_:=ζa (Kd.R_lower (Kd.R_new' ho0 (Kd.R_lt (by (with_reducible repeat (first|apply ζd|apply ζc|apply ζe));exact HO281.out))) (δs (by repeat (first|(with_reducible first|exact HB.out|apply δk|apply δi|apply δj)|exact HB.out))));have n2_:=ζa (δr (by repeat (first|(with_reducible first|exact HB.out|apply δk|apply δi|apply δj)|exact HB.out)) hb);clear HO281;clear HB;have HO281:=n0_;have HO286:=n1_;have HB:=n2_;clear n0_ n1_ n2_;(try clear hb);(try clear hb2);(try clear hk);(try clear hi);(try clear ho0))|((with_reducible refine δv (f:=16) rfl ?_);refine goesL_ (some 57) rfl rfl Tryz.func16 (by kernel_rfl) rfl #[.slice A1 l1.length c1] rfl (by (try simp only [δd,δe,δf]);first|done|rfl|(simp only [δg,δh];rfl)) ?_;(with_reducible refine (laws_toPairS.calls k _ _ l1 t287 _ ?side1 ?side2 A16.out).mono ?_);(case side1=>repeat (first|exact (Kd.C_below HR1.out HB.out)|(with_reducible refine Kd.C_alloc ?_ _)|(with_reducible refine Kd.C_drewN ?_ _)|(with_reducible refine Kd.C_drew ?_)));(case side2=>exact HC1.out);rintro e w23 ⟨v288,rfl,ho0,hb⟩;refine ⟨_,rfl,?_⟩;have n0_:=ζa (Kd.R_elder' (by (with_reducible repeat (first|apply ζd|apply ζc|apply ζe));exact HO281.out) (Kd.R_base ho0) hb);have n1_:=ζa (Kd.R_elder' (by (with_reducible repeat (first|apply ζd|apply ζc|apply ζe));exact HO286.out) (Kd.R_base ho0) hb);have n2_:=ζa (Kd.R_lower (Kd.R_new' (Kd.R_new' ho0 (Kd.R_lt (by (with_reducible repeat (first|apply ζd|apply ζc|apply ζe));exact HO281.out))) (Kd.R_lt (by (with_reducible repeat (first|apply ζd|apply ζc|apply ζe));exact HO286.out))) (δs (by repeat (first|(with_reducible first|exact HB.out|apply δk|apply δi|apply δj)|exact HB.out))));have n3_:=ζa (δr (by repeat (first|(with_reducible first|exact HB.out|apply δk|apply δi|apply δj)|exact HB.out)) hb);clear HO281;clear HO286;clear HB;have HO281:=n0_;have HO286:=n1_;have HO289:=n2_;have HB:=n3_;clear n0_ n1_ n2_ n3_;(try clear hb);(try clear hb2);(try clear hk);(try clear hi);(try clear ho0);obtain ⟨Ao24,co24,eo24⟩:=Kd.R_slice HO289.out;subst eo24)|((with_reducible refine δv (f:=17) rfl ?_);refine goesL_ (some 65) rfl rfl Tryz.func17 (by kernel_rfl) rfl #[.string a0,.slice Ao24 t287.length co24,.string a2,.string a3,.string a4,.int .i64 a5] rfl (by (try simp only [δd,δe,δf]);first|done|rfl|(simp only [δg,δh];rfl)) ?_;(with_reducible refine (impl_SendTake.calls k a0 _ _ t287 a2 a3 a4 a5 t290 t291 t292 _ ?side1 ?side2 (HT0.out.below (by repeat (first|(with_reducible first|exact HB.out|apply δk|apply δi|apply δj)|exact HB.out))) A17.out).mono ?_);(case side1=>repeat (first|exact (ζg HO289.out).2.2|(with_reducible refine Kd.C_alloc ?_ _)|(with_reducible refine Kd.C_drewN ?_ _)|(with_reducible refine Kd.C_drew ?_)));(case side2=>exact (ζg HO289.out).2.1);rintro e w25 ⟨v293,rfl,ho0,hb⟩;refine ⟨_,rfl,?_⟩;have n0_:=ζa (Kd.R_elder' (by (with_reducible repeat (first|apply ζd|apply ζc|apply ζe));exact HO281.out) (Kd.R_base ho0) hb);have n1_:=ζa (Kd.R_elder' (by (with_reducible repeat (first|apply ζd|apply ζc|apply ζe));exact HO286.out) (Kd.R_base ho0) hb);have n2_:=ζa (Kd.R_elder' (by (with_reducible repeat (first|apply ζd|apply ζc|apply ζe));exact HO289.out) (Kd.R_base ho0) hb);have n3_:=ζa (Kd.R_lower (Kd.R_new' (Kd.R_new' (Kd.R_new' ho0 (Kd.R_lt (by (with_reducible repeat (first|apply ζd|apply ζc|apply ζe));exact HO281.out))) (Kd.R_lt (by (with_reducible repeat (first|apply ζd|apply ζc|apply ζe));exact HO286.out))) (Kd.R_lt (by (with_reducible repeat (first|apply ζd|apply ζc|apply ζe));exact HO289.out))) (δs (by repeat (first|(with_reducible first|exact HB.out|apply δk|apply δi|apply δj)|exact HB.out))));have n4_:=ζa (δr (by repeat (first|(with_reducible first|exact HB.out|apply δk|apply δi|apply δj)|exact HB.out)) hb);clear HO281;clear HO286;clear HO289;clear HB;have HO281:=n0_;have HO286:=n1_;have HO289:=n2_;have HO294:=n3_;have HB:=n4_;clear n0_ n1_ n2_ n3_ n4_;(try clear hb);(try clear hb2);(try clear hk);(try clear hi);(try clear ho0)))
      (try simp only [ζl,δa,δb,δc])
      go_cut [82] (fun v82 wc => ∃ (kq:Nat) (x82_17:Bool),v82 = .bool x82_17∧Aside0 (laws_FnExactSendTake.j0 kq a0 l1 a2 a3 a4 a5 t282 t283 t284 t287 t290 t291 t292 x82_17=some r)∧Aside0 (kq≤k)∧Aside0 (Kd.R k51 51 wc w.heap.size (fun k_=>some k_≠((.slice Ao24 t287.length co24):Value).ownBlock∧some k_≠(v293:Value).ownBlock) v285 t282)∧Aside0 (Kd.R k51 51 wc w.heap.size (fun k_=>some k_≠(v285:Value).ownBlock∧some k_≠(v293:Value).ownBlock) (.slice Ao24 t287.length co24) t287)∧Aside0 (Kd.R k51 51 wc w.heap.size (fun k_=>some k_≠(v285:Value).ownBlock∧some k_≠((.slice Ao24 t287.length co24):Value).ownBlock) v293 t290)∧Aside0 (Below w.heap.size w wc))
      case first =>
       have H:=HC18.out
       clear HC18
       replace H:=Option.bind_eq_some_iff.mp H
       obtain ⟨t295,A260,H⟩:=H
       replace H:(if t295=τ then (if t291.toList=t283.toList then (laws_FnExactSendTake.j0 k a0 l1 a2 a3 a4 a5 t282 t283 t284 t287 t290 t291 t292 (t292 != t284)) else (laws_FnExactSendTake.j0 k a0 l1 a2 a3 a4 a5 t282 t283 t284 t287 t290 t291 t292 τ)) else (laws_FnExactSendTake.j0 k a0 l1 a2 a3 a4 a5 t282 t283 t284 t287 t290 t291 t292 τ))=some r:=H
       have A26:=ζa A260
       clear A260
       by_cases c27:t295=τ
       ·
        subst c27
        have H1:(if t291.toList=t283.toList then (laws_FnExactSendTake.j0 k a0 l1 a2 a3 a4 a5 t282 t283 t284 t287 t290 t291 t292 (t292 != t284)) else (laws_FnExactSendTake.j0 k a0 l1 a2 a3 a4 a5 t282 t283 t284 t287 t290 t291 t292 τ))=some r:=by rw [if_pos rfl] at H;exact H
        clear H
        have H:=H1
        clear H1
        by_cases c28:t291.toList=t283.toList
        ·
         rw [if_pos c28] at H
         have c28b0:(t291.toList == t283.toList)=τ:=beq_iff_eq.mpr c28
         have c28b1:(t291.toList != t283.toList)=φ:=bne_eq_false_iff_eq.mpr c28
         clear c28
         (first|rw [c28b0]|(simp only [i64_w,i32_w];rw [c28b0])|skip)
         have H':=ζa H
         clear H
         obtain ⟨Ao29,co29,eo29⟩:=Kd.R_slice HO294.out
         subst eo29
         obtain ⟨Ao30,co30,eo30⟩:=Kd.R_slice HO286.out
         subst eo30
         go_wp2_with (first|((with_reducible refine δv (f:=18) rfl ?_);refine goesL_ (some 71) rfl rfl Tryz.func18 (by kernel_rfl) rfl #[.slice Ao29 t290.length co29,.slice Ao30 t282.length co30] rfl (by (try simp only [δd,δe,δf]);first|done|rfl|(simp only [δg,δh];rfl)) ?_;(with_reducible refine (laws_eqPairS.calls k _ _ t290 _ _ t282 τ _ ?side1 ?side2 ?side3 ?side4 A26.out).mono ?_);(case side1=>repeat (first|exact (ζg HO294.out).2.2|(with_reducible refine Kd.C_alloc ?_ _)|(with_reducible refine Kd.C_drewN ?_ _)|(with_reducible refine Kd.C_drew ?_)));(case side2=>exact (ζg HO294.out).2.1);(case side3=>repeat (first|exact (ζg HO286.out).2.2|(with_reducible refine Kd.C_alloc ?_ _)|(with_reducible refine Kd.C_drewN ?_ _)|(with_reducible refine Kd.C_drew ?_)));(case side4=>exact (ζg HO286.out).2.1);rintro e w31 ⟨rfl,hb⟩;refine ⟨_,rfl,?_⟩;have n0_:=ζa (ζh (by (with_reducible repeat (first|apply ζd|apply ζc|apply ζe));exact HO281.out) hb);have n1_:=ζa (ζh (by (with_reducible repeat (first|apply ζd|apply ζc|apply ζe));exact HO286.out) hb);have n2_:=ζa (ζh (by (with_reducible repeat (first|apply ζd|apply ζc|apply ζe));exact HO289.out) hb);have n3_:=ζa (ζh (by (with_reducible repeat (first|apply ζd|apply ζc|apply ζe));exact HO294.out) hb);have n4_:=ζa (δr (by repeat (first|(with_reducible first|exact HB.out|apply δk|apply δi|apply δj)|exact HB.out)) hb);clear HO281;clear HO286;clear HO289;clear HO294;clear HB;have HO281:=n0_;have HO286:=n1_;have HO289:=n2_;have HO294:=n3_;have HB:=n4_;clear n0_ n1_ n2_ n3_ n4_;(try clear hb);(try clear hb2);(try clear hk);(try clear hi)))
         go_meet
         case rel=>exact ⟨_,((t292 != t284)),(by first|rfl|(simp;done)|(simp [*];done)),H',⟨by first|omega|exact Nat.le_refl _⟩,⟨by (with_reducible repeat (first|apply ζd|apply ζc|apply ζe));exact Kd.R_mono HO286.out (fun _ hk=>⟨hk.1.2,hk.2⟩)⟩,⟨by (with_reducible repeat (first|apply ζd|apply ζc|apply ζe));exact Kd.R_mono HO289.out (fun _ hk=>⟨hk.1.2,hk.2⟩)⟩,⟨by (with_reducible repeat (first|apply ζd|apply ζc|apply ζe));exact Kd.R_mono HO294.out (fun _ hk=>⟨hk.1.2,hk.2⟩)⟩,⟨by repeat (first|(with_reducible first|exact HB.out|apply δk|apply δi|apply δj)|exact HB.out)⟩⟩
        ·
         rw [if_neg c28] at H
         have c28b0:(t291.toList == t283.toList)=φ:=beq_eq_false_iff_ne.mpr c28
         have c28b1:(t291.toList != t283.toList)=τ:=bne_iff_ne.mpr c28
         (first|rw [c28b0]|(simp only [i64_w,i32_w];rw [c28b0])|skip)
         have H':=ζa H
         clear H
         obtain ⟨Ao32,co32,eo32⟩:=Kd.R_slice HO294.out
         subst eo32
         obtain ⟨Ao33,co33,eo33⟩:=Kd.R_slice HO286.out
         subst eo33
         go_wp2_with (first|((with_reducible refine δv (f:=18) rfl ?_);refine goesL_ (some 71) rfl rfl Tryz.func18 (by kernel_rfl) rfl #[.slice Ao32 t290.length co32,.slice Ao33 t282.length co33] rfl (by (try simp only [δd,δe,δf]);first|done|rfl|(simp only [δg,δh];rfl)) ?_;(with_reducible refine (laws_eqPairS.calls k _ _ t290 _ _ t282 τ _ ?side1 ?side2 ?side3 ?side4 A26.out).mono ?_);(case side1=>repeat (first|exact (ζg HO294.out).2.2|(with_reducible refine Kd.C_alloc ?_ _)|(with_reducible refine Kd.C_drewN ?_ _)|(with_reducible refine Kd.C_drew ?_)));(case side2=>exact (ζg HO294.out).2.1);(case side3=>repeat (first|exact (ζg HO286.out).2.2|(with_reducible refine Kd.C_alloc ?_ _)|(with_reducible refine Kd.C_drewN ?_ _)|(with_reducible refine Kd.C_drew ?_)));(case side4=>exact (ζg HO286.out).2.1);rintro e w34 ⟨rfl,hb⟩;refine ⟨_,rfl,?_⟩;have n0_:=ζa (ζh (by (with_reducible repeat (first|apply ζd|apply ζc|apply ζe));exact HO281.out) hb);have n1_:=ζa (ζh (by (with_reducible repeat (first|apply ζd|apply ζc|apply ζe));exact HO286.out) hb);have n2_:=ζa (ζh (by (with_reducible repeat (first|apply ζd|apply ζc|apply ζe));exact HO289.out) hb);have n3_:=ζa (ζh (by (with_reducible repeat (first|apply ζd|apply ζc|apply ζe));exact HO294.out) hb);have n4_:=ζa (δr (by repeat (first|(with_reducible first|exact HB.out|apply δk|apply δi|apply δj)|exact HB.out)) hb);clear HO281;clear HO286;clear HO289;clear HO294;clear HB;have HO281:=n0_;have HO286:=n1_;have HO289:=n2_;have HO294:=n3_;have HB:=n4_;clear n0_ n1_ n2_ n3_ n4_;(try clear hb);(try clear hb2);(try clear hk);(try clear hi)))
         go_meet
         case rel=>exact ⟨_,(τ),(by first|rfl|(simp;done)|(simp [*];done)),H',⟨by first|omega|exact Nat.le_refl _⟩,⟨by (with_reducible repeat (first|apply ζd|apply ζc|apply ζe));exact Kd.R_mono HO286.out (fun _ hk=>⟨hk.1.2,hk.2⟩)⟩,⟨by (with_reducible repeat (first|apply ζd|apply ζc|apply ζe));exact Kd.R_mono HO289.out (fun _ hk=>⟨hk.1.2,hk.2⟩)⟩,⟨by (with_reducible repeat (first|apply ζd|apply ζc|apply ζe));exact Kd.R_mono HO294.out (fun _ hk=>⟨hk.1.2,hk.2⟩)⟩,⟨by repeat (first|(with_reducible first|exact HB.out|apply δk|apply δi|apply δj)|exact HB.out)⟩⟩
       ·
        replace c27:=Bool.eq_false_iff.mpr c27
        subst c27
        have H1:(laws_FnExactSendTake.j0 k a0 l1 a2 a3 a4 a5 t282 t283 t284 t287 t290 t291 t292 τ)=some r:=by rw [if_neg (show ¬ (φ=τ) by decide)] at H;exact H
        clear H
        have H:=H1
        clear H1
        have H':=ζa H
        clear H
        obtain ⟨Ao35,co35,eo35⟩:=Kd.R_slice HO294.out
        subst eo35
        obtain ⟨Ao36,co36,eo36⟩:=Kd.R_slice HO286.out
        subst eo36
        go_wp2_with (first|((with_reducible refine δv (f:=18) rfl ?_);refine goesL_ (some 71) rfl rfl Tryz.func18 (by kernel_rfl) rfl #[.slice Ao35 t290.length co35,.slice Ao36 t282.length co36] rfl (by (try simp only [δd,δe,δf]);first|done|rfl|(simp only [δg,δh];rfl)) ?_;(with_reducible refine (laws_eqPairS.calls k _ _ t290 _ _ t282 φ _ ?side1 ?side2 ?side3 ?side4 A26.out).mono ?_);(case side1=>repeat (first|exact (ζg HO294.out).2.2|(with_reducible refine Kd.C_alloc ?_ _)|(with_reducible refine Kd.C_drewN ?_ _)|(with_reducible refine Kd.C_drew ?_)));(case side2=>exact (ζg HO294.out).2.1);(case side3=>repeat (first|exact (ζg HO286.out).2.2|(with_reducible refine Kd.C_alloc ?_ _)|(with_reducible refine Kd.C_drewN ?_ _)|(with_reducible refine Kd.C_drew ?_)));(case side4=>exact (ζg HO286.out).2.1);rintro e w37 ⟨rfl,hb⟩;refine ⟨_,rfl,?_⟩;have n0_:=ζa (ζh (by (with_reducible repeat (first|apply ζd|apply ζc|apply ζe));exact HO281.out) hb);have n1_:=ζa (ζh (by (with_reducible repeat (first|apply ζd|apply ζc|apply ζe));exact HO286.out) hb);have n2_:=ζa (ζh (by (with_reducible repeat (first|apply ζd|apply ζc|apply ζe));exact HO289.out) hb);have n3_:=ζa (ζh (by (with_reducible repeat (first|apply ζd|apply ζc|apply ζe));exact HO294.out) hb);have n4_:=ζa (δr (by repeat (first|(with_reducible first|exact HB.out|apply δk|apply δi|apply δj)|exact HB.out)) hb);clear HO281;clear HO286;clear HO289;clear HO294;clear HB;have HO281:=n0_;have HO286:=n1_;have HO289:=n2_;have HO294:=n3_;have HB:=n4_;clear n0_ n1_ n2_ n3_ n4_;(try clear hb);(try clear hb2);(try clear hk);(try clear hi)))
        go_meet
        case rel=>exact ⟨_,(τ),(by first|rfl|(simp;done)|(simp [*];done)),H',⟨by first|omega|exact Nat.le_refl _⟩,⟨by (with_reducible repeat (first|apply ζd|apply ζc|apply ζe));exact Kd.R_mono HO286.out (fun _ hk=>⟨hk.1.2,hk.2⟩)⟩,⟨by (with_reducible repeat (first|apply ζd|apply ζc|apply ζe));exact Kd.R_mono HO289.out (fun _ hk=>⟨hk.1.2,hk.2⟩)⟩,⟨by (with_reducible repeat (first|apply ζd|apply ζc|apply ζe));exact Kd.R_mono HO294.out (fun _ hk=>⟨hk.1.2,hk.2⟩)⟩,⟨by repeat (first|(with_reducible first|exact HB.out|apply δk|apply δi|apply δj)|exact HB.out)⟩⟩
      case rest =>
       clear HC18
       try clear c1
       try clear c2
       try clear p2
       try clear c3
       try clear c7
       try clear c7b0
       try clear c7b1
       try clear c8
       try clear c8b0
       try clear c8b1
       try clear c9
       try clear c9b0
       try clear c9b1
       try clear c10
       try clear c10b0
       try clear c10b1
       try clear c12
       try clear c12b0
       try clear c14
       try clear c15
       try clear c16
       try clear c17
       try clear c18
       try clear c27
       try clear c28
       try clear c28b0
       try clear c28b1
       obtain ⟨kq,x82_17,rfl,HA,HJ17,HO_14,HO_17,HO_18,HB⟩:=hcut
       cases kq with
       | zero=>exact absurd HA.out (by simp [laws_FnExactSendTake.j0])
       | succ kj17 =>
        have H:=HA.out
        clear HA
        simp only [laws_FnExactSendTake.j0] at H
        by_cases c38:x82_17=τ
        ·
         subst c38
         have H1:(some φ)=some r:=by rw [if_pos rfl] at H;exact H
         clear H
         have H:=H1
         clear H1
         obtain rfl:=Option.some.inj H
         go_wp2
         go_ret
         exact ⟨by first|rfl|(simp [errW_none,errW_some] <;> rfl)|(simp [*,errW_none,errW_some] <;> rfl),by repeat (first|(with_reducible first|exact HB.out|apply δk|apply δi|apply δj)|exact HB.out)⟩
        ·
         replace c38:=Bool.eq_false_iff.mpr c38
         subst c38
         have H1:((laws_toPairS.f kj17 l1).bind fun t296=>((laws_eqPairS.f kj17 t287 t296).bind fun t299=>(if t299=τ then ((laws_markPairS.f kj17 t287 1).bind fun bt300=>(if bt300.1<0 then (laws_FnExactSendTake.j1 kj17 a0 l1 a2 a3 a4 a5 t282 t283 t284 t290 τ) else ((laws_eqPairS.f kj17 t290 t282).bind fun t302=>(if t302=τ then (if t291.toList=t283.toList then (laws_FnExactSendTake.j1 kj17 a0 l1 a2 a3 a4 a5 t282 t283 t284 t290 (t292 != t284)) else (laws_FnExactSendTake.j1 kj17 a0 l1 a2 a3 a4 a5 t282 t283 t284 t290 τ)) else (laws_FnExactSendTake.j1 kj17 a0 l1 a2 a3 a4 a5 t282 t283 t284 t290 τ))))) else (some φ))))=some r:=by rw [if_neg (show ¬ (φ=τ) by decide)] at H;exact H
         clear H
         have H:=H1
         clear H1
         replace H:=Option.bind_eq_some_iff.mp H
         obtain ⟨t296,A390,H⟩:=H
         replace H:((laws_eqPairS.f kj17 t287 t296).bind fun t299=>(if t299=τ then ((laws_markPairS.f kj17 t287 1).bind fun bt300=>(if bt300.1<0 then (laws_FnExactSendTake.j1 kj17 a0 l1 a2 a3 a4 a5 t282 t283 t284 t290 τ) else ((laws_eqPairS.f kj17 t290 t282).bind fun t302=>(if t302=τ then (if t291.toList=t283.toList then (laws_FnExactSendTake.j1 kj17 a0 l1 a2 a3 a4 a5 t282 t283 t284 t290 (t292 != t284)) else (laws_FnExactSendTake.j1 kj17 a0 l1 a2 a3 a4 a5 t282 t283 t284 t290 τ)) else (laws_FnExactSendTake.j1 kj17 a0 l1 a2 a3 a4 a5 t282 t283 t284 t290 τ))))) else (some φ)))=some r:=H
         have A39:=ζa A390
         clear A390
         replace H:=Option.bind_eq_some_iff.mp H
         obtain ⟨t299,A400,H⟩:=H
         replace H:(if t299=τ then ((laws_markPairS.f kj17 t287 1).bind fun bt300=>(if bt300.1<0 then (laws_FnExactSendTake.j1 kj17 a0 l1 a2 a3 a4 a5 t282 t283 t284 t290 τ) else ((laws_eqPairS.f kj17 t290 t282).bind fun t302=>(if t302=τ then (if t291.toList=t283.toList then (laws_FnExactSendTake.j1 kj17 a0 l1 a2 a3 a4 a5 t282 t283 t284 t290 (t292 != t284)) else (laws_FnExactSendTake.j1 kj17 a0 l1 a2 a3 a4 a5 t282 t283 t284 t290 τ)) else (laws_FnExactSendTake.j1 kj17 a0 l1 a2 a3 a4 a5 t282 t283 t284 t290 τ))))) else (some φ))=some r:=H
         have A40:=ζa A400
         clear A400
         by_cases c41:t299=τ
         ·
          subst c41
          have H1:((laws_markPairS.f kj17 t287 1).bind fun bt300=>(if bt300.1<0 then (laws_FnExactSendTake.j1 kj17 a0 l1 a2 a3 a4 a5 t282 t283 t284 t290 τ) else ((laws_eqPairS.f kj17 t290 t282).bind fun t302=>(if t302=τ then (if t291.toList=t283.toList then (laws_FnExactSendTake.j1 kj17 a0 l1 a2 a3 a4 a5 t282 t283 t284 t290 (t292 != t284)) else (laws_FnExactSendTake.j1 kj17 a0 l1 a2 a3 a4 a5 t282 t283 t284 t290 τ)) else (laws_FnExactSendTake.j1 kj17 a0 l1 a2 a3 a4 a5 t282 t283 t284 t290 τ)))))=some r:=by rw [if_pos rfl] at H;exact H
          clear H
          have H:=H1
          clear H1
          replace H:=Option.bind_eq_some_iff.mp H
          obtain ⟨⟨t300,t301⟩,A420,H⟩:=H
          replace H:(if t300<0 then (laws_FnExactSendTake.j1 kj17 a0 l1 a2 a3 a4 a5 t282 t283 t284 t290 τ) else ((laws_eqPairS.f kj17 t290 t282).bind fun t302=>(if t302=τ then (if t291.toList=t283.toList then (laws_FnExactSendTake.j1 kj17 a0 l1 a2 a3 a4 a5 t282 t283 t284 t290 (t292 != t284)) else (laws_FnExactSendTake.j1 kj17 a0 l1 a2 a3 a4 a5 t282 t283 t284 t290 τ)) else (laws_FnExactSendTake.j1 kj17 a0 l1 a2 a3 a4 a5 t282 t283 t284 t290 τ))))=some r:=H
          have A42:=ζa A420
          clear A420
          have HC43:=ζa H
          clear H
          go_upto_region 22 with (first|((with_reducible refine δv (f:=16) rfl ?_);refine goesL_ (some 85) rfl rfl Tryz.func16 (by kernel_rfl) rfl #[.slice A1 l1.length c1] rfl (by (try simp only [δd,δe,δf]);first|done|rfl|(simp only [δg,δh];rfl)) ?_;(with_reducible refine (laws_toPairS.calls kj17 _ _ l1 t296 _ ?side1 ?side2 A39.out).mono ?_);(case side1=>repeat (first|exact (Kd.C_below HR1.out HB.out)|(with_reducible refine Kd.C_alloc ?_ _)|(with_reducible refine Kd.C_drewN ?_ _)|(with_reducible refine Kd.C_drew ?_)));(case side2=>exact HC1.out);rintro e w44 ⟨v297,rfl,ho0,hb⟩;refine ⟨_,rfl,?_⟩;have n0_:=ζa (Kd.R_elder' (by (with_reducible repeat (first|apply ζd|apply ζc|apply ζe));exact HO_14.out) (Kd.R_base ho0) hb);have n1_:=ζa (Kd.R_elder' (by (with_reducible repeat (first|apply ζd|apply ζc|apply ζe));exact HO_17.out) (Kd.R_base ho0) hb);have n2_:=ζa (Kd.R_elder' (by (with_reducible repeat (first|apply ζd|apply ζc|apply ζe));exact HO_18.out) (Kd.R_base ho0) hb);have n3_:=ζa (Kd.R_lower (Kd.R_new' (Kd.R_new' (Kd.R_new' ho0 (Kd.R_lt (by (with_reducible repeat (first|apply ζd|apply ζc|apply ζe));exact HO_14.out))) (Kd.R_lt (by (with_reducible repeat (first|apply ζd|apply ζc|apply ζe));exact HO_17.out))) (Kd.R_lt (by (with_reducible repeat (first|apply ζd|apply ζc|apply ζe));exact HO_18.out))) (δs (by repeat (first|(with_reducible first|exact HB.out|apply δk|apply δi|apply δj)|exact HB.out))));have n4_:=ζa (δr (by repeat (first|(with_reducible first|exact HB.out|apply δk|apply δi|apply δj)|exact HB.out)) hb);clear HO_14;clear HO_17;clear HO_18;clear HB;have HO_14:=n0_;have HO_17:=n1_;have HO_18:=n2_;have HO298:=n3_;have HB:=n4_;clear n0_ n1_ n2_ n3_ n4_;(try clear hb);(try clear hb2);(try clear hk);(try clear hi);(try clear ho0);obtain ⟨Ao45,co45,eo45⟩:=Kd.R_slice HO298.out;subst eo45)|((with_reducible refine δv (f:=18) rfl ?_);refine goesL_ (some 86) rfl rfl Tryz.func18 (by kernel_rfl) rfl #[.slice Ao24 t287.length co24,.slice Ao45 t296.length co45] rfl (by (try simp only [δd,δe,δf]);first|done|rfl|(simp only [δg,δh];rfl)) ?_;(with_reducible refine (laws_eqPairS.calls kj17 _ _ t287 _ _ t296 τ _ ?side1 ?side2 ?side3 ?side4 A40.out).mono ?_);(case side1=>repeat (first|exact (ζg HO_17.out).2.2|(with_reducible refine Kd.C_alloc ?_ _)|(with_reducible refine Kd.C_drewN ?_ _)|(with_reducible refine Kd.C_drew ?_)));(case side2=>exact (ζg HO_17.out).2.1);(case side3=>repeat (first|exact (ζg HO298.out).2.2|(with_reducible refine Kd.C_alloc ?_ _)|(with_reducible refine Kd.C_drewN ?_ _)|(with_reducible refine Kd.C_drew ?_)));(case side4=>exact (ζg HO298.out).2.1);rintro e w46 ⟨rfl,hb⟩;refine ⟨_,rfl,?_⟩;have n0_:=ζa (ζh (by (with_reducible repeat (first|apply ζd|apply ζc|apply ζe));exact HO_14.out) hb);have n1_:=ζa (ζh (by (with_reducible repeat (first|apply ζd|apply ζc|apply ζe));exact HO_17.out) hb);have n2_:=ζa (ζh (by (with_reducible repeat (first|apply ζd|apply ζc|apply ζe));exact HO_18.out) hb);have n3_:=ζa (ζh (by (with_reducible repeat (first|apply ζd|apply ζc|apply ζe));exact HO298.out) hb);have n4_:=ζa (δr (by repeat (first|(with_reducible first|exact HB.out|apply δk|apply δi|apply δj)|exact HB.out)) hb);clear HO_14;clear HO_17;clear HO_18;clear HO298;clear HB;have HO_14:=n0_;have HO_17:=n1_;have HO_18:=n2_;have HO298:=n3_;have HB:=n4_;clear n0_ n1_ n2_ n3_ n4_;(try clear hb);(try clear hb2);(try clear hk);(try clear hi))|((with_reducible refine δv (f:=19) rfl ?_);refine goesL_ (some 90) rfl rfl Tryz.func19 (by kernel_rfl) rfl #[.slice Ao24 t287.length co24,.int .i64 1] rfl (by (try simp only [δd,δe,δf]);first|done|rfl|(simp only [δg,δh];rfl)) ?_;(with_reducible refine (laws_markPairS.calls kj17 (fun k_=>some k_=(.slice Ao24 t287.length co24:Value).ownBlock) (.slice Ao24 t287.length co24) t287 1 t300 t301 w _ ?side1 ?side2 A42.out).mono ?_);(case side1=>repeat (first|(with_reducible first|exact HB.out|apply δk|apply δi|apply δj)|exact HB.out));(case side2=>exact Kd.R_tight rfl HO_17.out);rintro e w47 ⟨rfl,hy0,hb,hkp⟩;refine ⟨_,rfl,?_⟩;have n0_:=ζa (Kd.R_mono (ok':=fun k_=>some k_≠(.slice Ao24 t287.length co24:Value).ownBlock∧some k_≠(v293:Value).ownBlock∧some k_≠(.slice Ao45 t296.length co45:Value).ownBlock) (Kd.R_keptB (HO_14.out) hkp (fun k_ hk_ hs_=>(hk_.1.1) hs_)) (fun k_ hk_=>⟨hk_.1.1.1,hk_.1.1.2,hk_.1.2⟩));have n1_:=ζa (Kd.R_reok rfl hy0 (fun k_ e_=>HO_17.out.1 k_ e_));have n2_:=ζa (Kd.R_mono (ok':=fun k_=>some k_≠(v285:Value).ownBlock∧some k_≠(.slice Ao24 t287.length co24:Value).ownBlock∧some k_≠(.slice Ao45 t296.length co45:Value).ownBlock) (Kd.R_keptB (HO_18.out) hkp (fun k_ hk_ hs_=>(hk_.1.2) hs_)) (fun k_ hk_=>⟨hk_.1.1.1,hk_.1.1.2,hk_.1.2⟩));have n3_:=ζa (Kd.R_mono (ok':=fun k_=>some k_≠(v285:Value).ownBlock∧some k_≠(.slice Ao24 t287.length co24:Value).ownBlock∧some k_≠(v293:Value).ownBlock) (Kd.R_keptB (HO298.out) hkp (fun k_ hk_ hs_=>(hk_.1.2) hs_)) (fun k_ hk_=>⟨hk_.1.1.1.2,hk_.1.1.2,hk_.1.2⟩));have n4_:=ζa (hb);clear HO_14;clear HO_17;clear HO_18;clear HO298;clear HB;have HO_14:=n0_;have HO_17:=n1_;have HO_18:=n2_;have HO298:=n3_;have HB:=n4_;clear n0_ n1_ n2_ n3_ n4_;(try clear hb);(try clear hkp);(try clear hy0)))
          (try simp only [ζl,δa,δb,δc])
          go_cut [108] (fun v108 wc => ∃ (kq:Nat) (x108_42:Bool),v108 = .bool x108_42∧Aside0 (laws_FnExactSendTake.j1 kq a0 l1 a2 a3 a4 a5 t282 t283 t284 t290 x108_42=some r)∧Aside0 (kq≤kj17)∧Aside0 (Kd.R k51 51 wc w.heap.size (fun k_=>some k_≠(v293:Value).ownBlock) v285 t282)∧Aside0 (Kd.R k51 51 wc w.heap.size (fun k_=>some k_≠(v285:Value).ownBlock) v293 t290)∧Aside0 (Below w.heap.size w wc))
          case first =>
           have H:=HC43.out
           clear HC43
           by_cases c48:t300<0
           ·
            rw [if_pos c48] at H
            have c48b0:decide (t300<0)=τ:=decide_eq_true c48
            clear c48
            (first|rw [c48b0]|(simp only [i64_w,i32_w];rw [c48b0])|skip)
            have H':=ζa H
            clear H
            go_wp2
            go_meet
            case rel=>exact ⟨_,(τ),(by first|rfl|(simp;done)|(simp [*];done)),H',⟨by have:=HJ17.out;first|omega|exact Nat.le_refl _⟩,⟨by (with_reducible repeat (first|apply ζd|apply ζc|apply ζe));exact Kd.R_mono HO_14.out (fun _ hk=>hk.2.1)⟩,⟨by (with_reducible repeat (first|apply ζd|apply ζc|apply ζe));exact Kd.R_mono HO_18.out (fun _ hk=>hk.1)⟩,⟨by repeat (first|(with_reducible first|exact HB.out|apply δk|apply δi|apply δj)|exact HB.out)⟩⟩
           ·
            rw [if_neg c48] at H
            have c48b0:decide (t300<0)=φ:=decide_eq_false c48
            clear c48
            (first|rw [c48b0]|(simp only [i64_w,i32_w];rw [c48b0])|skip)
            replace H:=Option.bind_eq_some_iff.mp H
            obtain ⟨t302,A490,H⟩:=H
            replace H:(if t302=τ then (if t291.toList=t283.toList then (laws_FnExactSendTake.j1 kj17 a0 l1 a2 a3 a4 a5 t282 t283 t284 t290 (t292 != t284)) else (laws_FnExactSendTake.j1 kj17 a0 l1 a2 a3 a4 a5 t282 t283 t284 t290 τ)) else (laws_FnExactSendTake.j1 kj17 a0 l1 a2 a3 a4 a5 t282 t283 t284 t290 τ))=some r:=H
            have A49:=ζa A490
            clear A490
            by_cases c50:t302=τ
            ·
             subst c50
             have H1:(if t291.toList=t283.toList then (laws_FnExactSendTake.j1 kj17 a0 l1 a2 a3 a4 a5 t282 t283 t284 t290 (t292 != t284)) else (laws_FnExactSendTake.j1 kj17 a0 l1 a2 a3 a4 a5 t282 t283 t284 t290 τ))=some r:=by rw [if_pos rfl] at H;exact H
             clear H
             have H:=H1
             clear H1
             by_cases c51:t291.toList=t283.toList
             ·
              rw [if_pos c51] at H
              have c51b0:(t291.toList == t283.toList)=τ:=beq_iff_eq.mpr c51
              have c51b1:(t291.toList != t283.toList)=φ:=bne_eq_false_iff_eq.mpr c51
              clear c51
              have H':=ζa H
              clear H
              obtain ⟨Ao52,co52,eo52⟩:=Kd.R_slice HO_18.out
              subst eo52
              obtain ⟨Ao53,co53,eo53⟩:=Kd.R_slice HO_14.out
              subst eo53
              go_wp2_with (first|(go_at_call 18;(with_reducible refine (laws_eqPairS.calls kj17 _ _ t290 _ _ t282 τ _ ?side1 ?side2 ?side3 ?side4 A49.out).mono ?_);(case side1=>repeat (first|exact (ζg HO_18.out).2.2|(with_reducible refine Kd.C_alloc ?_ _)|(with_reducible refine Kd.C_drewN ?_ _)|(with_reducible refine Kd.C_drew ?_)));(case side2=>exact (ζg HO_18.out).2.1);(case side3=>repeat (first|exact (ζg HO_14.out).2.2|(with_reducible refine Kd.C_alloc ?_ _)|(with_reducible refine Kd.C_drewN ?_ _)|(with_reducible refine Kd.C_drew ?_)));(case side4=>exact (ζg HO_14.out).2.1);rintro e w54 ⟨rfl,hb⟩;have n0_:=ζa (ζh (by (with_reducible repeat (first|apply ζd|apply ζc|apply ζe));exact HO_14.out) hb);have n1_:=ζa (ζh (by (with_reducible repeat (first|apply ζd|apply ζc|apply ζe));exact HO_17.out) hb);have n2_:=ζa (ζh (by (with_reducible repeat (first|apply ζd|apply ζc|apply ζe));exact HO_18.out) hb);have n3_:=ζa (ζh (by (with_reducible repeat (first|apply ζd|apply ζc|apply ζe));exact HO298.out) hb);have n4_:=ζa (δr (by repeat (first|(with_reducible first|exact HB.out|apply δk|apply δi|apply δj)|exact HB.out)) hb);clear HO_14;clear HO_17;clear HO_18;clear HO298;clear HB;have HO_14:=n0_;have HO_17:=n1_;have HO_18:=n2_;have HO298:=n3_;have HB:=n4_;clear n0_ n1_ n2_ n3_ n4_;(try clear hb);(try clear hb2);(try clear hk);(try clear hi)))
              go_meet
              case rel=>exact ⟨_,((t292 != t284)),(by first|rfl|(simp;done)|(simp [*];done)),H',⟨by have:=HJ17.out;first|omega|exact Nat.le_refl _⟩,⟨by (with_reducible repeat (first|apply ζd|apply ζc|apply ζe));exact Kd.R_mono HO_14.out (fun _ hk=>hk.2.1)⟩,⟨by (with_reducible repeat (first|apply ζd|apply ζc|apply ζe));exact Kd.R_mono HO_18.out (fun _ hk=>hk.1)⟩,⟨by repeat (first|(with_reducible first|exact HB.out|apply δk|apply δi|apply δj)|exact HB.out)⟩⟩
             ·
              rw [if_neg c51] at H
              have c51b0:(t291.toList == t283.toList)=φ:=beq_eq_false_iff_ne.mpr c51
              have c51b1:(t291.toList != t283.toList)=τ:=bne_iff_ne.mpr c51
              have H':=ζa H
              clear H
              obtain ⟨Ao55,co55,eo55⟩:=Kd.R_slice HO_18.out
              subst eo55
              obtain ⟨Ao56,co56,eo56⟩:=Kd.R_slice HO_14.out
              subst eo56
              go_wp2_with (first|(go_at_call 18;(with_reducible refine (laws_eqPairS.calls kj17 _ _ t290 _ _ t282 τ _ ?side1 ?side2 ?side3 ?side4 A49.out).mono ?_);(case side1=>repeat (first|exact (ζg HO_18.out).2.2|(with_reducible refine Kd.C_alloc ?_ _)|(with_reducible refine Kd.C_drewN ?_ _)|(with_reducible refine Kd.C_drew ?_)));(case side2=>exact (ζg HO_18.out).2.1);(case side3=>repeat (first|exact (ζg HO_14.out).2.2|(with_reducible refine Kd.C_alloc ?_ _)|(with_reducible refine Kd.C_drewN ?_ _)|(with_reducible refine Kd.C_drew ?_)));(case side4=>exact (ζg HO_14.out).2.1);rintro e w57 ⟨rfl,hb⟩;have n0_:=ζa (ζh (by (with_reducible repeat (first|apply ζd|apply ζc|apply ζe));exact HO_14.out) hb);have n1_:=ζa (ζh (by (with_reducible repeat (first|apply ζd|apply ζc|apply ζe));exact HO_17.out) hb);have n2_:=ζa (ζh (by (with_reducible repeat (first|apply ζd|apply ζc|apply ζe));exact HO_18.out) hb);have n3_:=ζa (ζh (by (with_reducible repeat (first|apply ζd|apply ζc|apply ζe));exact HO298.out) hb);have n4_:=ζa (δr (by repeat (first|(with_reducible first|exact HB.out|apply δk|apply δi|apply δj)|exact HB.out)) hb);clear HO_14;clear HO_17;clear HO_18;clear HO298;clear HB;have HO_14:=n0_;have HO_17:=n1_;have HO_18:=n2_;have HO298:=n3_;have HB:=n4_;clear n0_ n1_ n2_ n3_ n4_;(try clear hb);(try clear hb2);(try clear hk);(try clear hi)))
              go_meet
              case rel=>exact ⟨_,(τ),(by first|rfl|(simp;done)|(simp [*];done)),H',⟨by have:=HJ17.out;first|omega|exact Nat.le_refl _⟩,⟨by (with_reducible repeat (first|apply ζd|apply ζc|apply ζe));exact Kd.R_mono HO_14.out (fun _ hk=>hk.2.1)⟩,⟨by (with_reducible repeat (first|apply ζd|apply ζc|apply ζe));exact Kd.R_mono HO_18.out (fun _ hk=>hk.1)⟩,⟨by repeat (first|(with_reducible first|exact HB.out|apply δk|apply δi|apply δj)|exact HB.out)⟩⟩
            ·
             replace c50:=Bool.eq_false_iff.mpr c50
             subst c50
             have H1:(laws_FnExactSendTake.j1 kj17 a0 l1 a2 a3 a4 a5 t282 t283 t284 t290 τ)=some r:=by rw [if_neg (show ¬ (φ=τ) by decide)] at H;exact H
             clear H
             have H:=H1
             clear H1
             have H':=ζa H
             clear H
             obtain ⟨Ao58,co58,eo58⟩:=Kd.R_slice HO_18.out
             subst eo58
             obtain ⟨Ao59,co59,eo59⟩:=Kd.R_slice HO_14.out
             subst eo59
             go_wp2_with (first|(go_at_call 18;(with_reducible refine (laws_eqPairS.calls kj17 _ _ t290 _ _ t282 φ _ ?side1 ?side2 ?side3 ?side4 A49.out).mono ?_);(case side1=>repeat (first|exact (ζg HO_18.out).2.2|(with_reducible refine Kd.C_alloc ?_ _)|(with_reducible refine Kd.C_drewN ?_ _)|(with_reducible refine Kd.C_drew ?_)));(case side2=>exact (ζg HO_18.out).2.1);(case side3=>repeat (first|exact (ζg HO_14.out).2.2|(with_reducible refine Kd.C_alloc ?_ _)|(with_reducible refine Kd.C_drewN ?_ _)|(with_reducible refine Kd.C_drew ?_)));(case side4=>exact (ζg HO_14.out).2.1);rintro e w60 ⟨rfl,hb⟩;have n0_:=ζa (ζh (by (with_reducible repeat (first|apply ζd|apply ζc|apply ζe));exact HO_14.out) hb);have n1_:=ζa (ζh (by (with_reducible repeat (first|apply ζd|apply ζc|apply ζe));exact HO_17.out) hb);have n2_:=ζa (ζh (by (with_reducible repeat (first|apply ζd|apply ζc|apply ζe));exact HO_18.out) hb);have n3_:=ζa (ζh (by (with_reducible repeat (first|apply ζd|apply ζc|apply ζe));exact HO298.out) hb);have n4_:=ζa (δr (by repeat (first|(with_reducible first|exact HB.out|apply δk|apply δi|apply δj)|exact HB.out)) hb);clear HO_14;clear HO_17;clear HO_18;clear HO298;clear HB;have HO_14:=n0_;have HO_17:=n1_;have HO_18:=n2_;have HO298:=n3_;have HB:=n4_;clear n0_ n1_ n2_ n3_ n4_;(try clear hb);(try clear hb2);(try clear hk);(try clear hi)))
             go_meet
             case rel=>exact ⟨_,(τ),(by first|rfl|(simp;done)|(simp [*];done)),H',⟨by have:=HJ17.out;first|omega|exact Nat.le_refl _⟩,⟨by (with_reducible repeat (first|apply ζd|apply ζc|apply ζe));exact Kd.R_mono HO_14.out (fun _ hk=>hk.2.1)⟩,⟨by (with_reducible repeat (first|apply ζd|apply ζc|apply ζe));exact Kd.R_mono HO_18.out (fun _ hk=>hk.1)⟩,⟨by repeat (first|(with_reducible first|exact HB.out|apply δk|apply δi|apply δj)|exact HB.out)⟩⟩
          case rest =>
           clear HC43
           try clear c1
           try clear c2
           try clear p2
           try clear c3
           try clear c4
           try clear c5
           try clear c7
           try clear c7b0
           try clear c7b1
           try clear c8
           try clear c8b0
           try clear c8b1
           try clear c9
           try clear c9b0
           try clear c9b1
           try clear c10
           try clear c10b0
           try clear c10b1
           try clear c12
           try clear c12b0
           try clear c14
           try clear c15
           try clear c16
           try clear c17
           try clear c18
           try clear c19
           try clear c27
           try clear c28
           try clear c28b0
           try clear c28b1
           try clear c38
           try clear c41
           try clear c48
           try clear c48b0
           try clear c50
           try clear c51
           try clear c51b0
           try clear c51b1
           try clear p2
           obtain ⟨kq,x108_42,rfl,HA,HJ42,HO_14,HO_18,HB⟩:=hcut
           cases kq with
           | zero=>exact absurd HA.out (by simp [laws_FnExactSendTake.j1])
           | succ kj42 =>
            have H:=HA.out
            clear HA
            simp only [laws_FnExactSendTake.j1] at H
            by_cases c61:x108_42=τ
            ·
             subst c61
             have H1:(some φ)=some r:=by rw [if_pos rfl] at H;exact H
             clear H
             have H:=H1
             clear H1
             obtain rfl:=Option.some.inj H
             go_wp2
             go_ret
             exact ⟨by first|rfl|(simp [errW_none,errW_some] <;> rfl)|(simp [*,errW_none,errW_some] <;> rfl),by repeat (first|(with_reducible first|exact HB.out|apply δk|apply δi|apply δj)|exact HB.out)⟩
            ·
             replace c61:=Bool.eq_false_iff.mpr c61
             subst c61
             have H1:((laws_markPairS.f kj42 t290 1).bind fun bt303=>((laws_heldPairS.f kj42 bt303.2 1).bind fun t305=>(if t305<0 then (some φ) else (if t305=bt303.1 then ((laws_toPairS.f kj42 l1).bind fun t306=>((impl_SendTake.f kj42 a0 t306 a2 a3 a4 a5).bind fun bt309=>((laws_eqPairS.f kj42 bt309.1 t282).bind fun t314=>(if t314=τ then (if bt309.2.1.toList=t283.toList then (laws_FnExactSendTake.j2 kj42 bt303.2 bt303.1 (bt309.2.2 != t284)) else (laws_FnExactSendTake.j2 kj42 bt303.2 bt303.1 τ)) else (laws_FnExactSendTake.j2 kj42 bt303.2 bt303.1 τ))))) else (some φ)))))=some r:=by rw [if_neg (show ¬ (φ=τ) by decide)] at H;exact H
             clear H
             have H:=H1
             clear H1
             replace H:=Option.bind_eq_some_iff.mp H
             obtain ⟨⟨t303,t304⟩,A620,H⟩:=H
             replace H:((laws_heldPairS.f kj42 t304 1).bind fun t305=>(if t305<0 then (some φ) else (if t305=t303 then ((laws_toPairS.f kj42 l1).bind fun t306=>((impl_SendTake.f kj42 a0 t306 a2 a3 a4 a5).bind fun bt309=>((laws_eqPairS.f kj42 bt309.1 t282).bind fun t314=>(if t314=τ then (if bt309.2.1.toList=t283.toList then (laws_FnExactSendTake.j2 kj42 t304 t303 (bt309.2.2 != t284)) else (laws_FnExactSendTake.j2 kj42 t304 t303 τ)) else (laws_FnExactSendTake.j2 kj42 t304 t303 τ))))) else (some φ))))=some r:=H
             have A62:=ζa A620
             clear A620
             replace H:=Option.bind_eq_some_iff.mp H
             obtain ⟨t305,A630,H⟩:=H
             replace H:(if t305<0 then (some φ) else (if t305=t303 then ((laws_toPairS.f kj42 l1).bind fun t306=>((impl_SendTake.f kj42 a0 t306 a2 a3 a4 a5).bind fun bt309=>((laws_eqPairS.f kj42 bt309.1 t282).bind fun t314=>(if t314=τ then (if bt309.2.1.toList=t283.toList then (laws_FnExactSendTake.j2 kj42 t304 t303 (bt309.2.2 != t284)) else (laws_FnExactSendTake.j2 kj42 t304 t303 τ)) else (laws_FnExactSendTake.j2 kj42 t304 t303 τ))))) else (some φ)))=some r:=H
             have A63:=ζa A630
             clear A630
             by_cases c64:t305<0
             ·
              rw [if_pos c64] at H
              have c64b0:decide (t305<0)=τ:=decide_eq_true c64
              clear c64
              obtain rfl:=Option.some.inj H
              obtain ⟨Ao65,co65,eo65⟩:=Kd.R_slice HO_18.out
              subst eo65
              go_wp2_with (first|((with_reducible refine δv (f:=19) rfl ?_);refine goesL_ (some 111) rfl rfl Tryz.func19 (by kernel_rfl) rfl #[.slice Ao65 t290.length co65,.int .i64 1] rfl (by (try simp only [δd,δe,δf]);first|done|rfl|(simp only [δg,δh];rfl)) ?_;(with_reducible refine (laws_markPairS.calls kj42 (fun k_=>some k_=(.slice Ao65 t290.length co65:Value).ownBlock) (.slice Ao65 t290.length co65) t290 1 t303 t304 w _ ?side1 ?side2 A62.out).mono ?_);(case side1=>repeat (first|(with_reducible first|exact HB.out|apply δk|apply δi|apply δj)|exact HB.out));(case side2=>exact Kd.R_tight rfl HO_18.out);rintro e w66 ⟨rfl,hy0,hb,hkp⟩;refine ⟨_,rfl,?_⟩;have n0_:=ζa (Kd.R_mono (ok':=fun k_=>some k_≠(.slice Ao65 t290.length co65:Value).ownBlock) (Kd.R_keptB (HO_14.out) hkp (fun k_ hk_ hs_=>(hk_) hs_)) (fun k_ hk_=>hk_.1));have n1_:=ζa (Kd.R_reok rfl hy0 (fun k_ e_=>HO_18.out.1 k_ e_));have n2_:=ζa (hb);clear HO_14;clear HO_18;clear HB;have HO_14:=n0_;have HO_18:=n1_;have HB:=n2_;clear n0_ n1_ n2_;(try clear hb);(try clear hkp);(try clear hy0))|((with_reducible refine δv (f:=20) rfl ?_);refine goesL_ (some 114) rfl rfl Tryz.func20 (by kernel_rfl) rfl #[.slice Ao65 t304.length co65,.int .i64 1] rfl (by (try simp only [δd,δe,δf]);first|done|(rw [show t304.length=t290.length from (ζg HO_18.out).1.symm] <;> rfl)|rfl|(simp only [δg,δh];rfl)) ?_;(with_reducible refine (laws_heldPairS.calls kj42 _ _ t304 1 t305 _ ?side1 ?side2 A63.out).mono ?_);(case side1=>repeat (first|exact (ζg HO_18.out).2.2|(with_reducible refine Kd.C_alloc ?_ _)|(with_reducible refine Kd.C_drewN ?_ _)|(with_reducible refine Kd.C_drew ?_)));(case side2=>rw [show t304.length=t290.length from (ζg HO_18.out).1.symm];exact (ζg HO_18.out).2.1);rintro e w67 ⟨rfl,hb⟩;refine ⟨_,rfl,?_⟩;have n0_:=ζa (ζh (by (with_reducible repeat (first|apply ζd|apply ζc|apply ζe));exact HO_14.out) hb);have n1_:=ζa (ζh (by (with_reducible repeat (first|apply ζd|apply ζc|apply ζe));exact HO_18.out) hb);have n2_:=ζa (δr (by repeat (first|(with_reducible first|exact HB.out|apply δk|apply δi|apply δj)|exact HB.out)) hb);clear HO_14;clear HO_18;clear HB;have HO_14:=n0_;have HO_18:=n1_;have HB:=n2_;clear n0_ n1_ n2_;(try clear hb);(try clear hb2);(try clear hk);(try clear hi)))
              go_ret
              exact ⟨by first|rfl|(simp [errW_none,errW_some] <;> rfl)|(simp [*,errW_none,errW_some] <;> rfl),by repeat (first|(with_reducible first|exact HB.out|apply δk|apply δi|apply δj)|exact HB.out)⟩
             ·
              rw [if_neg c64] at H
              have c64b0:decide (t305<0)=φ:=decide_eq_false c64
              clear c64
              by_cases c68:t305=t303
              ·
               rw [if_pos c68] at H
               have c68b0:(t305 == t303)=τ:=beq_iff_eq.mpr c68
               have c68b1:(t305 != t303)=φ:=bne_eq_false_iff_eq.mpr c68
               clear c68
               replace H:=Option.bind_eq_some_iff.mp H
               obtain ⟨t306,A690,H⟩:=H
               replace H:((impl_SendTake.f kj42 a0 t306 a2 a3 a4 a5).bind fun bt309=>((laws_eqPairS.f kj42 bt309.1 t282).bind fun t314=>(if t314=τ then (if bt309.2.1.toList=t283.toList then (laws_FnExactSendTake.j2 kj42 t304 t303 (bt309.2.2 != t284)) else (laws_FnExactSendTake.j2 kj42 t304 t303 τ)) else (laws_FnExactSendTake.j2 kj42 t304 t303 τ))))=some r:=H
               have A69:=ζa A690
               clear A690
               replace H:=Option.bind_eq_some_iff.mp H
               obtain ⟨⟨t309,t310,t311⟩,A700,H⟩:=H
               replace H:((laws_eqPairS.f kj42 t309 t282).bind fun t314=>(if t314=τ then (if t310.toList=t283.toList then (laws_FnExactSendTake.j2 kj42 t304 t303 (t311 != t284)) else (laws_FnExactSendTake.j2 kj42 t304 t303 τ)) else (laws_FnExactSendTake.j2 kj42 t304 t303 τ)))=some r:=H
               have A70:=ζa A700
               clear A700
               have HC71:=ζa H
               clear H
               obtain ⟨Ao72,co72,eo72⟩:=Kd.R_slice HO_18.out
               subst eo72
               go_upto_region 33 with (first|((with_reducible refine δv (f:=19) rfl ?_);refine goesL_ (some 111) rfl rfl Tryz.func19 (by kernel_rfl) rfl #[.slice Ao72 t290.length co72,.int .i64 1] rfl (by (try simp only [δd,δe,δf]);first|done|rfl|(simp only [δg,δh];rfl)) ?_;(with_reducible refine (laws_markPairS.calls kj42 (fun k_=>some k_=(.slice Ao72 t290.length co72:Value).ownBlock) (.slice Ao72 t290.length co72) t290 1 t303 t304 w _ ?side1 ?side2 A62.out).mono ?_);(case side1=>repeat (first|(with_reducible first|exact HB.out|apply δk|apply δi|apply δj)|exact HB.out));(case side2=>exact Kd.R_tight rfl HO_18.out);rintro e w73 ⟨rfl,hy0,hb,hkp⟩;refine ⟨_,rfl,?_⟩;have n0_:=ζa (Kd.R_mono (ok':=fun k_=>some k_≠(.slice Ao72 t290.length co72:Value).ownBlock) (Kd.R_keptB (HO_14.out) hkp (fun k_ hk_ hs_=>(hk_) hs_)) (fun k_ hk_=>hk_.1));have n1_:=ζa (Kd.R_reok rfl hy0 (fun k_ e_=>HO_18.out.1 k_ e_));have n2_:=ζa (hb);clear HO_14;clear HO_18;clear HB;have HO_14:=n0_;have HO_18:=n1_;have HB:=n2_;clear n0_ n1_ n2_;(try clear hb);(try clear hkp);(try clear hy0))|((with_reducible refine δv (f:=20) rfl ?_);refine goesL_ (some 114) rfl rfl Tryz.func20 (by kernel_rfl) rfl #[.slice Ao72 t304.length co72,.int .i64 1] rfl (by (try simp only [δd,δe,δf]);first|done|(rw [show t304.length=t290.length from (ζg HO_18.out).1.symm] <;> rfl)|rfl|(simp only [δg,δh];rfl)) ?_;(with_reducible refine (laws_heldPairS.calls kj42 _ _ t304 1 t305 _ ?side1 ?side2 A63.out).mono ?_);(case side1=>repeat (first|exact (ζg HO_18.out).2.2|(with_reducible refine Kd.C_alloc ?_ _)|(with_reducible refine Kd.C_drewN ?_ _)|(with_reducible refine Kd.C_drew ?_)));(case side2=>rw [show t304.length=t290.length from (ζg HO_18.out).1.symm];exact (ζg HO_18.out).2.1);rintro e w74 ⟨rfl,hb⟩;refine ⟨_,rfl,?_⟩;have n0_:=ζa (ζh (by (with_reducible repeat (first|apply ζd|apply ζc|apply ζe));exact HO_14.out) hb);have n1_:=ζa (ζh (by (with_reducible repeat (first|apply ζd|apply ζc|apply ζe));exact HO_18.out) hb);have n2_:=ζa (δr (by repeat (first|(with_reducible first|exact HB.out|apply δk|apply δi|apply δj)|exact HB.out)) hb);clear HO_14;clear HO_18;clear HB;have HO_14:=n0_;have HO_18:=n1_;have HB:=n2_;clear n0_ n1_ n2_;(try clear hb);(try clear hb2);(try clear hk);(try clear hi))|((with_reducible refine δv (f:=16) rfl ?_);refine goesL_ (some 123) rfl rfl Tryz.func16 (by kernel_rfl) rfl #[.slice A1 l1.length c1] rfl (by (try simp only [δd,δe,δf]);first|done|rfl|(simp only [δg,δh];rfl)) ?_;(with_reducible refine (laws_toPairS.calls kj42 _ _ l1 t306 _ ?side1 ?side2 A69.out).mono ?_);(case side1=>repeat (first|exact (Kd.C_below HR1.out HB.out)|(with_reducible refine Kd.C_alloc ?_ _)|(with_reducible refine Kd.C_drewN ?_ _)|(with_reducible refine Kd.C_drew ?_)));(case side2=>exact HC1.out);rintro e w75 ⟨v307,rfl,ho0,hb⟩;refine ⟨_,rfl,?_⟩;have n0_:=ζa (Kd.R_elder' (by (with_reducible repeat (first|apply ζd|apply ζc|apply ζe));exact HO_14.out) (Kd.R_base ho0) hb);have n1_:=ζa (Kd.R_elder' (by (with_reducible repeat (first|apply ζd|apply ζc|apply ζe));exact HO_18.out) (Kd.R_base ho0) hb);have n2_:=ζa (Kd.R_lower (Kd.R_new' (Kd.R_new' ho0 (Kd.R_lt (by (with_reducible repeat (first|apply ζd|apply ζc|apply ζe));exact HO_14.out))) (Kd.R_lt (by (with_reducible repeat (first|apply ζd|apply ζc|apply ζe));exact HO_18.out))) (δs (by repeat (first|(with_reducible first|exact HB.out|apply δk|apply δi|apply δj)|exact HB.out))));have n3_:=ζa (δr (by repeat (first|(with_reducible first|exact HB.out|apply δk|apply δi|apply δj)|exact HB.out)) hb);clear HO_14;clear HO_18;clear HB;have HO_14:=n0_;have HO_18:=n1_;have HO308:=n2_;have HB:=n3_;clear n0_ n1_ n2_ n3_;(try clear hb);(try clear hb2);(try clear hk);(try clear hi);(try clear ho0);obtain ⟨Ao76,co76,eo76⟩:=Kd.R_slice HO308.out;subst eo76)|((with_reducible refine δv (f:=17) rfl ?_);refine goesL_ (some 128) rfl rfl Tryz.func17 (by kernel_rfl) rfl #[.string a0,.slice Ao76 t306.length co76,.string a2,.string a3,.string a4,.int .i64 a5] rfl (by (try simp only [δd,δe,δf]);first|done|rfl|(simp only [δg,δh];rfl)) ?_;(with_reducible refine (impl_SendTake.calls kj42 a0 _ _ t306 a2 a3 a4 a5 t309 t310 t311 _ ?side1 ?side2 (HT0.out.below (by repeat (first|(with_reducible first|exact HB.out|apply δk|apply δi|apply δj)|exact HB.out))) A70.out).mono ?_);(case side1=>repeat (first|exact (ζg HO308.out).2.2|(with_reducible refine Kd.C_alloc ?_ _)|(with_reducible refine Kd.C_drewN ?_ _)|(with_reducible refine Kd.C_drew ?_)));(case side2=>exact (ζg HO308.out).2.1);rintro e w77 ⟨v312,rfl,ho0,hb⟩;refine ⟨_,rfl,?_⟩;have n0_:=ζa (Kd.R_elder' (by (with_reducible repeat (first|apply ζd|apply ζc|apply ζe));exact HO_14.out) (Kd.R_base ho0) hb);have n1_:=ζa (Kd.R_elder' (by (with_reducible repeat (first|apply ζd|apply ζc|apply ζe));exact HO_18.out) (Kd.R_base ho0) hb);have n2_:=ζa (Kd.R_elder' (by (with_reducible repeat (first|apply ζd|apply ζc|apply ζe));exact HO308.out) (Kd.R_base ho0) hb);have n3_:=ζa (Kd.R_lower (Kd.R_new' (Kd.R_new' (Kd.R_new' ho0 (Kd.R_lt (by (with_reducible repeat (first|apply ζd|apply ζc|apply ζe));exact HO_14.out))) (Kd.R_lt (by (with_reducible repeat (first|apply ζd|apply ζc|apply ζe));exact HO_18.out))) (Kd.R_lt (by (with_reducible repeat (first|apply ζd|apply ζc|apply ζe));exact HO308.out))) (δs (by repeat (first|(with_reducible first|exact HB.out|apply δk|apply δi|apply δj)|exact HB.out))));have n4_:=ζa (δr (by repeat (first|(with_reducible first|exact HB.out|apply δk|apply δi|apply δj)|exact HB.out)) hb);clear HO_14;clear HO_18;clear HO308;clear HB;have HO_14:=n0_;have HO_18:=n1_;have HO308:=n2_;have HO313:=n3_;have HB:=n4_;clear n0_ n1_ n2_ n3_ n4_;(try clear hb);(try clear hb2);(try clear hk);(try clear hi);(try clear ho0)))
               (try simp only [ζl,δa,δb,δc])
               go_cut [145] (fun v145 wc => ∃ (kq:Nat) (x145_70:Bool),v145 = .bool x145_70∧Aside0 (laws_FnExactSendTake.j2 kq t304 t303 x145_70=some r)∧Aside0 (kq≤kj42)∧Aside0 (Kd.R k51 51 wc w.heap.size (fun _=>True) (.slice Ao72 t290.length co72) t304)∧Aside0 (Below w.heap.size w wc))
               case first =>
                have H:=HC71.out
                clear HC71
                replace H:=Option.bind_eq_some_iff.mp H
                obtain ⟨t314,A780,H⟩:=H
                replace H:(if t314=τ then (if t310.toList=t283.toList then (laws_FnExactSendTake.j2 kj42 t304 t303 (t311 != t284)) else (laws_FnExactSendTake.j2 kj42 t304 t303 τ)) else (laws_FnExactSendTake.j2 kj42 t304 t303 τ))=some r:=H
                have A78:=ζa A780
                clear A780
                by_cases c79:t314=τ
                ·
                 subst c79
                 have H1:(if t310.toList=t283.toList then (laws_FnExactSendTake.j2 kj42 t304 t303 (t311 != t284)) else (laws_FnExactSendTake.j2 kj42 t304 t303 τ))=some r:=by rw [if_pos rfl] at H;exact H
                 clear H
                 have H:=H1
                 clear H1
                 by_cases c80:t310.toList=t283.toList
                 ·
                  rw [if_pos c80] at H
                  have c80b0:(t310.toList == t283.toList)=τ:=beq_iff_eq.mpr c80
                  have c80b1:(t310.toList != t283.toList)=φ:=bne_eq_false_iff_eq.mpr c80
                  clear c80
                  (first|rw [c80b0]|(simp only [i64_w,i32_w];rw [c80b0])|skip)
                  have H':=ζa H
                  clear H
                  obtain ⟨Ao81,co81,eo81⟩:=Kd.R_slice HO313.out
                  subst eo81
                  obtain ⟨Ao82,co82,eo82⟩:=Kd.R_slice HO_14.out
                  subst eo82
                  go_wp2_with (first|((with_reducible refine δv (f:=18) rfl ?_);refine goesL_ (some 134) rfl rfl Tryz.func18 (by kernel_rfl) rfl #[.slice Ao81 t309.length co81,.slice Ao82 t282.length co82] rfl (by (try simp only [δd,δe,δf]);first|done|rfl|(simp only [δg,δh];rfl)) ?_;(with_reducible refine (laws_eqPairS.calls kj42 _ _ t309 _ _ t282 τ _ ?side1 ?side2 ?side3 ?side4 A78.out).mono ?_);(case side1=>repeat (first|exact (ζg HO313.out).2.2|(with_reducible refine Kd.C_alloc ?_ _)|(with_reducible refine Kd.C_drewN ?_ _)|(with_reducible refine Kd.C_drew ?_)));(case side2=>exact (ζg HO313.out).2.1);(case side3=>repeat (first|exact (ζg HO_14.out).2.2|(with_reducible refine Kd.C_alloc ?_ _)|(with_reducible refine Kd.C_drewN ?_ _)|(with_reducible refine Kd.C_drew ?_)));(case side4=>exact (ζg HO_14.out).2.1);rintro e w83 ⟨rfl,hb⟩;refine ⟨_,rfl,?_⟩;have n0_:=ζa (ζh (by (with_reducible repeat (first|apply ζd|apply ζc|apply ζe));exact HO_14.out) hb);have n1_:=ζa (ζh (by (with_reducible repeat (first|apply ζd|apply ζc|apply ζe));exact HO_18.out) hb);have n2_:=ζa (ζh (by (with_reducible repeat (first|apply ζd|apply ζc|apply ζe));exact HO308.out) hb);have n3_:=ζa (ζh (by (with_reducible repeat (first|apply ζd|apply ζc|apply ζe));exact HO313.out) hb);have n4_:=ζa (δr (by repeat (first|(with_reducible first|exact HB.out|apply δk|apply δi|apply δj)|exact HB.out)) hb);clear HO_14;clear HO_18;clear HO308;clear HO313;clear HB;have HO_14:=n0_;have HO_18:=n1_;have HO308:=n2_;have HO313:=n3_;have HB:=n4_;clear n0_ n1_ n2_ n3_ n4_;(try clear hb);(try clear hb2);(try clear hk);(try clear hi)))
                  go_meet
                  case rel=>exact ⟨_,((t311 != t284)),(by first|rfl|(simp;done)|(simp [*];done)),H',⟨by have:=HJ17.out;have:=HJ42.out;first|omega|exact Nat.le_refl _⟩,⟨by (with_reducible repeat (first|apply ζd|apply ζc|apply ζe));exact Kd.R_mono HO_18.out (fun _ hk=>trivial)⟩,⟨by repeat (first|(with_reducible first|exact HB.out|apply δk|apply δi|apply δj)|exact HB.out)⟩⟩
                 ·
                  rw [if_neg c80] at H
                  have c80b0:(t310.toList == t283.toList)=φ:=beq_eq_false_iff_ne.mpr c80
                  have c80b1:(t310.toList != t283.toList)=τ:=bne_iff_ne.mpr c80
                  (first|rw [c80b0]|(simp only [i64_w,i32_w];rw [c80b0])|skip)
                  have H':=ζa H
                  clear H
                  obtain ⟨Ao84,co84,eo84⟩:=Kd.R_slice HO313.out
                  subst eo84
                  obtain ⟨Ao85,co85,eo85⟩:=Kd.R_slice HO_14.out
                  subst eo85
                  go_wp2_with (first|((with_reducible refine δv (f:=18) rfl ?_);refine goesL_ (some 134) rfl rfl Tryz.func18 (by kernel_rfl) rfl #[.slice Ao84 t309.length co84,.slice Ao85 t282.length co85] rfl (by (try simp only [δd,δe,δf]);first|done|rfl|(simp only [δg,δh];rfl)) ?_;(with_reducible refine (laws_eqPairS.calls kj42 _ _ t309 _ _ t282 τ _ ?side1 ?side2 ?side3 ?side4 A78.out).mono ?_);(case side1=>repeat (first|exact (ζg HO313.out).2.2|(with_reducible refine Kd.C_alloc ?_ _)|(with_reducible refine Kd.C_drewN ?_ _)|(with_reducible refine Kd.C_drew ?_)));(case side2=>exact (ζg HO313.out).2.1);(case side3=>repeat (first|exact (ζg HO_14.out).2.2|(with_reducible refine Kd.C_alloc ?_ _)|(with_reducible refine Kd.C_drewN ?_ _)|(with_reducible refine Kd.C_drew ?_)));(case side4=>exact (ζg HO_14.out).2.1);rintro e w86 ⟨rfl,hb⟩;refine ⟨_,rfl,?_⟩;have n0_:=ζa (ζh (by (with_reducible repeat (first|apply ζd|apply ζc|apply ζe));exact HO_14.out) hb);have n1_:=ζa (ζh (by (with_reducible repeat (first|apply ζd|apply ζc|apply ζe));exact HO_18.out) hb);have n2_:=ζa (ζh (by (with_reducible repeat (first|apply ζd|apply ζc|apply ζe));exact HO308.out) hb);have n3_:=ζa (ζh (by (with_reducible repeat (first|apply ζd|apply ζc|apply ζe));exact HO313.out) hb);have n4_:=ζa (δr (by repeat (first|(with_reducible first|exact HB.out|apply δk|apply δi|apply δj)|exact HB.out)) hb);clear HO_14;clear HO_18;clear HO308;clear HO313;clear HB;have HO_14:=n0_;have HO_18:=n1_;have HO308:=n2_;have HO313:=n3_;have HB:=n4_;clear n0_ n1_ n2_ n3_ n4_;(try clear hb);(try clear hb2);(try clear hk);(try clear hi)))
                  go_meet
                  case rel=>exact ⟨_,(τ),(by first|rfl|(simp;done)|(simp [*];done)),H',⟨by have:=HJ17.out;have:=HJ42.out;first|omega|exact Nat.le_refl _⟩,⟨by (with_reducible repeat (first|apply ζd|apply ζc|apply ζe));exact Kd.R_mono HO_18.out (fun _ hk=>trivial)⟩,⟨by repeat (first|(with_reducible first|exact HB.out|apply δk|apply δi|apply δj)|exact HB.out)⟩⟩
                ·
                 replace c79:=Bool.eq_false_iff.mpr c79
                 subst c79
                 have H1:(laws_FnExactSendTake.j2 kj42 t304 t303 τ)=some r:=by rw [if_neg (show ¬ (φ=τ) by decide)] at H;exact H
                 clear H
                 have H:=H1
                 clear H1
                 have H':=ζa H
                 clear H
                 obtain ⟨Ao87,co87,eo87⟩:=Kd.R_slice HO313.out
                 subst eo87
                 obtain ⟨Ao88,co88,eo88⟩:=Kd.R_slice HO_14.out
                 subst eo88
                 go_wp2_with (first|((with_reducible refine δv (f:=18) rfl ?_);refine goesL_ (some 134) rfl rfl Tryz.func18 (by kernel_rfl) rfl #[.slice Ao87 t309.length co87,.slice Ao88 t282.length co88] rfl (by (try simp only [δd,δe,δf]);first|done|rfl|(simp only [δg,δh];rfl)) ?_;(with_reducible refine (laws_eqPairS.calls kj42 _ _ t309 _ _ t282 φ _ ?side1 ?side2 ?side3 ?side4 A78.out).mono ?_);(case side1=>repeat (first|exact (ζg HO313.out).2.2|(with_reducible refine Kd.C_alloc ?_ _)|(with_reducible refine Kd.C_drewN ?_ _)|(with_reducible refine Kd.C_drew ?_)));(case side2=>exact (ζg HO313.out).2.1);(case side3=>repeat (first|exact (ζg HO_14.out).2.2|(with_reducible refine Kd.C_alloc ?_ _)|(with_reducible refine Kd.C_drewN ?_ _)|(with_reducible refine Kd.C_drew ?_)));(case side4=>exact (ζg HO_14.out).2.1);rintro e w89 ⟨rfl,hb⟩;refine ⟨_,rfl,?_⟩;have n0_:=ζa (ζh (by (with_reducible repeat (first|apply ζd|apply ζc|apply ζe));exact HO_14.out) hb);have n1_:=ζa (ζh (by (with_reducible repeat (first|apply ζd|apply ζc|apply ζe));exact HO_18.out) hb);have n2_:=ζa (ζh (by (with_reducible repeat (first|apply ζd|apply ζc|apply ζe));exact HO308.out) hb);have n3_:=ζa (ζh (by (with_reducible repeat (first|apply ζd|apply ζc|apply ζe));exact HO313.out) hb);have n4_:=ζa (δr (by repeat (first|(with_reducible first|exact HB.out|apply δk|apply δi|apply δj)|exact HB.out)) hb);clear HO_14;clear HO_18;clear HO308;clear HO313;clear HB;have HO_14:=n0_;have HO_18:=n1_;have HO308:=n2_;have HO313:=n3_;have HB:=n4_;clear n0_ n1_ n2_ n3_ n4_;(try clear hb);(try clear hb2);(try clear hk);(try clear hi)))
                 go_meet
                 case rel=>exact ⟨_,(τ),(by first|rfl|(simp;done)|(simp [*];done)),H',⟨by have:=HJ17.out;have:=HJ42.out;first|omega|exact Nat.le_refl _⟩,⟨by (with_reducible repeat (first|apply ζd|apply ζc|apply ζe));exact Kd.R_mono HO_18.out (fun _ hk=>trivial)⟩,⟨by repeat (first|(with_reducible first|exact HB.out|apply δk|apply δi|apply δj)|exact HB.out)⟩⟩
               case rest =>
                clear HC71
                try clear c1
                try clear c2
                try clear p2
                try clear c3
                try clear c4
                try clear c5
                try clear c6
                try clear c7
                try clear c7b0
                try clear c7b1
                try clear c8
                try clear c8b0
                try clear c8b1
                try clear c9
                try clear c9b0
                try clear c9b1
                try clear c10
                try clear c10b0
                try clear c10b1
                try clear c12
                try clear c12b0
                try clear c14
                try clear c15
                try clear c16
                try clear c17
                try clear c18
                try clear c19
                try clear c20
                try clear c27
                try clear c28
                try clear c28b0
                try clear c28b1
                try clear c38
                try clear c41
                try clear c48
                try clear c48b0
                try clear c50
                try clear c51
                try clear c51b0
                try clear c51b1
                try clear c61
                try clear c64
                try clear c64b0
                try clear c68
                try clear c68b0
                try clear c68b1
                try clear c79
                try clear c80
                try clear c80b0
                try clear c80b1
                try clear p2
                obtain ⟨kq,x145_70,rfl,HA,HJ70,HO_18,HB⟩:=hcut
                have hl18_70:=(ζg HO_18.out).1
                rw [hl18_70] at HO_18
                (try simp only [hl18_70])
                cases kq with
                | zero=>exact absurd HA.out (by simp [laws_FnExactSendTake.j2])
                | succ kj70 =>
                 have H:=HA.out
                 clear HA
                 simp only [laws_FnExactSendTake.j2] at H
                 by_cases c90:x145_70=τ
                 ·
                  subst c90
                  have H1:(some φ)=some r:=by rw [if_pos rfl] at H;exact H
                  clear H
                  have H:=H1
                  clear H1
                  obtain rfl:=Option.some.inj H
                  go_wp2
                  go_ret
                  exact ⟨by first|rfl|(simp [errW_none,errW_some] <;> rfl)|(simp [*,errW_none,errW_some] <;> rfl),by repeat (first|(with_reducible first|exact HB.out|apply δk|apply δi|apply δj)|exact HB.out)⟩
                 ·
                  replace c90:=Bool.eq_false_iff.mpr c90
                  subst c90
                  have H1:((laws_heldPairS.f kj70 t304 1).bind fun t315=>(if t315<0 then (some φ) else (if t315=t303 then (some τ) else (some φ))))=some r:=by rw [if_neg (show ¬ (φ=τ) by decide)] at H;exact H
                  clear H
                  have H:=H1
                  clear H1
                  replace H:=Option.bind_eq_some_iff.mp H
                  obtain ⟨t315,A910,H⟩:=H
                  replace H:(if t315<0 then (some φ) else (if t315=t303 then (some τ) else (some φ)))=some r:=H
                  have A91:=ζa A910
                  clear A910
                  by_cases c92:t315<0
                  ·
                   rw [if_pos c92] at H
                   have c92b0:decide (t315<0)=τ:=decide_eq_true c92
                   clear c92
                   obtain rfl:=Option.some.inj H
                   go_wp2_with (first|((with_reducible refine δv (f:=20) rfl ?_);refine goesL_ (some 148) rfl rfl Tryz.func20 (by kernel_rfl) rfl #[.slice Ao72 t304.length co72,.int .i64 1] rfl (by (try simp only [δd,δe,δf]);first|done|rfl|(simp only [δg,δh];rfl)) ?_;(with_reducible refine (laws_heldPairS.calls kj70 _ _ t304 1 t315 _ ?side1 ?side2 A91.out).mono ?_);(case side1=>repeat (first|exact (ζg HO_18.out).2.2|(with_reducible refine Kd.C_alloc ?_ _)|(with_reducible refine Kd.C_drewN ?_ _)|(with_reducible refine Kd.C_drew ?_)));(case side2=>exact (ζg HO_18.out).2.1);rintro e w93 ⟨rfl,hb⟩;refine ⟨_,rfl,?_⟩;have n0_:=ζa (ζh (by (with_reducible repeat (first|apply ζd|apply ζc|apply ζe));exact HO_18.out) hb);have n1_:=ζa (δr (by repeat (first|(with_reducible first|exact HB.out|apply δk|apply δi|apply δj)|exact HB.out)) hb);clear HO_18;clear HB;have HO_18:=n0_;have HB:=n1_;clear n0_ n1_;(try clear hb);(try clear hb2);(try clear hk);(try clear hi)))
                   go_ret
                   exact ⟨by first|rfl|(simp [errW_none,errW_some] <;> rfl)|(simp [*,errW_none,errW_some] <;> rfl),by repeat (first|(with_reducible first|exact HB.out|apply δk|apply δi|apply δj)|exact HB.out)⟩
                  ·
                   rw [if_neg c92] at H
                   have c92b0:decide (t315<0)=φ:=decide_eq_false c92
                   clear c92
                   by_cases c94:t315=t303
                   ·
                    rw [if_pos c94] at H
                    have c94b0:(t315 == t303)=τ:=beq_iff_eq.mpr c94
                    have c94b1:(t315 != t303)=φ:=bne_eq_false_iff_eq.mpr c94
                    clear c94
                    obtain rfl:=Option.some.inj H
                    go_wp2_with (first|((with_reducible refine δv (f:=20) rfl ?_);refine goesL_ (some 148) rfl rfl Tryz.func20 (by kernel_rfl) rfl #[.slice Ao72 t304.length co72,.int .i64 1] rfl (by (try simp only [δd,δe,δf]);first|done|rfl|(simp only [δg,δh];rfl)) ?_;(with_reducible refine (laws_heldPairS.calls kj70 _ _ t304 1 t315 _ ?side1 ?side2 A91.out).mono ?_);(case side1=>repeat (first|exact (ζg HO_18.out).2.2|(with_reducible refine Kd.C_alloc ?_ _)|(with_reducible refine Kd.C_drewN ?_ _)|(with_reducible refine Kd.C_drew ?_)));(case side2=>exact (ζg HO_18.out).2.1);rintro e w95 ⟨rfl,hb⟩;refine ⟨_,rfl,?_⟩;have n0_:=ζa (ζh (by (with_reducible repeat (first|apply ζd|apply ζc|apply ζe));exact HO_18.out) hb);have n1_:=ζa (δr (by repeat (first|(with_reducible first|exact HB.out|apply δk|apply δi|apply δj)|exact HB.out)) hb);clear HO_18;clear HB;have HO_18:=n0_;have HB:=n1_;clear n0_ n1_;(try clear hb);(try clear hb2);(try clear hk);(try clear hi)))
                    go_ret
                    exact ⟨by first|rfl|(simp [errW_none,errW_some] <;> rfl)|(simp [*,errW_none,errW_some] <;> rfl),by repeat (first|(with_reducible first|exact HB.out|apply δk|apply δi|apply δj)|exact HB.out)⟩
                   ·
                    rw [if_neg c94] at H
                    have c94b0:(t315 == t303)=φ:=beq_eq_false_iff_ne.mpr c94
                    have c94b1:(t315 != t303)=τ:=bne_iff_ne.mpr c94
                    obtain rfl:=Option.some.inj H
                    go_wp2_with (first|((with_reducible refine δv (f:=20) rfl ?_);refine goesL_ (some 148) rfl rfl Tryz.func20 (by kernel_rfl) rfl #[.slice Ao72 t304.length co72,.int .i64 1] rfl (by (try simp only [δd,δe,δf]);first|done|rfl|(simp only [δg,δh];rfl)) ?_;(with_reducible refine (laws_heldPairS.calls kj70 _ _ t304 1 t315 _ ?side1 ?side2 A91.out).mono ?_);(case side1=>repeat (first|exact (ζg HO_18.out).2.2|(with_reducible refine Kd.C_alloc ?_ _)|(with_reducible refine Kd.C_drewN ?_ _)|(with_reducible refine Kd.C_drew ?_)));(case side2=>exact (ζg HO_18.out).2.1);rintro e w96 ⟨rfl,hb⟩;refine ⟨_,rfl,?_⟩;have n0_:=ζa (ζh (by (with_reducible repeat (first|apply ζd|apply ζc|apply ζe));exact HO_18.out) hb);have n1_:=ζa (δr (by repeat (first|(with_reducible first|exact HB.out|apply δk|apply δi|apply δj)|exact HB.out)) hb);clear HO_18;clear HB;have HO_18:=n0_;have HB:=n1_;clear n0_ n1_;(try clear hb);(try clear hb2);(try clear hk);(try clear hi)))
                    go_ret
                    exact ⟨by first|rfl|(simp [errW_none,errW_some] <;> rfl)|(simp [*,errW_none,errW_some] <;> rfl),by repeat (first|(with_reducible first|exact HB.out|apply δk|apply δi|apply δj)|exact HB.out)⟩
              ·
               rw [if_neg c68] at H
               have c68b0:(t305 == t303)=φ:=beq_eq_false_iff_ne.mpr c68
               have c68b1:(t305 != t303)=τ:=bne_iff_ne.mpr c68
               obtain rfl:=Option.some.inj H
               obtain ⟨Ao97,co97,eo97⟩:=Kd.R_slice HO_18.out
               subst eo97
               go_wp2_with (first|((with_reducible refine δv (f:=19) rfl ?_);refine goesL_ (some 111) rfl rfl Tryz.func19 (by kernel_rfl) rfl #[.slice Ao97 t290.length co97,.int .i64 1] rfl (by (try simp only [δd,δe,δf]);first|done|rfl|(simp only [δg,δh];rfl)) ?_;(with_reducible refine (laws_markPairS.calls kj42 (fun k_=>some k_=(.slice Ao97 t290.length co97:Value).ownBlock) (.slice Ao97 t290.length co97) t290 1 t303 t304 w _ ?side1 ?side2 A62.out).mono ?_);(case side1=>repeat (first|(with_reducible first|exact HB.out|apply δk|apply δi|apply δj)|exact HB.out));(case side2=>exact Kd.R_tight rfl HO_18.out);rintro e w98 ⟨rfl,hy0,hb,hkp⟩;refine ⟨_,rfl,?_⟩;have n0_:=ζa (Kd.R_mono (ok':=fun k_=>some k_≠(.slice Ao97 t290.length co97:Value).ownBlock) (Kd.R_keptB (HO_14.out) hkp (fun k_ hk_ hs_=>(hk_) hs_)) (fun k_ hk_=>hk_.1));have n1_:=ζa (Kd.R_reok rfl hy0 (fun k_ e_=>HO_18.out.1 k_ e_));have n2_:=ζa (hb);clear HO_14;clear HO_18;clear HB;have HO_14:=n0_;have HO_18:=n1_;have HB:=n2_;clear n0_ n1_ n2_;(try clear hb);(try clear hkp);(try clear hy0))|((with_reducible refine δv (f:=20) rfl ?_);refine goesL_ (some 114) rfl rfl Tryz.func20 (by kernel_rfl) rfl #[.slice Ao97 t304.length co97,.int .i64 1] rfl (by (try simp only [δd,δe,δf]);first|done|(rw [show t304.length=t290.length from (ζg HO_18.out).1.symm] <;> rfl)|rfl|(simp only [δg,δh];rfl)) ?_;(with_reducible refine (laws_heldPairS.calls kj42 _ _ t304 1 t305 _ ?side1 ?side2 A63.out).mono ?_);(case side1=>repeat (first|exact (ζg HO_18.out).2.2|(with_reducible refine Kd.C_alloc ?_ _)|(with_reducible refine Kd.C_drewN ?_ _)|(with_reducible refine Kd.C_drew ?_)));(case side2=>rw [show t304.length=t290.length from (ζg HO_18.out).1.symm];exact (ζg HO_18.out).2.1);rintro e w99 ⟨rfl,hb⟩;refine ⟨_,rfl,?_⟩;have n0_:=ζa (ζh (by (with_reducible repeat (first|apply ζd|apply ζc|apply ζe));exact HO_14.out) hb);have n1_:=ζa (ζh (by (with_reducible repeat (first|apply ζd|apply ζc|apply ζe));exact HO_18.out) hb);have n2_:=ζa (δr (by repeat (first|(with_reducible first|exact HB.out|apply δk|apply δi|apply δj)|exact HB.out)) hb);clear HO_14;clear HO_18;clear HB;have HO_14:=n0_;have HO_18:=n1_;have HB:=n2_;clear n0_ n1_ n2_;(try clear hb);(try clear hb2);(try clear hk);(try clear hi)))
               go_ret
               exact ⟨by first|rfl|(simp [errW_none,errW_some] <;> rfl)|(simp [*,errW_none,errW_some] <;> rfl),by repeat (first|(with_reducible first|exact HB.out|apply δk|apply δi|apply δj)|exact HB.out)⟩
         ·
          replace c41:=Bool.eq_false_iff.mpr c41
          subst c41
          have H1:(some φ)=some r:=by rw [if_neg (show ¬ (φ=τ) by decide)] at H;exact H
          clear H
          have H:=H1
          clear H1
          obtain rfl:=Option.some.inj H
          go_wp2_with (first|((with_reducible refine δv (f:=16) rfl ?_);refine goesL_ (some 85) rfl rfl Tryz.func16 (by kernel_rfl) rfl #[.slice A1 l1.length c1] rfl (by (try simp only [δd,δe,δf]);first|done|rfl|(simp only [δg,δh];rfl)) ?_;(with_reducible refine (laws_toPairS.calls kj17 _ _ l1 t296 _ ?side1 ?side2 A39.out).mono ?_);(case side1=>repeat (first|exact (Kd.C_below HR1.out HB.out)|(with_reducible refine Kd.C_alloc ?_ _)|(with_reducible refine Kd.C_drewN ?_ _)|(with_reducible refine Kd.C_drew ?_)));(case side2=>exact HC1.out);rintro e w100 ⟨v297,rfl,ho0,hb⟩;refine ⟨_,rfl,?_⟩;have n0_:=ζa (Kd.R_elder' (by (with_reducible repeat (first|apply ζd|apply ζc|apply ζe));exact HO_14.out) (Kd.R_base ho0) hb);have n1_:=ζa (Kd.R_elder' (by (with_reducible repeat (first|apply ζd|apply ζc|apply ζe));exact HO_17.out) (Kd.R_base ho0) hb);have n2_:=ζa (Kd.R_elder' (by (with_reducible repeat (first|apply ζd|apply ζc|apply ζe));exact HO_18.out) (Kd.R_base ho0) hb);have n3_:=ζa (Kd.R_lower (Kd.R_new' (Kd.R_new' (Kd.R_new' ho0 (Kd.R_lt (by (with_reducible repeat (first|apply ζd|apply ζc|apply ζe));exact HO_14.out))) (Kd.R_lt (by (with_reducible repeat (first|apply ζd|apply ζc|apply ζe));exact HO_17.out))) (Kd.R_lt (by (with_reducible repeat (first|apply ζd|apply ζc|apply ζe));exact HO_18.out))) (δs (by repeat (first|(with_reducible first|exact HB.out|apply δk|apply δi|apply δj)|exact HB.out))));have n4_:=ζa (δr (by repeat (first|(with_reducible first|exact HB.out|apply δk|apply δi|apply δj)|exact HB.out)) hb);clear HO_14;clear HO_17;clear HO_18;clear HB;have HO_14:=n0_;have HO_17:=n1_;have HO_18:=n2_;have HO298:=n3_;have HB:=n4_;clear n0_ n1_ n2_ n3_ n4_;(try clear hb);(try clear hb2);(try clear hk);(try clear hi);(try clear ho0);obtain ⟨Ao101,co101,eo101⟩:=Kd.R_slice HO298.out;subst eo101)|((with_reducible refine δv (f:=18) rfl ?_);refine goesL_ (some 86) rfl rfl Tryz.func18 (by kernel_rfl) rfl #[.slice Ao24 t287.length co24,.slice Ao101 t296.length co101] rfl (by (try simp only [δd,δe,δf]);first|done|rfl|(simp only [δg,δh];rfl)) ?_;(with_reducible refine (laws_eqPairS.calls kj17 _ _ t287 _ _ t296 φ _ ?side1 ?side2 ?side3 ?side4 A40.out).mono ?_);(case side1=>repeat (first|exact (ζg HO_17.out).2.2|(with_reducible refine Kd.C_alloc ?_ _)|(with_reducible refine Kd.C_drewN ?_ _)|(with_reducible refine Kd.C_drew ?_)));(case side2=>exact (ζg HO_17.out).2.1);(case side3=>repeat (first|exact (ζg HO298.out).2.2|(with_reducible refine Kd.C_alloc ?_ _)|(with_reducible refine Kd.C_drewN ?_ _)|(with_reducible refine Kd.C_drew ?_)));(case side4=>exact (ζg HO298.out).2.1);rintro e w102 ⟨rfl,hb⟩;refine ⟨_,rfl,?_⟩;have n0_:=ζa (ζh (by (with_reducible repeat (first|apply ζd|apply ζc|apply ζe));exact HO_14.out) hb);have n1_:=ζa (ζh (by (with_reducible repeat (first|apply ζd|apply ζc|apply ζe));exact HO_17.out) hb);have n2_:=ζa (ζh (by (with_reducible repeat (first|apply ζd|apply ζc|apply ζe));exact HO_18.out) hb);have n3_:=ζa (ζh (by (with_reducible repeat (first|apply ζd|apply ζc|apply ζe));exact HO298.out) hb);have n4_:=ζa (δr (by repeat (first|(with_reducible first|exact HB.out|apply δk|apply δi|apply δj)|exact HB.out)) hb);clear HO_14;clear HO_17;clear HO_18;clear HO298;clear HB;have HO_14:=n0_;have HO_17:=n1_;have HO_18:=n2_;have HO298:=n3_;have HB:=n4_;clear n0_ n1_ n2_ n3_ n4_;(try clear hb);(try clear hb2);(try clear hk);(try clear hi)))
          go_ret
          exact ⟨by first|rfl|(simp [errW_none,errW_some] <;> rfl)|(simp [*,errW_none,errW_some] <;> rfl),by repeat (first|(with_reducible first|exact HB.out|apply δk|apply δi|apply δj)|exact HB.out)⟩

end Go.Proofs.YtabmfhnhmoiljaaGreatDoor.Q

/- Plain arithmetic: products of two amounts in halves of nine digits; long division digit by digit. No program. -/
namespace Go.Proofs.YtabmfhnhmoiljaaGreatDoor.U
open Go Go.RowKit
set_option linter.unusedVariables false
set_option linter.unusedSimpArgs false

theorem wid {n : Int} (h0 : -9223372036854775808 ≤ n) (h1 : n ≤ 9223372036854775807) : wrap64 n = n := IntWalk.wrap64_in n ⟨h0, h1⟩
theorem tdiv_nn {a b : Int} (h : 0 ≤ a) : Int.tdiv a b = a / b := Int.tdiv_eq_ediv_of_nonneg h
theorem tmod_nn {a b : Int} (h : 0 ≤ a) : Int.tmod a b = a % b := Int.tmod_eq_emod_of_nonneg h
theorem u64w (n : Int) : IntKind.u64.wrap n = n % 18446744073709551616 := by simp [IntKind.wrap, IntKind.bits, IntKind.signed]
theorem u64id {n : Int} (h0 : 0 ≤ n) (h1 : n < 18446744073709551616) : IntKind.u64.wrap n = n := by rw [u64w]; exact Int.emod_eq_of_lt h0 h1

theorem mul_bd {x y X Y : Int} (hx : 0 ≤ x) (hx' : x ≤ X) (hy : 0 ≤ y) (hy' : y ≤ Y) : 0 ≤ x * y ∧ x * y ≤ X * Y :=
  ⟨Int.mul_nonneg hx hy, Int.mul_le_mul hx' hy' hy (Int.le_trans hx hx')⟩

theorem wide_eq (a b : Int) (ha : 0 ≤ a) (ha' : a ≤ 1000000000000000000) (hb : 0 ≤ b) (hb' : b ≤ 1000000000000000000) :
    a * b = (a / 1000000000) * (b / 1000000000) * 1000000000000000000 + ((a / 1000000000) * (b % 1000000000) + (a % 1000000000) * (b / 1000000000)) * 1000000000 + (a % 1000000000) * (b % 1000000000) := by
  have e1 : a = (a / 1000000000) * 1000000000 + a % 1000000000 := by omega
  have e2 : b = (b / 1000000000) * 1000000000 + b % 1000000000 := by omega
  generalize a / 1000000000 = x at *
  generalize a % 1000000000 = y at *
  generalize b / 1000000000 = z at *
  generalize b % 1000000000 = u at *
  subst e1 e2
  grind

/-- One digit more of a long division. -/
theorem digit_step (c T out rest low : Int) (hc : 1 ≤ c) (hT : 1 ≤ T) (hr : 0 ≤ rest) (hl : 0 ≤ low) :
    (out * 10 + (10 * rest + low / T % 10) / c) * T + ((10 * rest + low / T % 10) % c * T + low % T) / c = out * (10 * T) + (rest * (10 * T) + low % (10 * T)) / c := by
  have e1 : low % (10 * T) = low / T % 10 * T + low % T := by
    have h1 : low / (10 * T) = low / T / 10 := by rw [Int.mul_comm, Int.ediv_ediv_of_nonneg (by omega)]
    have h2 := Int.mul_ediv_add_emod low (10 * T)
    have h3 := Int.mul_ediv_add_emod low T
    have h4 := Int.mul_ediv_add_emod (low / T) 10
    rw [h1] at h2
    generalize low / T / 10 = p at *
    generalize low / T % 10 = d at *
    generalize low / T = m at *
    subst h4
    generalize low % T = e at *
    generalize low % (10 * T) = f at *
    grind
  have h5 := Int.mul_ediv_add_emod (10 * rest + low / T % 10) c
  generalize low / T % 10 = d at *
  generalize (10 * rest + d) / c = q at *
  generalize (10 * rest + d) % c = s at *
  have e2 : rest * (10 * T) + low % (10 * T) = c * (q * T) + (s * T + low % T) := by
    rw [e1]
    generalize low % T = e at *
    grind
  rw [e2, Int.mul_add_ediv_left _ _ (by omega)]
  grind

/-- Knuth's step: a digit that is guessed too great is told by the lower half. -/
theorem knuth_lower (Y yn1 yn0 u v q : Int) (hY : Y = yn1 * 4294967296 + yn0) (h0 : 0 ≤ yn0) (hv : 0 ≤ v) (hv' : v < 4294967296) (hq : 0 ≤ q) (h : q * Y ≤ u * 4294967296 + v) : q * yn1 ≤ u := by
  have h1 : q * Y = q * yn1 * 4294967296 + q * yn0 := by subst hY; grind
  have h2 : 0 ≤ q * yn0 := Int.mul_nonneg hq h0
  omega

end Go.Proofs.YtabmfhnhmoiljaaGreatDoor.U

/- A number's digits: the reference's are the library's. -/
namespace Go.Proofs.YtabmfhnhmoiljaaGreatDoor.U
open Go Go.RowKit Go.Proofs.YtabmfhnhmoiljaaGreatDoor.Q Go.Proofs.YtabmfhnhmoiljaaGreatDoorW.PrintWords Go.Proofs.YtabmfhnhmoiljaaGreatDoorW.PrintLast Go.Proofs.YtabmfhnhmoiljaaGreatDoorW.PrintMore
set_option linter.unusedVariables false
set_option linter.unusedSimpArgs false

def digV (u : Nat) : ByteArray := ⟨(Lib.decDigits u).toArray⟩
theorem one_digit (u : Nat) (h : u < 10) : strOfNums [(wrap64 (48 + (u : Int))) % 256] = ⟨#[UInt8.ofNat (48 + u)]⟩ := by
  rw [wid (by omega) (by omega)]
  have : ((48 + (u : Int)) % 256) = ((48 + u : Nat) : Int) := by omega
  rw [this]
  rfl
theorem digits_ev (u : Nat) (hu : u ≤ 1000000000000000000) : Ev (fun k => spec_l00Digits.f k (u : Int)) (digV u) := by
  induction u using Nat.strongRecOn with
  | _ u ih =>
    by_cases h : u < 10
    · refine Ev.step (fun k => ?_) (Ev.now _)
      rw [spec_l00Digits.f, if_neg (by omega), if_neg (by omega), if_pos (by omega), one_digit u h, digV, Lib.decDigits_one h]
    · have e1 : wrap64 (Int.tdiv (u : Int) 10) = ((u / 10 : Nat) : Int) := by rw [tdiv_nn (by omega), wid (by omega) (by omega)]; omega
      have e2 : Int.tmod (u : Int) 10 = ((u % 10 : Nat) : Int) := by rw [tmod_nn (by omega)]; omega
      have hs : (digV (u / 10)).size ≤ u := by
        show (Lib.decDigits (u / 10)).toArray.size ≤ u
        rw [List.size_toArray, Lib.decDigits_length]
        have hn : ∀ v : Nat, 1 ≤ v → Lib.nDigits v ≤ v := by
          intro v
          induction v using Nat.strongRecOn with
          | _ v ihv =>
            intro h1
            rw [Lib.nDigits]
            split
            · exact h1
            · have := ihv (v / 10) (by omega) (by omega); omega
        have := hn (u / 10) (by omega)
        omega
      refine Ev.step (f := fun k => (spec_l00Digits.f k ((u / 10 : Nat) : Int)).bind fun t => if t.size + 1 ≤ 9223372036854775807 then some (t ++ (⟨#[UInt8.ofNat (48 + u % 10)]⟩ : ByteArray)) else none) (fun k => ?_) ?_
      · rw [spec_l00Digits.f, if_neg (by omega), if_neg (by omega), if_neg (by omega), e1, e2]
        simp only [Option.bind_some, one_digit (u % 10) (by omega)]
        rfl
      · refine Ev.bind (ih (u / 10) (by omega) (by omega)) ?_
        simp only [if_pos (show (digV (u / 10)).size + 1 ≤ 9223372036854775807 by omega)]
        have : digV (u / 10) ++ (⟨#[UInt8.ofNat (48 + u % 10)]⟩ : ByteArray) = digV u := by
          unfold digV
          conv => rhs; rw [Lib.decDigits, dif_neg h]
          apply ByteArray.ext
          simp
        rw [this]
        exact Ev.now _
theorem itoa_eq (n : Int) (h : 0 ≤ n) : (⟨(Lib.itoa n).toArray⟩ : ByteArray) = digV n.toNat := by
  unfold Lib.itoa digV
  rw [if_neg (by omega)]
end Go.Proofs.YtabmfhnhmoiljaaGreatDoor.U

/- Amounts: the number that a text tells, as the program and as the reference read it. -/
namespace Go.Proofs.YtabmfhnhmoiljaaGreatDoor.U
open Go Go.RowKit Go.Proofs.YtabmfhnhmoiljaaGreatDoor.Q Go.Proofs.YtabmfhnhmoiljaaGreatDoorW.PrintWords Go.Proofs.YtabmfhnhmoiljaaGreatDoorW.PrintLast Go.Proofs.YtabmfhnhmoiljaaGreatDoorW.PrintMore
set_option linter.unusedVariables false
set_option linter.unusedSimpArgs false

theorem nd_small (j v : Nat) (h : v < 10 ^ (j + 1)) : Lib.nDigits v ≤ j + 1 := by
  induction j generalizing v with
  | zero => rw [Lib.nDigits, dif_pos (by simpa using h)]; omega
  | succ j ih =>
    rw [Lib.nDigits]
    split
    · omega
    · have := ih (v / 10) (by rw [Nat.pow_succ] at h; omega); omega
theorem digV_size (v : Nat) (h : v ≤ 1000000000000000000) : (digV v).size ≤ 19 := by
  show (Lib.decDigits v).toArray.size ≤ 19
  rw [List.size_toArray, Lib.decDigits_length]
  exact nd_small 18 v (by omega)
theorem dec_big {v : Nat} (h : ¬ v < 10) : Lib.decDigits v = Lib.decDigits (v / 10) ++ [UInt8.ofNat (48 + v % 10)] := by
  conv => lhs; rw [Lib.decDigits, dif_neg h]
theorem chr_nat (d : Nat) (h : d < 10) : (UInt8.ofNat (48 + d)).toNat = 48 + d := by
  rw [UInt8.toNat_ofNat']; omega

/-- Digits, one behind the other, onto what those ahead tell. -/
def telD (x : Nat) : List UInt8 → Option Nat
  | [] => some x
  | c :: r => if c.toNat < 48 ∨ 57 < c.toNat then none else if (1000000000000000000 - (c.toNat - 48)) / 10 < x then none else telD (x * 10 + (c.toNat - 48)) r
theorem telD_append (l r : List UInt8) : ∀ x, telD x (l ++ r) = (telD x l).bind fun y => telD y r := by
  induction l with
  | nil => intro x; rfl
  | cons c l ih =>
    intro x
    simp only [List.cons_append, telD]
    split
    · rfl
    · split
      · rfl
      · exact ih _
theorem telD_one (x d : Nat) (hd : d < 10) (h : x * 10 + d ≤ 1000000000000000000) : telD x [UInt8.ofNat (48 + d)] = some (x * 10 + d) := by
  simp only [telD, chr_nat d hd]
  rw [if_neg (by omega), if_neg (by omega)]
  congr 1; omega
theorem telD_dec (v : Nat) (h : v ≤ 1000000000000000000) : telD 0 (Lib.decDigits v) = some v := by
  induction v using Nat.strongRecOn with
  | _ v ih =>
    by_cases hv : v < 10
    · rw [Lib.decDigits_one hv, telD_one 0 v hv (by omega)]; congr 1; omega
    · rw [dec_big hv, telD_append, ih (v / 10) (by omega) (by omega)]
      show telD (v / 10) _ = _
      rw [telD_one _ _ (by omega) (by omega)]; congr 1; omega
/-- No needless naught ahead. -/
def plainB (l : List UInt8) : Bool := decide (l ≠ []) && (decide (l.length = 1) || decide (l.head? ≠ some 48))
theorem snoc_cases {α : Type} (l : List α) : l = [] ∨ ∃ (i : List α) (c : α), l = i ++ [c] := by
  rcases List.eq_nil_or_concat l with h | ⟨i, c, h⟩
  · exact .inl h
  · exact .inr ⟨i, c, by rw [h, List.concat_eq_append]⟩
theorem telD_snoc {l : List UInt8} {c : UInt8} {n : Nat} (h : telD 0 (l ++ [c]) = some n) :
    ∃ m, telD 0 l = some m ∧ 48 ≤ c.toNat ∧ c.toNat ≤ 57 ∧ n = m * 10 + (c.toNat - 48) ∧ n ≤ 1000000000000000000 := by
  rw [telD_append] at h
  obtain ⟨m, h1, h2⟩ := Option.bind_eq_some_iff.mp h
  refine ⟨m, h1, ?_⟩
  simp only [telD] at h2
  split at h2
  · cases h2
  · split at h2
    · cases h2
    · injection h2 with h2
      omega
theorem dec_of_telD (k : Nat) : ∀ (l : List UInt8) (n : Nat), l.length = k → plainB l = true → telD 0 l = some n → l = Lib.decDigits n ∧ n ≤ 1000000000000000000 := by
  induction k with
  | zero =>
    intro l n hl hp h
    have : l = [] := List.length_eq_zero_iff.1 hl
    subst this
    simp [plainB] at hp
  | succ k ih =>
    intro l n hl hp h
    rcases snoc_cases l with rfl | ⟨i, c, rfl⟩
    · simp at hl
    obtain ⟨m, h1, h2, h3, h4, h5⟩ := telD_snoc h
    refine ⟨?_, h5⟩
    by_cases hi : i = []
    · subst hi
      simp only [telD, Option.some.injEq] at h1
      subst h1
      rw [Lib.decDigits_one (by omega), h4]
      simp only [List.nil_append, List.cons.injEq, and_true]
      apply UInt8.toNat_inj.1
      rw [chr_nat _ (by omega)]; omega
    · have hne : i.head? ≠ some 48 := by
        simp only [plainB, Bool.and_eq_true, Bool.or_eq_true, decide_eq_true_iff] at hp
        rcases hp.2 with hp | hp
        · rw [List.length_append, List.length_singleton] at hp
          exact absurd (List.length_eq_zero_iff.1 (by omega)) hi
        · cases i with
          | nil => exact absurd rfl hi
          | cons a i => simpa using hp
      obtain ⟨e, _⟩ := ih i m (by rw [List.length_append, List.length_singleton] at hl; omega) (by simp only [plainB, Bool.and_eq_true, Bool.or_eq_true, decide_eq_true_iff]; exact ⟨hi, .inr hne⟩) h1
      have hm : m ≠ 0 := by
        rintro rfl
        rw [e, Lib.decDigits_one (by omega)] at hne
        exact hne rfl
      rw [dec_big (v := n) (by omega)]
      have e1 : n / 10 = m := by omega
      have e2 : n % 10 = c.toNat - 48 := by omega
      rw [e1, e2, ← e]
      congr 2
      apply UInt8.toNat_inj.1
      rw [chr_nat _ (by omega)]; omega
theorem dec_head (v : Nat) : ∃ d r, d < 10 ∧ Lib.decDigits v = UInt8.ofNat (48 + d) :: r := by
  induction v using Nat.strongRecOn with
  | _ v ih =>
    by_cases hv : v < 10
    · exact ⟨v, [], hv, Lib.decDigits_one hv⟩
    · obtain ⟨d, r, hd, e⟩ := ih (v / 10) (by omega)
      exact ⟨d, r ++ [UInt8.ofNat (48 + v % 10)], hd, by rw [dec_big hv, e]; rfl⟩
theorem dec_plain (v : Nat) : plainB (Lib.decDigits v) = true := by
  have hne : Lib.decDigits v ≠ [] := fun e => by
    have h := Lib.decDigits_length v
    rw [e] at h
    have := Lib.nDigits_pos v
    simp at h; omega
  have hd : Lib.nDigits v = 1 ∨ (Lib.decDigits v).head? ≠ some 48 := by
    induction v using Nat.strongRecOn with
    | _ v ih =>
      by_cases hv : v < 10
      · exact .inl (Lib.nDigits_small hv)
      · right
        obtain ⟨d, r, hd, e⟩ := dec_head (v / 10)
        by_cases hv2 : v / 10 < 10
        · rw [dec_big hv, Lib.decDigits_one hv2]
          simp only [List.cons_append, List.head?_cons, ne_eq, Option.some.injEq]
          intro e
          have := congrArg UInt8.toNat e
          rw [chr_nat _ hv2] at this
          have e48 : (48 : UInt8).toNat = 48 := rfl
          omega
        · rcases ih (v / 10) (by omega) (by rw [e]; simp) with h | h
          · rw [Lib.nDigits_big hv2] at h
            have := Lib.nDigits_pos (v / 10 / 10)
            omega
          · rw [e] at h
            rw [dec_big hv, e]
            exact h
  simp only [plainB, Bool.and_eq_true, Bool.or_eq_true, decide_eq_true_iff]
  refine ⟨hne, ?_⟩
  rcases hd with h | h
  · left; rw [Lib.decDigits_length, h]
  · exact .inr h
/-- The amount of a text, where it tells one. -/
def amtO (a : ByteArray) : Option Nat := if plainB a.data.toList = true then telD 0 a.data.toList else none
theorem amtO_iff (a : ByteArray) (n : Nat) : amtO a = some n ↔ a = digV n ∧ n ≤ 1000000000000000000 := by
  unfold amtO
  constructor
  · intro h
    split at h
    · rename_i hp
      obtain ⟨e, hn⟩ := dec_of_telD _ _ n rfl hp h
      refine ⟨?_, hn⟩
      apply ByteArray.ext
      apply Array.toList_inj.mp
      rw [e]
      rfl
    · cases h
  · rintro ⟨rfl, hn⟩
    have e : (digV n).data.toList = Lib.decDigits n := rfl
    rw [e, if_pos (dec_plain n)]
    exact telD_dec n hn
def amtV (a : ByteArray) : Int := match amtO a with | some n => (n : Int) | none => -1
theorem amtV_digV (n : Nat) (h : n ≤ 1000000000000000000) : amtV (digV n) = n := by
  unfold amtV
  rw [(amtO_iff _ n).2 ⟨rfl, h⟩]
theorem amtV_eq {a : ByteArray} (h : 0 ≤ amtV a) : a = digV (amtV a).toNat ∧ amtV a ≤ 1000000000000000000 := by
  unfold amtV at *
  cases e : amtO a with
  | none => rw [e] at h; simp at h
  | some n =>
    obtain ⟨h1, h2⟩ := (amtO_iff a n).1 e
    exact ⟨by simpa using h1, by simp only; omega⟩
theorem amtV_low (a : ByteArray) : -1 ≤ amtV a := by
  unfold amtV
  split <;> omega

/-! ### the program's -/
theorem parse_append (l r : List UInt8) : ∀ x, Lib.parseUint10 x (l ++ r) = match Lib.parseUint10 x l with | .ok u => Lib.parseUint10 u r | .syntax => .syntax | .range => .range := by
  induction l with
  | nil => intro x; rfl
  | cons c l ih =>
    intro x
    simp only [List.cons_append, Lib.parseUint10]
    split
    · split
      · rfl
      · split
        · rfl
        · exact ih _
    · rfl
theorem parse_one (x d : Nat) (hd : d < 10) (h : x * 10 + d < 9223372036854775808) : Lib.parseUint10 x [UInt8.ofNat (48 + d)] = .ok (x * 10 + d) := by
  simp only [Lib.parseUint10, chr_nat d hd]
  rw [if_pos (by omega), if_neg (by omega), if_neg (by omega)]
  congr 1; omega
theorem parse_dec (v : Nat) (h : v < 9223372036854775808) : Lib.parseUint10 0 (Lib.decDigits v) = .ok v := by
  induction v using Nat.strongRecOn with
  | _ v ih =>
    by_cases hv : v < 10
    · rw [Lib.decDigits_one hv, parse_one 0 v hv (by omega)]; congr 1; omega
    · rw [dec_big hv, parse_append, ih (v / 10) (by omega) (by omega)]
      show Lib.parseUint10 (v / 10) _ = _
      rw [parse_one _ _ (by omega) (by omega)]; congr 1; omega
theorem atoi_dec (v : Nat) (h : v < 9223372036854775808) : Lib.atoiAll (Lib.decDigits v) = .ok (v : Int) := by
  obtain ⟨d, r, hd, e⟩ := dec_head v
  have h1 := parse_dec v h
  rw [e] at h1 ⊢
  rw [Lib.atoiAll_plain _ _ (by rw [chr_nat d hd]; omega) (by rw [chr_nat d hd]; omega)]
  unfold Lib.parseMag
  rw [if_neg (by simp), h1]
  simp only [Lib.signless]
  rw [if_neg (by omega)]
theorem toList_eq_iff (a b : ByteArray) : a.toList = b.toList ↔ a = b := by
  constructor
  · intro h
    rw [ByteArray.toList_eq, ByteArray.toList_eq] at h
    exact ByteArray.ext (Array.toList_inj.mp h)
  · rintro rfl; rfl
theorem readAmount_eq (a : ByteArray) (hs : a.size ≤ 281474976710656) : impl_readAmount.f a = some (if 0 ≤ amtV a then (amtV a, true) else (0, false)) := by
  unfold impl_readAmount.f
  rw [if_pos hs]
  by_cases h : 0 ≤ amtV a
  · obtain ⟨e, hn⟩ := amtV_eq h
    rw [if_pos h]
    generalize amtV a = n at *
    have e1 : Lib.atoiAll a.data.toList = .ok n := by
      have := atoi_dec n.toNat (by omega)
      rw [e]
      rw [show ((n.toNat : Nat) : Int) = n by omega] at this
      exact this
    rw [e1]
    simp only [if_pos h, if_pos hn]
    rw [itoa_eq n h, ← e, if_pos rfl]
  · rw [if_neg h]
    cases hh : Lib.atoiAll a.data.toList with
    | «syntax» => rfl
    | range => rfl
    | ok v =>
      simp only
      by_cases h0 : 0 ≤ v
      · rw [if_pos h0]
        by_cases h1 : v ≤ 1000000000000000000
        · rw [if_pos h1, itoa_eq v h0]
          by_cases h2 : (digV v.toNat).toList = a.toList
          · exfalso
            have e := (toList_eq_iff _ _).1 h2
            apply h
            rw [← e, amtV_digV _ (by omega)]
            omega
          · rw [if_neg h2]
        · rw [if_neg h1]
      · rw [if_neg h0]

/-! ### the reference's -/
theorem bt_get (a : ByteArray) (i : Nat) (h : i < a.size) : bt a (i : Int) = ((a.data.toList[i]'(by rw [Array.length_toList]; exact h)).toNat : Int) := by
  unfold bt
  rw [dif_pos (by simpa using h)]
  simp
  rfl
def telI (x : Nat) (l : List UInt8) : Int := match telD x l with | some n => (n : Int) | none => -1
theorem l02Of_go (a : ByteArray) (hs : a.size ≤ 19) : ∀ (d i x : Nat), i + d = a.size → x ≤ 1000000000000000000 → Ev (fun k => spec_l02Of.l0 k a (x : Int) (i : Int)) (telI x (a.data.toList.drop i)) := by
  intro d
  induction d with
  | zero =>
    intro i x hi hx
    refine Ev.step (fun k => ?_) (Ev.now _)
    rw [spec_l02Of.l0, if_neg (by omega), List.drop_of_length_le (by rw [Array.length_toList]; show a.size ≤ i; omega)]
    rfl
  | succ d ih =>
    intro i x hi hx
    have hlt : i < a.size := by omega
    have hb := bt_get a i hlt
    have hl : i < a.data.toList.length := by rw [Array.length_toList]; exact hlt
    rw [List.drop_eq_getElem_cons hl]
    generalize a.data.toList[i] = c at *
    have hc := UInt8.toNat_lt c
    unfold telI
    simp only [telD]
    by_cases h1 : c.toNat < 48 ∨ 57 < c.toNat
    · rw [if_pos h1]
      refine Ev.step (f := fun k => spec_l02Of.j2 k a (x : Int) (i : Int) true) (fun k => ?_) (Ev.step (fun k => by rw [spec_l02Of.j2, if_pos rfl]) (Ev.now _))
      rw [spec_l02Of.l0, if_pos (by omega), if_pos (by omega), hb]
      by_cases h2 : c.toNat < 48
      · rw [if_pos (by omega)]
      · rw [if_neg (by omega), decide_eq_true (by omega)]
    · rw [if_neg h1]
      refine Ev.step (f := fun k => spec_l02Of.j2 k a (x : Int) (i : Int) false) (fun k => ?_) ?_
      · rw [spec_l02Of.l0, if_pos (by omega), if_pos (by omega), hb, if_neg (by omega), decide_eq_false (by omega)]
      · have e1 : ((c.toNat : Int) - 48) % 256 = ((c.toNat - 48 : Nat) : Int) := by omega
        by_cases h3 : (1000000000000000000 - (c.toNat - 48)) / 10 < x
        · rw [if_pos h3]
          refine Ev.step (fun k => ?_) (Ev.now _)
          rw [spec_l02Of.j2, if_neg (by decide), if_pos (by omega), if_pos (by omega), hb, e1, if_pos (by omega)]
        · rw [if_neg h3]
          have := ih (i + 1) (x * 10 + (c.toNat - 48)) (by omega) (by omega)
          refine Ev.step (fun k => ?_) this
          rw [spec_l02Of.j2, if_neg (by decide), if_pos (by omega), if_pos (by omega), hb, e1, if_neg (by omega), wid (n := (x : Int) * 10) (by omega) (by omega), wid (n := (x : Int) * 10 + _) (by omega) (by omega), wid (n := (i : Int) + 1) (by omega) (by omega)]
          rfl
theorem l02Of_ev (a : ByteArray) (hs : a.size ≤ 9223372036854775807) : Ev (fun k => spec_l02Of.f k a) (amtV a) := by
  have hbad : amtV a = -1 → Ev (fun k => spec_l02Of.j0 k a true) (amtV a) := fun e => by
    rw [e]; exact Ev.step (fun k => by rw [spec_l02Of.j0, if_pos rfl]) (Ev.now _)
  have hln : a.data.toList.length = a.size := by rw [Array.length_toList]; rfl
  have hbig : 19 < a.size → amtV a = -1 := fun h => by
    by_cases h0 : 0 ≤ amtV a
    · obtain ⟨e, hn⟩ := amtV_eq h0
      have := digV_size (amtV a).toNat (by omega)
      rw [← e] at this
      omega
    · have := amtV_low a; omega
  have hgo : Ev (fun k => spec_l02Of.l0 k a 0 0) (telI 0 a.data.toList) ∨ 19 < a.size := by
    by_cases h : 19 < a.size
    · exact .inr h
    · exact .inl (by have := l02Of_go a (by omega) a.size 0 0 (by omega) (by omega); simpa using this)
  unfold spec_l02Of.f spec_l01In.f
  by_cases h1 : (a.size : Int) ≥ 1
  · simp only [if_pos h1, Option.bind_some]
    by_cases h2 : (a.size : Int) ≤ 19
    · simp only [decide_eq_true h2, if_true]
      have hg : Ev (fun k => spec_l02Of.l0 k a 0 0) (telI 0 a.data.toList) := by
        rcases hgo with h | h
        · exact h
        · omega
      by_cases h3 : (a.size : Int) > 1
      · simp only [if_pos h3, if_pos (show (0 : Int) < (a.size : Int) by omega)]
        have hb := bt_get a 0 (by omega)
        have hh : a.data.toList.head? = some (a.data.toList[0]'(by omega)) := by rw [List.head?_eq_getElem?, List.getElem?_eq_getElem]
        by_cases h4 : a.data.toList[0]'(by omega) = 48
        · have e : (bt a 0 == 48) = true := by rw [beq_iff_eq]; have := hb; rw [h4] at this; exact this
          simp only [e]
          refine hbad ?_
          unfold amtV amtO
          rw [if_neg]
          simp only [plainB, Bool.and_eq_true, Bool.or_eq_true, decide_eq_true_iff, hh, h4]
          rintro ⟨_, h | h⟩
          · omega
          · exact h rfl
        · have e : (bt a 0 == 48) = false := by
            rw [beq_eq_false_iff_ne]
            intro h5
            apply h4
            apply UInt8.toNat_inj.1
            have e48 : (48 : UInt8).toNat = 48 := rfl
            have := hb.symm.trans h5
            omega
          simp only [e]
          refine Ev.step (fun k => by rw [spec_l02Of.j0, if_neg (by decide)]) ?_
          have e2 : amtV a = telI 0 a.data.toList := by
            unfold amtV amtO telI
            rw [if_pos]
            simp only [plainB, Bool.and_eq_true, Bool.or_eq_true, decide_eq_true_iff, hh]
            refine ⟨fun e0 => ?_, .inr (fun e0 => h4 (Option.some.inj e0))⟩
            rw [e0] at hln; simp at hln; omega
          rw [e2]
          exact hg
      · simp only [if_neg h3]
        refine Ev.step (fun k => by rw [spec_l02Of.j0, if_neg (by decide)]) ?_
        have e2 : amtV a = telI 0 a.data.toList := by
          unfold amtV amtO telI
          rw [if_pos]
          simp only [plainB, Bool.and_eq_true, Bool.or_eq_true, decide_eq_true_iff]
          refine ⟨fun e0 => ?_, .inl (by omega)⟩
          rw [e0] at hln; simp at hln; omega
        rw [e2]
        exact hg
    · simp only [decide_eq_false h2, Bool.false_eq_true, if_false]
      exact hbad (hbig (by omega))
  · simp only [if_neg h1, Option.bind_some, Bool.false_eq_true, if_false]
    refine hbad ?_
    unfold amtV amtO
    have : a.data.toList = [] := List.length_eq_zero_iff.1 (by omega)
    rw [this]
    rfl
end Go.Proofs.YtabmfhnhmoiljaaGreatDoor.U

namespace Go.Proofs.YtabmfhnhmoiljaaGreatDoor.Q
open Go.RowKit Go.Proofs.YtabmfhnhmoiljaaGreatDoorW.PrintWords Go.Proofs.YtabmfhnhmoiljaaGreatDoorW.PrintLast Go.Proofs.YtabmfhnhmoiljaaGreatDoorW.PrintMore
open Go.Proofs.YtabmfhnhmoiljaaGreatDoorW.PrintWords.Aside0 renaming mk → ζa
open Go.Proofs.YtabmfhnhmoiljaaGreatDoorW.PrintWords renaming gate_callee → δv, below_alloc → δk, pw_below_drewN → δi, below_drew1 → δj, below_step → δr
open List renaming map_toArray → δd, map_cons → δe, map_nil → δf, length_drop → δg, length_take → δh
open Bool renaming true → τ, false → φ
attribute [local go_sem] max2_int min2_int max_two min_two max_three min_three max_four min_four   -- for this text's walks alone
set_option linter.unusedVariables false
set_option linter.unusedSimpArgs false

/-! ### impl_storeCode: function 62 -/
def impl_storeCode.j0:Nat→List (S51)→Bool→Option (Int)
 | 0,_,_=>none
 | k+1,x0,x5=>if x5=τ then (some 2) else ((impl_StoreOK.f k x0).bind fun t649=>(if t649=τ then (some 0) else (some 1)))
def impl_storeCode.f (k:Nat) (l0:List (S51)) (l1:List ByteArray):Option (Int):=(impl_isList_impl_Pair.f l0).bind fun t647=>(if t647=τ then ((impl_isText.f l1).bind fun t648=>(impl_storeCode.j0 k l0 (!t648))) else (impl_storeCode.j0 k l0 τ))
set_option maxHeartbeats 8000000 in
set_option maxRecDepth 100000 in
theorem impl_storeCode.calls (k:Nat) (A0:Option Addr) (c0:Nat) (l0:List (S51)) (A1:Option Addr) (c1:Nat) (l1:List ByteArray) (r:Int) (w:World) (hr0:Kd.C k51 w A0 l0.length l0) (hc0:l0.length≤c0) (hr1:Kd.C Kd.string w A1 l1.length l1) (hc1:l1.length≤c1) (h:impl_storeCode.f k l0 l1=some r) :
  Calls Tryz.prog 62 #[.slice A0 l0.length c0,.slice A1 l1.length c1] w fun e w'=>e = .returned (.int .i64 r)∧Below w.heap.size w w':=by
 have HR0:=ζa hr0
 have HC0:=ζa hc0
 clear hr0 hc0
 have HR1:=ζa hr1
 have HC1:=ζa hc1
 clear hr1 hc1
 have HB:=ζa (Below.refl w.heap.size w)
 have H:((impl_isList_impl_Pair.f l0).bind fun t647=>(if t647=τ then ((impl_isText.f l1).bind fun t648=>(impl_storeCode.j0 k l0 (!t648))) else (impl_storeCode.j0 k l0 τ)))=some r:=h
 clear h
 have HC3:=ζa H
 clear H
 go_enter Tryz.func62,Tryz.ntmps62
 go_upto_region 1 with (fail)
 go_cut [5] (fun v5 wc => ∃ (kq:Nat) (x5_2:Bool),v5 = .bool x5_2∧Aside0 (impl_storeCode.j0 kq l0 x5_2=some r)∧Aside0 (kq≤k)∧Aside0 (Below w.heap.size w wc))
 case first =>
  have H:=HC3.out
  clear HC3
  replace H:=Option.bind_eq_some_iff.mp H
  obtain ⟨t647,A40,H⟩:=H
  replace H:(if t647=τ then ((impl_isText.f l1).bind fun t648=>(impl_storeCode.j0 k l0 (!t648))) else (impl_storeCode.j0 k l0 τ))=some r:=H
  have A4:=ζa A40
  clear A40
  by_cases c5:t647=τ
  ·
   subst c5
   have H1:((impl_isText.f l1).bind fun t648=>(impl_storeCode.j0 k l0 (!t648)))=some r:=by rw [if_pos rfl] at H;exact H
   clear H
   have H:=H1
   clear H1
   replace H:=Option.bind_eq_some_iff.mp H
   obtain ⟨t648,A60,H⟩:=H
   replace H:(impl_storeCode.j0 k l0 (!t648))=some r:=H
   have A6:=ζa A60
   clear A60
   have H':=ζa H
   clear H
   go_wp2_with (first|((with_reducible refine δv (f:=80) rfl ?_);refine goesL_ (some 7) rfl rfl Tryz.func80 (by kernel_rfl) rfl #[.slice A0 l0.length c0] rfl (by (try simp only [δd,δe,δf]);first|done|rfl|(simp only [δg,δh];rfl)) ?_;(with_reducible refine (impl_isList_impl_Pair.calls _ _ l0 τ _ ?side1 ?side2 A4.out).mono ?_);(case side1=>repeat (first|exact (Kd.C_below HR0.out HB.out)|(with_reducible refine Kd.C_alloc ?_ _)|(with_reducible refine Kd.C_drewN ?_ _)|(with_reducible refine Kd.C_drew ?_)));(case side2=>exact HC0.out);rintro e w' ⟨rfl,⟨nd,rfl⟩⟩;refine ⟨_,rfl,?_⟩)|(go_at_call 61;(with_reducible refine (impl_isText.calls _ _ l1 t648 _ ?side1 ?side2 A6.out).mono ?_);(case side1=>repeat (first|exact (Kd.C_below HR1.out (by repeat (first|(with_reducible first|exact HB.out|apply δk|apply δi|apply δj)|exact HB.out)))|(with_reducible refine Kd.C_alloc ?_ _)|(with_reducible refine Kd.C_drewN ?_ _)|(with_reducible refine Kd.C_drew ?_)));(case side2=>exact HC1.out);rintro e w' ⟨rfl,⟨nd,rfl⟩⟩))
   go_meet
   case rel=>exact ⟨_,(!t648),(by first|rfl|(simp;done)|(simp [*];done)),H',⟨by first|omega|exact Nat.le_refl _⟩,⟨by repeat (first|(with_reducible first|exact HB.out|apply δk|apply δi|apply δj)|exact HB.out)⟩⟩
  ·
   replace c5:=Bool.eq_false_iff.mpr c5
   subst c5
   have H1:(impl_storeCode.j0 k l0 τ)=some r:=by rw [if_neg (show ¬ (φ=τ) by decide)] at H;exact H
   clear H
   have H:=H1
   clear H1
   have H':=ζa H
   clear H
   go_wp2_with (first|((with_reducible refine δv (f:=80) rfl ?_);refine goesL_ (some 7) rfl rfl Tryz.func80 (by kernel_rfl) rfl #[.slice A0 l0.length c0] rfl (by (try simp only [δd,δe,δf]);first|done|rfl|(simp only [δg,δh];rfl)) ?_;(with_reducible refine (impl_isList_impl_Pair.calls _ _ l0 φ _ ?side1 ?side2 A4.out).mono ?_);(case side1=>repeat (first|exact (Kd.C_below HR0.out HB.out)|(with_reducible refine Kd.C_alloc ?_ _)|(with_reducible refine Kd.C_drewN ?_ _)|(with_reducible refine Kd.C_drew ?_)));(case side2=>exact HC0.out);rintro e w' ⟨rfl,⟨nd,rfl⟩⟩;refine ⟨_,rfl,?_⟩))
   go_meet
   case rel=>exact ⟨_,(τ),(by first|rfl|(simp;done)|(simp [*];done)),H',⟨by first|omega|exact Nat.le_refl _⟩,⟨by repeat (first|(with_reducible first|exact HB.out|apply δk|apply δi|apply δj)|exact HB.out)⟩⟩
 case rest =>
  clear HC3
  try clear c1
  try clear p2
  try clear c5
  try clear c6
  obtain ⟨kq,x5_2,rfl,HA,HJ2,HB⟩:=hcut
  cases kq with
  | zero=>exact absurd HA.out (by simp [impl_storeCode.j0])
  | succ kj2 =>
   have H:=HA.out
   clear HA
   simp only [impl_storeCode.j0] at H
   by_cases c7:x5_2=τ
   ·
    subst c7
    have H1:(some 2)=some r:=by rw [if_pos rfl] at H;exact H
    clear H
    have H:=H1
    clear H1
    obtain rfl:=Option.some.inj H
    go_wp2
    go_ret
    exact ⟨by first|rfl|(simp [errW_none,errW_some] <;> rfl)|(simp [*,errW_none,errW_some] <;> rfl),by repeat (first|(with_reducible first|exact HB.out|apply δk|apply δi|apply δj)|exact HB.out)⟩
   ·
    replace c7:=Bool.eq_false_iff.mpr c7
    subst c7
    have H1:((impl_StoreOK.f kj2 l0).bind fun t649=>(if t649=τ then (some 0) else (some 1)))=some r:=by rw [if_neg (show ¬ (φ=τ) by decide)] at H;exact H
    clear H
    have H:=H1
    clear H1
    replace H:=Option.bind_eq_some_iff.mp H
    obtain ⟨t649,A80,H⟩:=H
    replace H:(if t649=τ then (some 0) else (some 1))=some r:=H
    have A8:=ζa A80
    clear A80
    by_cases c9:t649=τ
    ·
     subst c9
     have H1:(some 0)=some r:=by rw [if_pos rfl] at H;exact H
     clear H
     have H:=H1
     clear H1
     obtain rfl:=Option.some.inj H
     go_wp2_with (first|((with_reducible refine δv (f:=81) rfl ?_);refine goesL_ (some 16) rfl rfl Tryz.func81 (by kernel_rfl) rfl #[.slice A0 l0.length c0] rfl (by (try simp only [δd,δe,δf]);first|done|rfl|(simp only [δg,δh];rfl)) ?_;(with_reducible refine (impl_StoreOK.calls kj2 _ _ l0 τ _ ?side1 ?side2 A8.out).mono ?_);(case side1=>repeat (first|exact (Kd.C_below HR0.out HB.out)|(with_reducible refine Kd.C_alloc ?_ _)|(with_reducible refine Kd.C_drewN ?_ _)|(with_reducible refine Kd.C_drew ?_)));(case side2=>exact HC0.out);rintro e w10 ⟨rfl,hb⟩;refine ⟨_,rfl,?_⟩;have n0_:=ζa (δr (by repeat (first|(with_reducible first|exact HB.out|apply δk|apply δi|apply δj)|exact HB.out)) hb);clear HB;have HB:=n0_;clear n0_;(try clear hb);(try clear hb2);(try clear hk);(try clear hi)))
     go_ret
     exact ⟨by first|rfl|(simp [errW_none,errW_some] <;> rfl)|(simp [*,errW_none,errW_some] <;> rfl),by repeat (first|(with_reducible first|exact HB.out|apply δk|apply δi|apply δj)|exact HB.out)⟩
    ·
     replace c9:=Bool.eq_false_iff.mpr c9
     subst c9
     have H1:(some 1)=some r:=by rw [if_neg (show ¬ (φ=τ) by decide)] at H;exact H
     clear H
     have H:=H1
     clear H1
     obtain rfl:=Option.some.inj H
     go_wp2_with (first|((with_reducible refine δv (f:=81) rfl ?_);refine goesL_ (some 16) rfl rfl Tryz.func81 (by kernel_rfl) rfl #[.slice A0 l0.length c0] rfl (by (try simp only [δd,δe,δf]);first|done|rfl|(simp only [δg,δh];rfl)) ?_;(with_reducible refine (impl_StoreOK.calls kj2 _ _ l0 φ _ ?side1 ?side2 A8.out).mono ?_);(case side1=>repeat (first|exact (Kd.C_below HR0.out HB.out)|(with_reducible refine Kd.C_alloc ?_ _)|(with_reducible refine Kd.C_drewN ?_ _)|(with_reducible refine Kd.C_drew ?_)));(case side2=>exact HC0.out);rintro e w11 ⟨rfl,hb⟩;refine ⟨_,rfl,?_⟩;have n0_:=ζa (δr (by repeat (first|(with_reducible first|exact HB.out|apply δk|apply δi|apply δj)|exact HB.out)) hb);clear HB;have HB:=n0_;clear n0_;(try clear hb);(try clear hb2);(try clear hk);(try clear hi)))
     go_ret
     exact ⟨by first|rfl|(simp [errW_none,errW_some] <;> rfl)|(simp [*,errW_none,errW_some] <;> rfl),by repeat (first|(with_reducible first|exact HB.out|apply δk|apply δi|apply δj)|exact HB.out)⟩

end Go.Proofs.YtabmfhnhmoiljaaGreatDoor.Q

/- A store is a row of pairs: its size, its copy, whether it stands, and what is found in it. -/
namespace Go.Proofs.YtabmfhnhmoiljaaGreatDoor.U
open Go Go.RowKit Go.Proofs.YtabmfhnhmoiljaaGreatDoor.Q Go.Proofs.YtabmfhnhmoiljaaGreatDoorW.PrintWords Go.Proofs.YtabmfhnhmoiljaaGreatDoorW.PrintLast Go.Proofs.YtabmfhnhmoiljaaGreatDoorW.PrintMore
set_option linter.unusedVariables false
set_option linter.unusedSimpArgs false

abbrev LP := S49
abbrev IP := S51
def toP (x : LP) : IP := ⟨x.f0, x.f1⟩
theorem rdL (l : List LP) (i : Nat) (h : i < l.length) : rd_T49 l (i : Int) = l[i] := by simp [rd_T49, List.getD_eq_getElem?_getD, List.getElem?_eq_getElem h]
theorem rdI (l : List IP) (i : Nat) (h : i < l.length) : rd_T51 l (i : Int) = l[i] := by simp [rd_T51, List.getD_eq_getElem?_getD, List.getElem?_eq_getElem h]

theorem szPair_ok (a b : ByteArray) (n : Int) (ha : a.size ≤ 9223372036854775807) (hb : b.size ≤ 9223372036854775807) (h0 : 0 ≤ n) (h1 : n ≤ 1048576) :
    ∃ z, laws_szPair.f a b n = some z ∧ (z < 0 ∨ (0 ≤ z ∧ z ≤ n ∧ a.size ≤ 1048576 ∧ b.size ≤ 1048576)) := by
  unfold laws_szPair.f
  rw [wid (n := n - (a.size : Int)) (by omega) (by omega)]
  by_cases c1 : n - (a.size : Int) < 0
  · exact ⟨-1, by rw [if_pos c1], .inl (by decide)⟩
  rw [if_neg c1, wid (n := n - (a.size : Int) - (b.size : Int)) (by omega) (by omega)]
  by_cases c2 : n - (a.size : Int) - (b.size : Int) < 0
  · exact ⟨-1, by rw [if_pos c2], .inl (by decide)⟩
  exact ⟨_, by rw [if_neg c2], .inr (by omega)⟩
/-- All pairs are short. -/
def Short (l : List LP) : Prop := l.length ≤ 1048576 ∧ ∀ x ∈ l, x.f0.size ≤ 1048576 ∧ x.f1.size ≤ 1048576
theorem szPairS_go (l : List LP) (hl : l.length ≤ 1048576) (hx : ∀ x ∈ l, x.f0.size ≤ 9223372036854775807 ∧ x.f1.size ≤ 9223372036854775807) : ∀ (d i : Nat) (n : Int), i + d = l.length → 0 ≤ n → n ≤ 1048576 →
    ∃ z, Ev (fun k => laws_szPairS.l0 k l n (i : Int)) z ∧ (z < 0 ∨ (0 ≤ z ∧ z ≤ n ∧ ∀ x ∈ l.drop i, x.f0.size ≤ 1048576 ∧ x.f1.size ≤ 1048576)) := by
  intro d
  induction d with
  | zero =>
    intro i n hi h0 h1
    refine ⟨n, Ev.step (fun k => ?_) (Ev.now _), .inr ⟨h0, Int.le_refl _, ?_⟩⟩
    · rw [laws_szPairS.l0, if_neg (by omega)]
    · rw [List.drop_of_length_le (by omega)]; simp
  | succ d ih =>
    intro i n hi h0 h1
    have hlt : i < l.length := by omega
    obtain ⟨z1, e1, hz1⟩ := szPair_ok l[i].f0 l[i].f1 n (hx _ (List.getElem_mem hlt)).1 (hx _ (List.getElem_mem hlt)).2 h0 h1
    have hstep : ∀ k, laws_szPairS.l0 (k + 1) l n (i : Int) = if z1 < 0 then some (-1) else laws_szPairS.l0 k l z1 ((i + 1 : Nat) : Int) := by
      intro k
      rw [laws_szPairS.l0, if_pos (by omega), if_pos (by omega), rdL l i hlt, e1, wid (n := (i : Int) + 1) (by omega) (by omega)]
      rfl
    by_cases hn : z1 < 0
    · exact ⟨-1, Ev.step hstep (by simp only [if_pos hn]; exact Ev.now _), .inl (by decide)⟩
    rcases hz1 with hz1 | ⟨hz0, hzn, ha, hb⟩
    · exact absurd hz1 hn
    obtain ⟨z, e2, hz⟩ := ih (i + 1) z1 (by omega) hz0 (by omega)
    refine ⟨z, Ev.step hstep (by simp only [if_neg hn]; exact e2), ?_⟩
    rcases hz with hz | ⟨hz1, hz2, hz3⟩
    · exact .inl hz
    refine .inr ⟨hz1, by omega, ?_⟩
    rw [List.drop_eq_getElem_cons hlt]
    intro x hxm
    rcases List.mem_cons.1 hxm with rfl | hxm
    · exact ⟨ha, hb⟩
    · exact hz3 x hxm
theorem szPairS_ev (l : List LP) (n : Int) (hl : l.length ≤ 9223372036854775807) (hx : ∀ x ∈ l, x.f0.size ≤ 9223372036854775807 ∧ x.f1.size ≤ 9223372036854775807) (h0 : 0 ≤ n) (h1 : n ≤ 1048576) :
    ∃ z, Ev (fun k => laws_szPairS.f k l n) z ∧ (z < 0 ∨ (0 ≤ z ∧ z ≤ n ∧ Short l)) := by
  unfold laws_szPairS.f
  rw [wid (n := n - (l.length : Int)) (by omega) (by omega)]
  by_cases c1 : n - (l.length : Int) < 0
  · exact ⟨-1, by simp only [if_pos c1]; exact Ev.now _, .inl (by decide)⟩
  simp only [if_neg c1]
  obtain ⟨z, e, hz⟩ := szPairS_go l (by omega) hx l.length 0 (n - (l.length : Int)) (by omega) (by omega) (by omega)
  refine ⟨z, e, ?_⟩
  rcases hz with hz | ⟨hz1, hz2, hz3⟩
  · exact .inl hz
  · exact .inr ⟨hz1, by omega, by omega, by simpa using hz3⟩

theorem toPairS_go (l : List LP) (hl : l.length ≤ 1048576) : ∀ (d i : Nat) (o : List IP), i + d = l.length → o.length = l.length → (∀ j, j < i → o[j]? = (l.map toP)[j]?) →
    Ev (fun k => laws_toPairS.l0 k l o (i : Int)) (l.map toP) := by
  intro d
  induction d with
  | zero =>
    intro i o hi ho hj
    have e : o = l.map toP := by
      apply List.ext_getElem?
      intro j
      by_cases h : j < i
      · exact hj j h
      · rw [List.getElem?_eq_none (by omega), List.getElem?_eq_none (by simp; omega)]
    refine Ev.step (fun k => ?_) (Ev.now _)
    rw [laws_toPairS.l0, if_neg (by omega), e]
  | succ d ih =>
    intro i o hi ho hj
    have hlt : i < l.length := by omega
    refine Ev.step (f := fun k => laws_toPairS.l0 k l (o.set i (toP l[i])) ((i + 1 : Nat) : Int)) (fun k => ?_) (ih (i + 1) (o.set i (toP l[i])) (by omega) (by simpa using ho) ?_)
    · rw [laws_toPairS.l0, if_pos (by omega), if_pos (by omega), rdL l i hlt]
      simp only [laws_toPair.f, Option.bind_some]
      rw [if_pos (by omega), wid (n := (i : Int) + 1) (by omega) (by omega)]
      rfl
    · intro j hji
      rw [List.getElem?_set]
      by_cases h : i = j
      · subst h
        rw [if_pos rfl, if_pos (by omega)]
        simp [hlt]
      · rw [if_neg h]
        exact hj j (by omega)
theorem toPairS_ev (l : List LP) (hl : l.length ≤ 1048576) : Ev (fun k => laws_toPairS.f k l) (l.map toP) := by
  unfold laws_toPairS.f
  simp only [if_pos (show (0 : Int) ≤ (l.length : Int) by omega), if_pos (show (l.length : Int).toNat ≤ 8796093022208 by omega)]
  exact toPairS_go l hl l.length 0 _ (by omega) (by simp) (by simp)
theorem eqPair_self (a b : ByteArray) : laws_eqPair.f a b a b = some true := by unfold laws_eqPair.f; rw [if_pos rfl, if_pos rfl]
theorem eqPairS_go (l : List IP) (hl : l.length ≤ 1048576) : ∀ (d i : Nat), i + d = l.length → Ev (fun k => laws_eqPairS.l0 k l l (i : Int)) true := by
  intro d
  induction d with
  | zero =>
    intro i hi
    exact Ev.step (fun k => by rw [laws_eqPairS.l0, if_neg (by omega)]) (Ev.now _)
  | succ d ih =>
    intro i hi
    refine Ev.step (f := fun k => laws_eqPairS.l0 k l l ((i + 1 : Nat) : Int)) (fun k => ?_) (ih (i + 1) (by omega))
    rw [laws_eqPairS.l0, if_pos (by omega), if_pos (by omega), if_pos (by omega), eqPair_self, wid (n := (i : Int) + 1) (by omega) (by omega)]
    rfl
theorem eqPairS_ev (l : List IP) (hl : l.length ≤ 1048576) : Ev (fun k => laws_eqPairS.f k l l) true := by
  unfold laws_eqPairS.f
  simp only [if_true]
  exact eqPairS_go l hl l.length 0 (by omega)

/-! ### whether it stands -/
def keyB (x : ByteArray) : Bool := decide (1 ≤ x.size ∧ x.size ≤ 60)
def valueB (x : ByteArray) : Bool := decide (x.size ≤ 1000)
def lessB (l : List IP) (i : Nat) : Bool := decide (i = 0) || Op.bytesLess ((rd_T51 l ((i : Int) - 1)).f0).toList ((rd_T51 l (i : Int)).f0).toList
def pairB (l : List IP) (i : Nat) : Bool := keyB (rd_T51 l (i : Int)).f0 && (valueB (rd_T51 l (i : Int)).f1 && lessB l i)
def fromB (l : List IP) : Nat → Nat → Bool
  | 0, _ => true
  | d + 1, i => pairB l i && fromB l d (i + 1)
/-- The store stands: keys and values are in their bounds, keys rise, and there are at most 400. -/
def storeB (l : List IP) : Bool := fromB l l.length 0 && decide (l.length ≤ 400)
theorem implKey_eq (x : ByteArray) : impl_isKey.f x = some (keyB x) := by
  unfold impl_isKey.f impl_within.f keyB
  by_cases h : (x.size : Int) ≥ 1
  · simp only [if_pos h, Option.bind_some]; congr 1; rw [decide_eq_decide]; omega
  · simp only [if_neg h, Option.bind_some]; congr 1; rw [eq_comm, decide_eq_false_iff_not]; omega
theorem specKey_eq (x : ByteArray) : spec_l03Key.f x = some (keyB x) := by
  unfold spec_l03Key.f spec_l01In.f keyB
  by_cases h : (x.size : Int) ≥ 1
  · simp only [if_pos h, Option.bind_some]; congr 1; rw [decide_eq_decide]; omega
  · simp only [if_neg h, Option.bind_some]; congr 1; rw [eq_comm, decide_eq_false_iff_not]; omega
theorem implValue_eq (x : ByteArray) : impl_isValue.f x = some (valueB x) := by
  unfold impl_isValue.f valueB; congr 1; rw [decide_eq_decide]; omega
theorem specPair_eq (x y : ByteArray) : spec_l03Pair.f x y = some (keyB x && valueB y) := by
  unfold spec_l03Pair.f valueB
  rw [specKey_eq]
  simp only [Option.bind_some]
  cases keyB x with
  | false => rfl
  | true => simp only [if_true, Bool.true_and]; congr 1; rw [decide_eq_decide]; omega
theorem specStore_go (l : List IP) (hl : l.length ≤ 1048576) : ∀ (d i : Nat), i + d = l.length → Ev (fun k => spec_StoreOK.l0 k l (i : Int)) (fromB l d i) := by
  intro d
  induction d with
  | zero =>
    intro i hi
    exact Ev.step (fun k => by rw [spec_StoreOK.l0, if_neg (by omega)]; rfl) (Ev.now _)
  | succ d ih =>
    intro i hi
    have hstep : ∀ k, spec_StoreOK.l0 (k + 1) l (i : Int) = if pairB l i = true then spec_StoreOK.l0 k l ((i + 1 : Nat) : Int) else some false := by
      intro k
      rw [spec_StoreOK.l0, if_pos (by omega), if_pos (by omega), specPair_eq]
      simp only [Option.bind_some, pairB, lessB]
      rw [wid (n := (i : Int) + 1) (by omega) (by omega)]
      rcases Bool.eq_false_or_eq_true (keyB (rd_T51 l (i : Int)).f0) with hk | hk
      · rcases Bool.eq_false_or_eq_true (valueB (rd_T51 l (i : Int)).f1) with hv | hv
        · simp only [hk, hv, Bool.true_and, Bool.and_self, if_true]
          by_cases h0 : i = 0
          · subst h0; simp
          · rw [if_pos (show (i : Int) > 0 by omega), wid (n := (i : Int) - 1) (by omega) (by omega), if_pos (by omega), if_pos (by omega), decide_eq_false h0, Bool.false_or]
            rfl
        · simp only [hk, hv, Bool.true_and, Bool.and_false, Bool.false_and, Bool.false_eq_true, if_false, if_true]
      · simp only [hk, Bool.false_and, Bool.false_eq_true, if_false]
    have h2 := ih (i + 1) (by omega)
    refine Ev.step hstep ?_
    rw [fromB]
    cases pairB l i with
    | false => exact Ev.now _
    | true => simp only [if_true, Bool.true_and]; exact h2
theorem specStoreOK_ev (l : List IP) (hl : l.length ≤ 1048576) : Ev (fun k => spec_StoreOK.f k l) (storeB l) := by
  unfold spec_StoreOK.f storeB
  by_cases h1 : (l.length : Int) > 4096
  · simp only [if_pos h1, decide_eq_false (show ¬ l.length ≤ 400 by omega), Bool.and_false]; exact Ev.now _
  simp only [if_neg h1]
  by_cases h2 : (l.length : Int) > 400
  · simp only [if_pos h2, decide_eq_false (show ¬ l.length ≤ 400 by omega), Bool.and_false]; exact Ev.now _
  simp only [if_neg h2, decide_eq_true (show l.length ≤ 400 by omega), Bool.and_true]
  exact specStore_go l hl l.length 0 (by omega)
theorem implStore_go (l : List IP) (hl : l.length ≤ 1048576) : ∀ (d i : Nat), i + d = l.length → Ev (fun k => impl_StoreOK.l0 k l l (l.length : Int) (i : Int)) (fromB l d i && decide (l.length ≤ 400)) := by
  intro d
  induction d with
  | zero =>
    intro i hi
    refine Ev.step (fun k => ?_) (Ev.now _)
    rw [impl_StoreOK.l0, if_neg (by omega), fromB, Bool.true_and]
    congr 1; rw [decide_eq_decide]; omega
  | succ d ih =>
    intro i hi
    have hstep : ∀ k, impl_StoreOK.l0 (k + 1) l l (l.length : Int) (i : Int) = if pairB l i = true then impl_StoreOK.l0 k l l (l.length : Int) ((i + 1 : Nat) : Int) else some false := by
      intro k
      rw [impl_StoreOK.l0, if_pos (by omega), if_pos (by omega), if_pos (by omega), implKey_eq, implValue_eq]
      simp only [Option.bind_some, pairB, lessB]
      rw [wid (n := (i : Int) + 1) (by omega) (by omega)]
      rcases Bool.eq_false_or_eq_true (keyB (rd_T51 l (i : Int)).f0) with hk | hk
      · rcases Bool.eq_false_or_eq_true (valueB (rd_T51 l (i : Int)).f1) with hv | hv
        · simp only [hk, hv, Bool.true_and, Bool.and_self, if_true]
          by_cases h0 : i = 0
          · subst h0; simp
          · rw [if_pos (show (i : Int) > 0 by omega), wid (n := (i : Int) - 1) (by omega) (by omega), if_pos (by omega), if_pos (by omega), decide_eq_false h0, Bool.false_or]
            rfl
        · simp only [hk, hv, Bool.true_and, Bool.and_false, Bool.false_and, Bool.false_eq_true, if_false, if_true]
      · simp only [hk, Bool.false_and, Bool.false_eq_true, if_false]
    have h2 := ih (i + 1) (by omega)
    refine Ev.step hstep ?_
    rw [fromB]
    cases pairB l i with
    | false => exact Ev.now _
    | true => simp only [if_true, Bool.true_and]; exact h2
theorem implStoreOK_ev (l : List IP) (hl : l.length ≤ 1048576) : Ev (fun k => impl_StoreOK.f k l) (storeB l) := by
  unfold impl_StoreOK.f storeB
  exact implStore_go l hl l.length 0 (by omega)
/-- The code of a store, no texts being too long. -/
def storeV (l : List IP) : Int := if l.length ≤ 4096 then (if storeB l = true then 0 else 1) else 2
theorem storeCode_ev (l : List IP) (ts : List ByteArray) (hl : l.length ≤ 1048576) :
    Ev (fun k => impl_storeCode.f k l ts) (if l.length ≤ 4096 ∧ (ts.any fun t => decide ((t.size : Int) > 65536)) = false then (if storeB l = true then 0 else 1) else 2) := by
  unfold impl_storeCode.f impl_isList_impl_Pair.f impl_isText.f
  simp only [Option.bind_some]
  have hbad : Ev (fun k => impl_storeCode.j0 k l true) 2 := Ev.step (fun k => by rw [impl_storeCode.j0, if_pos rfl]) (Ev.now _)
  by_cases h1 : l.length ≤ 4096
  · rw [decide_eq_true (show (l.length : Int) ≤ 4096 by omega)]
    simp only [if_true]
    cases h2 : (ts.any fun t => decide ((t.size : Int) > 65536)) with
    | true => simp only [Bool.not_true, Bool.not_false, Bool.true_eq_false, and_false, if_false]; exact hbad
    | false =>
      simp only [Bool.not_false, Bool.not_true, h1, and_true, if_true]
      refine Ev.step (fun k => by rw [impl_storeCode.j0, if_neg (by decide)]) (Ev.bind (implStoreOK_ev l hl) ?_)
      cases storeB l with
      | false => exact Ev.now _
      | true => simp only [if_true]; exact Ev.now _
  · rw [decide_eq_false (show ¬ (l.length : Int) ≤ 4096 by omega), if_neg (by simp [h1])]
    exact hbad
end Go.Proofs.YtabmfhnhmoiljaaGreatDoor.U

/- Marks: what the laws write into rows to see whether memory is shared. -/
namespace Go.Proofs.YtabmfhnhmoiljaaGreatDoor.U
open Go Go.RowKit Go.Proofs.YtabmfhnhmoiljaaGreatDoor.Q Go.Proofs.YtabmfhnhmoiljaaGreatDoorW.PrintWords Go.Proofs.YtabmfhnhmoiljaaGreatDoorW.PrintLast Go.Proofs.YtabmfhnhmoiljaaGreatDoorW.PrintMore
set_option linter.unusedVariables false
set_option linter.unusedSimpArgs false

def markV (n : Nat) : ByteArray := if n = 0 then (⟨#[109, 48]⟩ : ByteArray) else (⟨#[109]⟩ : ByteArray) ++ digV n
theorem digV_big {v : Nat} (h : ¬ v < 10) : digV v = digV (v / 10) ++ (⟨#[UInt8.ofNat (48 + v % 10)]⟩ : ByteArray) := by
  apply ByteArray.ext
  unfold digV
  rw [dec_big h]
  simp
theorem mark_go (v : Nat) : ∀ (acc : ByteArray), 1 ≤ v → v ≤ 1000000000000000000 → acc.size + v ≤ 9000000000000000000 → Ev (fun k => laws_markText.l0 k (v : Int) acc) ((⟨#[109]⟩ : ByteArray) ++ (digV v ++ acc)) := by
  induction v using Nat.strongRecOn with
  | _ v ih =>
    intro acc h1 h2 h3
    have e1 : wrap64 (Int.tdiv (v : Int) 10) = ((v / 10 : Nat) : Int) := by rw [tdiv_nn (by omega), wid (by omega) (by omega)]; omega
    have e2 : Int.tmod (v : Int) 10 = ((v % 10 : Nat) : Int) := by rw [tmod_nn (by omega)]; omega
    have sz : (⟨#[UInt8.ofNat (48 + v % 10)]⟩ : ByteArray).size = 1 := rfl
    refine Ev.step (f := fun k => laws_markText.l0 k ((v / 10 : Nat) : Int) ((⟨#[UInt8.ofNat (48 + v % 10)]⟩ : ByteArray) ++ acc)) (fun k => ?_) ?_
    · rw [laws_markText.l0, if_pos (by omega), e1, e2]
      simp only [Option.bind_some, one_digit (v % 10) (by omega)]
      rw [if_pos (by rw [sz]; omega)]
    · have hacc : ((⟨#[UInt8.ofNat (48 + v % 10)]⟩ : ByteArray) ++ acc).size = 1 + acc.size := by rw [ByteArray.size_append, sz]
      by_cases hv : v < 10
      · have e : v / 10 = 0 := by omega
        rw [e]
        refine Ev.step (fun k => ?_) (Ev.now _)
        rw [show ((0 : Nat) : Int) = 0 from rfl, laws_markText.l0, if_neg (by decide), if_pos (by rw [hacc]; omega)]
        have : digV v = (⟨#[UInt8.ofNat (48 + v % 10)]⟩ : ByteArray) := by
          apply ByteArray.ext
          unfold digV
          rw [Lib.decDigits_one hv, Nat.mod_eq_of_lt hv]
        rw [this]
      · have := ih (v / 10) (by omega) ((⟨#[UInt8.ofNat (48 + v % 10)]⟩ : ByteArray) ++ acc) (by omega) (by omega) (by rw [hacc]; omega)
        rw [digV_big hv]
        simp only [ByteArray.append_assoc] at this ⊢
        exact this
theorem markText_ev (n : Nat) (h : n ≤ 1000000000000000000) : Ev (fun k => laws_markText.f k (n : Int)) (markV n) := by
  unfold laws_markText.f markV
  by_cases h0 : n = 0
  · subst h0
    simp only [if_pos (show ((0 : Nat) : Int) ≤ 0 by decide), if_true]
    exact Ev.now _
  · simp only [if_neg (show ¬ (n : Int) ≤ 0 by omega), if_neg h0]
    have e := mark_go n (⟨#[]⟩ : ByteArray) (by omega) h (by show 0 + n ≤ _; omega)
    have z : digV n ++ (⟨#[]⟩ : ByteArray) = digV n := by apply ByteArray.ext; simp
    rw [z] at e
    exact e
/-- The pairs as they are marked, from a number on. -/
def markP (n i : Nat) : IP := ⟨markV (n + 2 * i), markV (n + 2 * i + 1)⟩
def markPs (n : Nat) (l : List IP) : List IP := (List.range l.length).map fun i => markP n i
theorem markPairS_go (N : Nat) (l : List IP) (n : Nat) (hl : l.length = N) (hN : N ≤ 1048576) (hn : n ≤ 1000000) : ∀ (d i : Nat) (o : List IP), i + d = N → o.length = N → (∀ j, j < i → o[j]? = some (markP n j)) →
    Ev (fun k => laws_markPairS.l0 k o ((n + 2 * i : Nat) : Int) (i : Int)) (((n + 2 * N : Nat) : Int), markPs n l) := by
  intro d
  induction d with
  | zero =>
    intro i o hi ho hj
    have e : o = markPs n l := by
      apply List.ext_getElem?
      intro j
      by_cases h : j < i
      · rw [hj j h]; unfold markPs; rw [List.getElem?_map, List.getElem?_range (by omega)]; rfl
      · rw [List.getElem?_eq_none (by omega), List.getElem?_eq_none (by unfold markPs; simp; omega)]
    refine Ev.step (fun k => ?_) (Ev.now _)
    rw [laws_markPairS.l0, if_neg (by omega), e, show i = N by omega]
  | succ d ih =>
    intro i o hi ho hj
    have hlt : i < o.length := by omega
    refine Ev.step (f := fun k => (laws_markText.f k ((n + 2 * i : Nat) : Int)).bind fun t => (laws_markText.f k ((n + 2 * i + 1 : Nat) : Int)).bind fun u => laws_markPairS.l0 k (o.set i ⟨t, u⟩) ((n + 2 * (i + 1) : Nat) : Int) ((i + 1 : Nat) : Int)) (fun k => ?_) ?_
    · have w1 : wrap64 (((n + 2 * i : Nat) : Int) + 1) = ((n + 2 * i + 1 : Nat) : Int) := by rw [wid (by omega) (by omega)]; omega
      have w2 : wrap64 (((n + 2 * i + 1 : Nat) : Int) + 1) = ((n + 2 * (i + 1) : Nat) : Int) := by rw [wid (by omega) (by omega)]; omega
      have w3 : wrap64 ((i : Int) + 1) = ((i + 1 : Nat) : Int) := by rw [wid (by omega) (by omega)]; omega
      rw [laws_markPairS.l0, if_pos (by omega)]
      congr 1
      funext t
      rw [if_pos (by omega), w1, w2, w3]
      simp only [Option.bind_some]
      congr 1
      funext u
      rw [Int.toNat_natCast, List.set_set]
      have : (rd_T51 (o.set i (⟨t, (rd_T51 o (i : Int)).f1⟩ : IP)) (i : Int)).f0 = t := by
        rw [rdI _ i (by rw [List.length_set]; exact hlt), List.getElem_set_self]
      rw [this]
    · refine Ev.bind (markText_ev _ (by omega)) (Ev.bind (markText_ev _ (by omega)) ?_)
      refine ih (i + 1) _ (by omega) (by rw [List.length_set]; exact ho) (fun j hji => ?_)
      rw [List.getElem?_set]
      by_cases h : i = j
      · subst h
        rw [if_pos rfl, if_pos hlt]
        rfl
      · rw [if_neg h]
        exact hj j (by omega)
theorem markPairS_ev (l : List IP) (n : Nat) (hN : l.length ≤ 1048576) (hn : n ≤ 1000000) : Ev (fun k => laws_markPairS.f k l (n : Int)) (((n + 2 * l.length : Nat) : Int), markPs n l) := by
  unfold laws_markPairS.f
  exact markPairS_go l.length l n rfl hN hn l.length 0 l (by omega) rfl (fun j h => by omega)
end Go.Proofs.YtabmfhnhmoiljaaGreatDoor.U

/- Names of accounts and denominations: as the reference and as the program read them. -/
namespace Go.Proofs.YtabmfhnhmoiljaaGreatDoor.U
open Go Go.RowKit Go.Proofs.YtabmfhnhmoiljaaGreatDoor.Q Go.Proofs.YtabmfhnhmoiljaaGreatDoorW.PrintWords Go.Proofs.YtabmfhnhmoiljaaGreatDoorW.PrintLast Go.Proofs.YtabmfhnhmoiljaaGreatDoorW.PrintMore
set_option linter.unusedVariables false
set_option linter.unusedSimpArgs false

def Letter (c : Int) : Prop := (97 ≤ c ∧ c ≤ 122) ∨ (65 ≤ c ∧ c ≤ 90) ∨ c = 95
def Digit (c : Int) : Prop := 48 ≤ c ∧ c ≤ 57
def IsName (x : ByteArray) : Prop := 1 ≤ x.size ∧ x.size ≤ 40 ∧ ∀ j : Int, 0 ≤ j → j < (x.size : Int) → Letter (bt x j) ∨ (j ≠ 0 ∧ Digit (bt x j))
instance (c : Int) : Decidable (Letter c) := by unfold Letter; infer_instance
instance (c : Int) : Decidable (Digit c) := by unfold Digit; infer_instance

theorem nameok_l0 (x : ByteArray) (hn : (x.size : Int) ≤ 140737488351232) (d : Nat) : ∀ i : Int, 0 ≤ i → i ≤ (x.size : Int) → (x.size : Int) - i = d →
    ∃ b, Ev (fun k => impl_NameOK.l0 k x (x.size : Int) i) b ∧ (b = true ↔ (∀ j : Int, i ≤ j → j < (x.size : Int) → Letter (bt x j) ∨ (j ≠ 0 ∧ Digit (bt x j))) ∧ 1 ≤ x.size ∧ x.size ≤ 40) := by
  induction d with
  | zero =>
    intro i h0 h1 hd
    refine ⟨decide (1 ≤ (x.size : Int) ∧ (x.size : Int) ≤ 40), Ev.step (fun k => ?_) (Ev.now _), ?_⟩
    · rw [impl_NameOK.l0, if_neg (by omega)]
      unfold impl_within.f
      by_cases h : (x.size : Int) ≥ 1
      · rw [if_pos h]
        simp only [Option.bind_some]
        congr 1
        exact decide_eq_decide.2 ⟨fun y => ⟨h, y⟩, fun y => y.2⟩
      · rw [if_neg h, decide_eq_false (fun y => h y.1)]
        rfl
    · rw [decide_eq_true_iff]
      exact ⟨fun h => ⟨fun j hj hj' => by omega, by omega, by omega⟩, fun h => by omega⟩
  | succ d ih =>
    intro i h0 h1 hd
    have hlt : i < (x.size : Int) := by omega
    by_cases hg : Letter (bt x i) ∨ (i ≠ 0 ∧ Digit (bt x i))
    · obtain ⟨b, hb, hb'⟩ := ih (i + 1) (by omega) (by omega) (by omega)
      refine ⟨b, Ev.step (fun k => ?_) hb, hb'.trans ⟨fun h => ⟨fun j hj hj' => ?_, h.2⟩, fun h => ⟨fun j hj hj' => h.1 j (by omega) hj', h.2⟩⟩⟩
      · rw [impl_NameOK.l0, if_pos hlt, if_pos h0, if_pos hlt, wid (n := i + 1) (by omega) (by omega)]
        unfold Letter Digit at hg
        generalize bt x i = c at *
        repeat' split
        all_goals first | rfl | (exfalso; omega)
      · by_cases e : j = i
        · subst e; exact hg
        · exact h.1 j (by omega) hj'
    · refine ⟨false, Ev.step (fun k => ?_) (Ev.now _), ⟨(fun h => by cases h), fun h => absurd (h.1 i (Int.le_refl _) hlt) hg⟩⟩
      rw [impl_NameOK.l0, if_pos hlt, if_pos h0, if_pos hlt]
      unfold Letter Digit at hg
      generalize bt x i = c at *
      repeat' split
      all_goals first | rfl | (exfalso; omega)

theorem NameOK_ev (x : ByteArray) (hn : (x.size : Int) ≤ 140737488351232) : ∃ b, Ev (fun k => impl_NameOK.f k x) b ∧ (b = true ↔ IsName x) := by
  obtain ⟨b, hb, hb'⟩ := nameok_l0 x hn x.size 0 (by omega) (by omega) (by omega)
  exact ⟨b, hb, hb'.trans ⟨fun h => ⟨h.2.1, h.2.2, h.1⟩, fun h => ⟨h.2.2, h.1, h.2.1⟩⟩⟩

theorem bool_of_iff {b : Bool} {p : Prop} [Decidable p] (h : b = true ↔ p) : b = decide p := by rw [Bool.eq_iff_iff, h, decide_eq_true_iff]
theorem letter_eq (c : Int) : spec_l00Letter.f c = some (decide (Letter c)) := by
  unfold spec_l00Letter.f
  repeat' split
  all_goals
    refine congrArg some (bool_of_iff ?_)
    unfold Letter
    first
    | exact ⟨fun _ => by omega, fun _ => rfl⟩
    | (rw [beq_iff_eq]; omega)
theorem digit_eq (c : Int) : spec_l00Digit.f c = some (decide (Digit c)) := by
  unfold spec_l00Digit.f
  split
  · refine congrArg some (bool_of_iff ?_)
    unfold Digit
    rw [decide_eq_true_iff]
    omega
  · refine congrArg some (bool_of_iff ?_)
    unfold Digit
    exact ⟨(fun h => by cases h), fun h => by omega⟩

theorem word_l0 (x : ByteArray) (hn : (x.size : Int) ≤ 40) (d : Nat) : ∀ i : Int, 1 ≤ i → i ≤ (x.size : Int) → (x.size : Int) - i = d →
    ∃ b, Ev (fun k => spec_l00Word.l0 k x i) b ∧ (b = true ↔ ∀ j : Int, i ≤ j → j < (x.size : Int) → Letter (bt x j) ∨ (j ≠ 0 ∧ Digit (bt x j))) := by
  induction d with
  | zero =>
    intro i h0 h1 hd
    exact ⟨true, Ev.step (fun k => by rw [spec_l00Word.l0, if_neg (by omega)]) (Ev.now _), ⟨fun _ j hj hj' => by omega, fun _ => rfl⟩⟩
  | succ d ih =>
    intro i h0 h1 hd
    have hlt : i < (x.size : Int) := by omega
    have hstep : ∀ k, spec_l00Word.l0 (k + 1) x i = if decide (Letter (bt x i)) = true then spec_l00Word.l0 k x (i + 1) else if decide (Digit (bt x i)) = true then spec_l00Word.l0 k x (i + 1) else some false := by
      intro k
      rw [spec_l00Word.l0, if_pos hlt, if_pos (by omega), letter_eq, digit_eq, wid (n := i + 1) (by omega) (by omega)]
      rfl
    by_cases hg : Letter (bt x i) ∨ Digit (bt x i)
    · obtain ⟨b, hb, hb'⟩ := ih (i + 1) (by omega) (by omega) (by omega)
      refine ⟨b, Ev.step (fun k => ?_) hb, hb'.trans ⟨fun h j hj hj' => ?_, fun h j hj hj' => h j (by omega) hj'⟩⟩
      · rw [hstep]
        rcases hg with hg | hg
        · rw [if_pos (decide_eq_true hg)]
        · rw [if_pos (decide_eq_true hg)]
          split <;> rfl
      · by_cases e : j = i
        · subst e; exact hg.imp id (fun y => ⟨by omega, y⟩)
        · exact h j (by omega) hj'
    · refine ⟨false, Ev.step (fun k => ?_) (Ev.now _), ⟨(fun h => by cases h), fun h => absurd ((h i (Int.le_refl _) hlt).imp id (fun y => y.2)) hg⟩⟩
      rw [hstep, if_neg (by rw [decide_eq_true_iff]; exact fun y => hg (.inl y)), if_neg (by rw [decide_eq_true_iff]; exact fun y => hg (.inr y))]

theorem Word_ev (x : ByteArray) : ∃ b, Ev (fun k => spec_l00Word.f k x) b ∧ (b = true ↔ IsName x) := by
  unfold spec_l00Word.f
  have hf : Ev (fun k => spec_l00Word.j0 k x true) false := Ev.step (fun k => by rw [spec_l00Word.j0, if_pos rfl]) (Ev.now _)
  by_cases h1 : (x.size : Int) < 1
  · simp only [if_pos h1]
    exact ⟨false, hf, ⟨(fun h => by cases h), fun h => by have := h.1; omega⟩⟩
  simp only [if_neg h1]
  by_cases h2 : (x.size : Int) > 40
  · simp only [if_pos h2]
    exact ⟨false, hf, ⟨(fun h => by cases h), fun h => by have := h.2.1; omega⟩⟩
  simp only [if_neg h2, if_pos (show (0 : Int) < (x.size : Int) by omega), letter_eq, Option.bind_some]
  by_cases h3 : Letter (bt x 0)
  · obtain ⟨b, hb, hb'⟩ := word_l0 x (by omega) (x.size - 1) 1 (by omega) (by omega) (by omega)
    refine ⟨b, ?_, hb'.trans ⟨fun h => ⟨by omega, by omega, fun j hj hj' => ?_⟩, fun h j hj hj' => h.2.2 j (by omega) hj'⟩⟩
    · rw [decide_eq_true h3]
      exact Ev.step (fun k => by rw [Bool.not_true, spec_l00Word.j0, if_neg (by decide)]) hb
    · by_cases e : j = 0
      · subst e; exact .inl h3
      · exact h j (by omega) hj'
  · rw [decide_eq_false h3]
    refine ⟨false, hf, ⟨(fun h => by cases h), fun h => ?_⟩⟩
    rcases h.2.2 0 (by omega) (by omega) with h | h
    · exact absurd h h3
    · exact absurd rfl h.1

noncomputable instance (x : ByteArray) : Decidable (IsName x) := Classical.propDecidable _
/-- A name of at most twelve bytes. -/
noncomputable def nameB (x : ByteArray) : Bool := decide (IsName x ∧ x.size ≤ 12)
noncomputable def peopleB (x : ByteArray) : Bool := nameB x && !impl_isPeople.bad x

theorem DenomOK_ev (x : ByteArray) (hn : (x.size : Int) ≤ 140737488351232) : Ev (fun k => impl_DenomOK.f k x) (nameB x) := by
  obtain ⟨b, hb, hb'⟩ := NameOK_ev x hn
  unfold impl_DenomOK.f
  refine Ev.bind hb ?_
  unfold nameB
  by_cases h : IsName x
  · simp only [hb'.2 h, if_true]
    rw [show decide ((x.size : Int) ≤ 12) = decide (IsName x ∧ x.size ≤ 12) from by rw [Bool.eq_iff_iff, decide_eq_true_iff, decide_eq_true_iff]; exact ⟨fun y => ⟨h, by omega⟩, fun y => by have := y.2; omega⟩]
    exact Ev.now _
  · obtain rfl : b = false := by cases b; rfl; exact absurd (hb'.1 rfl) h
    rw [decide_eq_false (fun y : IsName x ∧ x.size ≤ 12 => h y.1)]
    exact Ev.now _

theorem l05Name_ev (x : ByteArray) : Ev (fun k => spec_l05Name.f k x) (nameB x) := by
  obtain ⟨b, hb, hb'⟩ := Word_ev x
  unfold spec_l05Name.f nameB
  by_cases h12 : (x.size : Int) ≤ 12
  · simp only [if_pos h12]
    have : Ev (fun k => spec_NameOK.f k x) b := by unfold spec_NameOK.f; exact Ev.bind hb (Ev.now _)
    refine Ev.bind this ?_
    rw [show b = decide (IsName x ∧ x.size ≤ 12) from by rw [Bool.eq_iff_iff, decide_eq_true_iff, hb']; exact ⟨fun y => ⟨y, by omega⟩, fun y => y.1⟩]
    exact Ev.now _
  · simp only [if_neg h12]
    rw [decide_eq_false (fun y : IsName x ∧ x.size ≤ 12 => h12 (by have := y.2; omega))]
    exact Ev.now _

theorem l08Name_ev (x : ByteArray) : Ev (fun k => spec_l08Name.f k x) (peopleB x) := by
  unfold spec_l08Name.f
  refine Ev.bind (l05Name_ev x) ?_
  unfold peopleB impl_isPeople.bad
  cases nameB x with
  | false => exact Ev.now _
  | true =>
    simp only [if_true, Bool.true_and]
    by_cases h1 : x.toList = ([101, 115, 99, 114, 111, 119] : List UInt8)
    · simp only [h1, if_true]; exact Ev.now _
    · simp only [if_neg h1]
      by_cases h2 : x.toList = ([111, 114, 100, 101, 114, 115] : List UInt8)
      · simp only [h2, if_true]; exact Ev.now _
      · simp only [if_neg h2]
        by_cases h3 : x.toList = ([116, 97, 107, 101, 115] : List UInt8)
        · simp only [h3, if_true]; exact Ev.now _
        · simp only [if_neg h3, beq_eq_false_iff_ne.2 h1, beq_eq_false_iff_ne.2 h2, beq_eq_false_iff_ne.2 h3, Bool.false_or]
          exact Ev.now _

theorem areNames_go (l : List ByteArray) (hl : l.length < 1000000) (hn : ∀ x ∈ l, (x.size : Int) ≤ 140737488351232) : ∀ (d : Nat) (i : Nat), i + d = l.length →
    Ev (fun k => impl_areNames.l0 k l (l.length : Int) (i : Int)) ((l.drop i).all nameB) := by
  intro d
  induction d with
  | zero =>
    intro i hi
    refine Ev.step (fun k => ?_) (Ev.now _)
    rw [impl_areNames.l0, if_neg (by omega), List.drop_of_length_le (by omega)]
    rfl
  | succ d ih =>
    intro i hi
    have hlt : i < l.length := by omega
    have hx : rdOf ByteArray.empty l (i : Int) = l[i] := by simp [rdOf, List.getD_eq_getElem?_getD, List.getElem?_eq_getElem hlt]
    have h1 := DenomOK_ev l[i] (hn _ (List.getElem_mem hlt))
    have h2 := ih (i + 1) (by omega)
    rw [List.drop_eq_getElem_cons hlt, List.all_cons]
    have hstep : ∀ k, impl_areNames.l0 (k + 1) l (l.length : Int) (i : Int) = (impl_DenomOK.f k l[i]).bind fun t => if t = true then impl_areNames.l0 k l (l.length : Int) ((i + 1 : Nat) : Int) else some false := by
      intro k
      rw [impl_areNames.l0, if_pos (by omega), if_pos (by omega), if_pos (by omega), hx, wid (n := (i : Int) + 1) (by omega) (by omega)]
      rfl
    refine Ev.step hstep (Ev.bind h1 ?_)
    cases nameB l[i] with
    | false => exact Ev.now _
    | true =>
      simp only [if_true, Bool.true_and]
      exact h2
theorem areNames_ev (l : List ByteArray) (hl : l.length < 1000000) (hn : ∀ x ∈ l, (x.size : Int) ≤ 140737488351232) : Ev (fun k => impl_areNames.f k l) (l.all nameB) := by
  have := areNames_go l hl hn l.length 0 (by omega)
  unfold impl_areNames.f
  simpa using this
theorem isPeople_ev (l : List ByteArray) (hl : l.length < 1000000) (hn : ∀ x ∈ l, (x.size : Int) ≤ 140737488351232) : Ev (fun k => impl_isPeople.f k l) (l.all peopleB) := by
  unfold impl_isPeople.f
  refine Ev.bind (areNames_ev l hl hn) ?_
  have e : l.all peopleB = (l.all nameB && !l.any impl_isPeople.bad) := by
    clear hl hn
    induction l with
    | nil => rfl
    | cons a l ih =>
      simp only [List.all_cons, List.any_cons, ih, peopleB]
      cases nameB a <;> cases impl_isPeople.bad a <;> cases l.all nameB <;> cases l.any impl_isPeople.bad <;> rfl
  rw [e]
  cases l.all nameB with
  | false => exact Ev.now _
  | true => simp only [if_true, Bool.true_and]; exact Ev.now _

end Go.Proofs.YtabmfhnhmoiljaaGreatDoor.U

/- What is found in a store: the reference's search and the program's take the same steps. -/
namespace Go.Proofs.YtabmfhnhmoiljaaGreatDoor.U
open Go Go.RowKit Go.Proofs.YtabmfhnhmoiljaaGreatDoor.Q Go.Proofs.YtabmfhnhmoiljaaGreatDoorW.PrintWords Go.Proofs.YtabmfhnhmoiljaaGreatDoorW.PrintLast Go.Proofs.YtabmfhnhmoiljaaGreatDoorW.PrintMore
set_option linter.unusedVariables false
set_option linter.unusedSimpArgs false

theorem cmp_neg : ∀ a b : List UInt8, Lib.compareBytes a b < 0 ↔ Op.bytesLess a b = true
  | [], [] => by simp [Lib.compareBytes, Op.bytesLess]
  | [], _ :: _ => by simp [Lib.compareBytes, Op.bytesLess]
  | _ :: _, [] => by simp [Lib.compareBytes, Op.bytesLess]
  | a :: x, b :: y => by
    rw [Lib.compareBytes, Op.bytesLess]
    by_cases h1 : a < b
    · simp [h1]
    · by_cases h2 : b < a
      · have h3 : ¬ a = b := fun e => by subst e; exact h1 h2
        simp [h1, h2, h3]
      · have h3 : a = b := UInt8.le_antisymm (UInt8.not_lt.1 h2) (UInt8.not_lt.1 h1)
        subst h3
        simp [h1, cmp_neg x y]
theorem cmp_zero : ∀ a b : List UInt8, Lib.compareBytes a b = 0 ↔ a = b
  | [], [] => by simp [Lib.compareBytes]
  | [], _ :: _ => by simp [Lib.compareBytes]
  | _ :: _, [] => by simp [Lib.compareBytes]
  | a :: x, b :: y => by
    rw [Lib.compareBytes]
    by_cases h1 : a < b
    · have h3 : ¬ a = b := fun e => by subst e; exact UInt8.lt_irrefl _ h1
      simp [h1, h3]
    · by_cases h2 : b < a
      · have h3 : ¬ a = b := fun e => by subst e; exact h1 h2
        simp [h1, h2, h3]
      · have h3 : a = b := UInt8.le_antisymm (UInt8.not_lt.1 h2) (UInt8.not_lt.1 h1)
        subst h3
        simp [h1, cmp_zero x y]
/-- Where a key's search ends. -/
def atV (l : List IP) (key : ByteArray) : Nat → Nat → Nat → Nat
  | 0, i, _ => i
  | f + 1, i, j => if i < j then (if Op.bytesLess ((rd_T51 l (((i + j) / 2 : Nat) : Int)).f0).toList key.toList = true then atV l key f ((i + j) / 2 + 1) j else atV l key f i ((i + j) / 2)) else i
theorem atV_bd (l : List IP) (key : ByteArray) : ∀ (f i j : Nat), i ≤ j → i ≤ atV l key f i j ∧ atV l key f i j ≤ j
  | 0, i, j, h => ⟨Nat.le_refl _, h⟩
  | f + 1, i, j, h => by
    rw [atV]
    by_cases h1 : i < j
    · rw [if_pos h1]
      split
      · have := atV_bd l key f ((i + j) / 2 + 1) j (by omega); omega
      · have := atV_bd l key f i ((i + j) / 2) (by omega); omega
    · rw [if_neg h1]; omega
theorem specAt_go (l : List IP) (key : ByteArray) (hl : l.length ≤ 1048576) : ∀ (f i j : Nat), j - i < f → i ≤ j → j ≤ l.length → Ev (fun k => spec_l03At.l0 k l key (i : Int) (j : Int)) (atV l key f i j : Int)
  | 0, i, j, h, _, _ => by omega
  | f + 1, i, j, h, hij, hj => by
    rw [atV]
    by_cases h1 : i < j
    · rw [if_pos h1]
      have e1 : wrap64 (Int.tdiv (wrap64 ((i : Int) + (j : Int))) 2) = (((i + j) / 2 : Nat) : Int) := by
        rw [wid (n := (i : Int) + (j : Int)) (by omega) (by omega), tdiv_nn (by omega), wid (by omega) (by omega)]; omega
      have hstep : ∀ k, spec_l03At.l0 (k + 1) l key (i : Int) (j : Int) = if Op.bytesLess ((rd_T51 l (((i + j) / 2 : Nat) : Int)).f0).toList key.toList = true then spec_l03At.l0 k l key (((i + j) / 2 + 1 : Nat) : Int) (j : Int) else spec_l03At.l0 k l key (i : Int) (((i + j) / 2 : Nat) : Int) := by
        intro k
        rw [spec_l03At.l0, if_pos (by omega), e1, if_pos (by omega), if_pos (by omega), wid (n := (((i + j) / 2 : Nat) : Int) + 1) (by omega) (by omega)]
        rfl
      refine Ev.step hstep ?_
      split
      · exact specAt_go l key hl f _ _ (by omega) (by omega) hj
      · exact specAt_go l key hl f _ _ (by omega) (by omega) (by omega)
    · rw [if_neg h1]
      exact Ev.step (fun k => by rw [spec_l03At.l0, if_neg (by omega)]) (Ev.now _)
theorem implAt_go (l : List IP) (key : ByteArray) (hl : l.length ≤ 1048576) : ∀ (f i j : Nat), j - i < f → i ≤ j → j ≤ l.length → Ev (fun k => impl_pairAt.l0 k l key (i : Int) (j : Int)) (atV l key f i j : Int)
  | 0, i, j, h, _, _ => by omega
  | f + 1, i, j, h, hij, hj => by
    rw [atV]
    by_cases h1 : i < j
    · rw [if_pos h1]
      have e1 : ((i : Int) + (j : Int)) / 2 = (((i + j) / 2 : Nat) : Int) := by omega
      have hstep : ∀ k, impl_pairAt.l0 (k + 1) l key (i : Int) (j : Int) = if Op.bytesLess ((rd_T51 l (((i + j) / 2 : Nat) : Int)).f0).toList key.toList = true then impl_pairAt.l0 k l key (((i + j) / 2 + 1 : Nat) : Int) (j : Int) else impl_pairAt.l0 k l key (i : Int) (((i + j) / 2 : Nat) : Int) := by
        intro k
        rw [impl_pairAt.l0, if_pos (by omega), e1, if_pos (by omega), if_pos (by omega), Lib.toList_data, Lib.toList_data]
        by_cases hb : Op.bytesLess ((rd_T51 l (((i + j) / 2 : Nat) : Int)).f0).data.toList key.data.toList = true
        · rw [if_pos hb, if_pos ((cmp_neg _ _).2 hb)]; rfl
        · rw [if_neg hb, if_neg (fun e => hb ((cmp_neg _ _).1 e))]
      refine Ev.step hstep ?_
      split
      · exact implAt_go l key hl f _ _ (by omega) (by omega) hj
      · exact implAt_go l key hl f _ _ (by omega) (by omega) (by omega)
    · rw [if_neg h1]
      exact Ev.step (fun k => by rw [impl_pairAt.l0, if_neg (by omega)]) (Ev.now _)
def atOf (l : List IP) (key : ByteArray) : Nat := atV l key (l.length + 1) 0 l.length
theorem atOf_le (l : List IP) (key : ByteArray) : atOf l key ≤ l.length := (atV_bd l key _ 0 l.length (by omega)).2
theorem specAt_ev (l : List IP) (key : ByteArray) (hl : l.length ≤ 1048576) : Ev (fun k => spec_l03At.f k l key) (atOf l key : Int) := specAt_go l key hl (l.length + 1) 0 l.length (by omega) (by omega) (by omega)
def hitB (l : List IP) (key : ByteArray) : Bool := decide (atOf l key < l.length) && (((rd_T51 l (atOf l key : Int)).f0).toList == key.toList)
theorem implAt_ev (l : List IP) (key : ByteArray) (hl : l.length ≤ 1048576) : Ev (fun k => impl_pairAt.f k l key) ((atOf l key : Int), hitB l key) := by
  unfold impl_pairAt.f
  refine Ev.bind (implAt_go l key hl (l.length + 1) 0 l.length (by omega) (by omega) (by omega)) ?_
  have hle := atOf_le l key
  have e : impl_pairAt.hit l key (atOf l key : Int) = hitB l key := by
    unfold impl_pairAt.hit hitB
    congr 1
    · rw [decide_eq_decide]; omega
    · rw [Lib.toList_data, Lib.toList_data, Bool.eq_iff_iff, beq_iff_eq, beq_iff_eq]
      exact cmp_zero _ _
  rw [show atV l key (l.length + 1) 0 l.length = atOf l key from rfl]
  simp only [if_pos (show (l.length : Int) < 1000000000000 by omega), if_pos (show (0 : Int) ≤ (atOf l key : Int) by omega), if_pos (show (atOf l key : Int) ≤ (l.length : Int) by omega), e]
  exact Ev.now _
/-- What is found, and whether. -/
def getV (l : List IP) (key : ByteArray) : ByteArray × Bool := if hitB l key = true then ((rd_T51 l (atOf l key : Int)).f1, true) else ((⟨#[]⟩ : ByteArray), false)
theorem specGet_ev (l : List IP) (key : ByteArray) (hl : l.length ≤ 1048576) : Ev (fun k => spec_l03Get.f k l key) (getV l key) := by
  unfold spec_l03Get.f getV hitB
  refine Ev.bind (specAt_ev l key hl) ?_
  by_cases h1 : atOf l key < l.length
  · simp only [if_pos (show (atOf l key : Int) < (l.length : Int) by omega), if_pos (show (0 : Int) ≤ (atOf l key : Int) by omega), decide_eq_true h1, Bool.true_and]
    by_cases h2 : ((rd_T51 l (atOf l key : Int)).f0).toList = key.toList
    · simp only [h2, beq_self_eq_true, if_true]; exact Ev.now _
    · simp only [if_neg h2, beq_eq_false_iff_ne.2 h2, Bool.false_eq_true, if_false]; exact Ev.now _
  · simp only [if_neg (show ¬ (atOf l key : Int) < (l.length : Int) by omega), decide_eq_false h1, Bool.false_and, Bool.false_eq_true, if_false]; exact Ev.now _
theorem implGet_ev (l : List IP) (key : ByteArray) (hl : l.length ≤ 1048576) : Ev (fun k => impl_get.f k l key) (getV l key) := by
  unfold impl_get.f getV
  refine Ev.bind (implAt_ev l key hl) ?_
  cases h : hitB l key with
  | false => simp only [Bool.false_eq_true, if_false]; exact Ev.now _
  | true =>
    have h1 : atOf l key < l.length := by
      unfold hitB at h
      rw [Bool.and_eq_true, decide_eq_true_iff] at h
      exact h.1
    simp only [if_true, if_pos (show (0 : Int) ≤ (atOf l key : Int) by omega), if_pos (show (atOf l key : Int) < (l.length : Int) by omega)]
    exact Ev.now _
end Go.Proofs.YtabmfhnhmoiljaaGreatDoor.U

namespace Go.Proofs.YtabmfhnhmoiljaaGreatDoor.Q
open Go.RowKit Go.Proofs.YtabmfhnhmoiljaaGreatDoorW.PrintWords Go.Proofs.YtabmfhnhmoiljaaGreatDoorW.PrintLast Go.Proofs.YtabmfhnhmoiljaaGreatDoorW.PrintMore
open Go.RowKit renaming wrap64 → ζm
open Go.Proofs.YtabmfhnhmoiljaaGreatDoorW.PrintWords.Aside0 renaming mk → ζa
open Go.Proofs.YtabmfhnhmoiljaaGreatDoorW.PrintWords renaming gate_dst → δx, below_size → δs, below_alloc → δk, pw_below_drewN → δi, below_drew1 → δj, below_step → δr, gate_builtin → δy
open Go.Act renaming put → ζl
open List renaming setIfInBounds_toArray → δa, set_cons_zero → δb, set_cons_succ → δc
open Go.Proofs.YtabmfhnhmoiljaaGreatDoorW.PrintWords.Kd renaming R_alloc → ζd, R_drewN → ζc, R_drew → ζe
open Bool renaming true → τ, false → φ
attribute [local go_sem] max2_int min2_int max_two min_two max_three min_three max_four min_four   -- for this text's walks alone
set_option linter.unusedVariables false
set_option linter.unusedSimpArgs false

/-! ### spec_l02Read: function 148 -/
mutual
def spec_l02Read.j0:Nat→ByteArray→List ByteArray→Bool→Option (List ByteArray × Bool)
 | 0,_,_,_=>none
 | k+1,x0,x4,x15=>if x15=τ then (some (x4,φ)) else (if 0<(x0.size:Int) then (spec_l02Read.l0 k x0 x4 1 (ζm (bt x0 0))) else (none))
def spec_l02Read.l0:Nat→ByteArray→List ByteArray→Int→Int→Option (List ByteArray × Bool)
 | 0,_,_,_,_=>none
 | k+1,x0,x4,x5,x6=>if x6 > 0 then (if (ζm (x5+2)) > (x0.size:Int) then (some ((([]:List ByteArray)),φ)) else (if 0≤x5 then (if x5<(x0.size:Int) then (if 0≤(ζm (x5+1)) then (if (ζm (x5+1))<(x0.size:Int) then (if (ζm ((ζm ((ζm (bt x0 x5)) * 256))+(ζm (bt x0 (ζm (x5+1)))))) > 1000 then (some ((([]:List ByteArray)),φ)) else (if (ζm ((ζm (x5+2))+(ζm ((ζm ((ζm (bt x0 x5)) * 256))+(ζm (bt x0 (ζm (x5+1)))))))) > (x0.size:Int) then (some ((([]:List ByteArray)),φ)) else (if 0≤(ζm (x5+2)) then (if (ζm (x5+2))≤(ζm ((ζm (x5+2))+(ζm ((ζm ((ζm (bt x0 x5)) * 256))+(ζm (bt x0 (ζm (x5+1)))))))) then (if (ζm ((ζm (x5+2))+(ζm ((ζm ((ζm (bt x0 x5)) * 256))+(ζm (bt x0 (ζm (x5+1))))))))≤(x0.size:Int) then (if x4.length<8796093022208 then (spec_l02Read.l0 k x0 (x4 ++ [x0.extract ((ζm (x5+2)):Int).toNat ((ζm ((ζm (x5+2))+(ζm ((ζm ((ζm (bt x0 x5)) * 256))+(ζm (bt x0 (ζm (x5+1)))))))):Int).toNat]) (ζm (x5+(ζm (2+(ζm ((ζm ((ζm (bt x0 x5)) * 256))+(ζm (bt x0 (ζm (x5+1)))))))))) (ζm (x6 - 1))) else (none)) else (none)) else (none)) else (none)))) else (none)) else (none)) else (none)) else (none))) else (if x5=(x0.size:Int) then (some (x4,τ)) else (some ((([]:List ByteArray)),φ)))
end
def spec_l02Read.f (k:Nat) (a0:ByteArray):Option (List ByteArray × Bool):=(some (([]:List ByteArray):List ByteArray)).bind fun y316=>(if a0.toList=([]:List UInt8) then (spec_l02Read.j0 k a0 y316 τ) else (if 0<(a0.size:Int) then (spec_l02Read.j0 k a0 y316 (decide ((bt a0 0) > 40))) else (none)))
set_option maxHeartbeats 8000000 in
set_option maxRecDepth 100000 in
theorem spec_l02Read.calls (k:Nat) (a0:ByteArray) (r1:List ByteArray) (r2:Bool) (w:World) (h:spec_l02Read.f k a0=some (r1,r2)) :
  Calls Tryz.prog 148 #[.string a0] w fun e w' => ∃ v0_:Value,e = .returned (.tuple #[v0_,.bool r2])∧Kd.R Kd.string 9 w' w.heap.size (fun _=>True) v0_ r1∧Below w.heap.size w w':=by
 have HB:=ζa (Below.refl w.heap.size w)
 have H:((some (([]:List ByteArray):List ByteArray)).bind fun y316=>(if a0.toList=([]:List UInt8) then (spec_l02Read.j0 k a0 y316 τ) else (if 0<(a0.size:Int) then (spec_l02Read.j0 k a0 y316 (decide ((bt a0 0) > 40))) else (none))))=some (r1,r2):=h
 clear h
 obtain ⟨y316,hy316⟩ : ∃ y_:List ByteArray,y_=(([]:List ByteArray)):=⟨_,rfl⟩
 replace H:(if a0.toList=([]:List UInt8) then (spec_l02Read.j0 k a0 y316 τ) else (if 0<(a0.size:Int) then (spec_l02Read.j0 k a0 y316 (decide ((bt a0 0) > 40))) else (none)))=some (r1,r2):=by first|(rw [hy316];with_reducible exact H)|(have H2_:=(Option.bind_some _ _).symm.trans H;rw [hy316];with_reducible exact H2_)|(have H2_:=(Option.bind_some _ _).symm.trans H;with_reducible exact H2_)|with_reducible exact H|(rw [hy316];exact H)|exact H
 have Ny316:=ζa hy316
 clear hy316
 have HC2:=ζa H
 clear H
 go_enter Tryz.func148,Tryz.ntmps148
 go_upto_region 2 with (first|((with_reducible refine δx (N:=8) rfl ?_);(try (refine gate_guard (by rfl) ?_;dsimp only));refine Kd.R_lit Kd.string _ 9 ?hg (N:=8) ?hd (xs:=([]:List ByteArray)) (inner:=[]) (ok:=fun _=>True) (okp:=fun _=>True) ?hr ?hp (fun _ hk=>hk) trivial (Below.refl _ _) (Nat.le_refl _) (by simp) ?_;(case hd=>rfl);(case hg=>rfl);(case hr=>first|(go_simp;done)|(go_simp;rfl));(case hp=>exact (Reps.none _ _));intro v317 w3 ho4 hb hg_ hnew_;clear hg_ hnew_;(first|rw [← Ny316.out] at ho4|(simp only [Int.reduceToNat] at ho4;rw [← Ny316.out] at ho4));have n0_:=ζa (Kd.R_lower ho4 (δs (by repeat (first|(with_reducible first|exact HB.out|apply δk|apply δi|apply δj)|exact HB.out))));have n1_:=ζa (δr (by repeat (first|(with_reducible first|exact HB.out|apply δk|apply δi|apply δj)|exact HB.out)) hb);clear HB;have HO318:=n0_;have HB:=n1_;clear n0_ n1_;clear hb ho4))
 repeat (go_quiet (first|((with_reducible refine δx (N:=8) rfl ?_);(try (refine gate_guard (by rfl) ?_;dsimp only));refine Kd.R_lit Kd.string _ 9 ?hg (N:=8) ?hd (xs:=([]:List ByteArray)) (inner:=[]) (ok:=fun _=>True) (okp:=fun _=>True) ?hr ?hp (fun _ hk=>hk) trivial (Below.refl _ _) (Nat.le_refl _) (by simp) ?_;(case hd=>rfl);(case hg=>rfl);(case hr=>first|(go_simp;done)|(go_simp;rfl));(case hp=>exact (Reps.none _ _));intro v317 w3 ho4 hb hg_ hnew_;clear hg_ hnew_;(first|rw [← Ny316.out] at ho4|(simp only [Int.reduceToNat] at ho4;rw [← Ny316.out] at ho4));have n0_:=ζa (Kd.R_lower ho4 (δs (by repeat (first|(with_reducible first|exact HB.out|apply δk|apply δi|apply δj)|exact HB.out))));have n1_:=ζa (δr (by repeat (first|(with_reducible first|exact HB.out|apply δk|apply δi|apply δj)|exact HB.out)) hb);clear HB;have HO318:=n0_;have HB:=n1_;clear n0_ n1_;clear hb ho4));go_upto_region 2 with (first|((with_reducible refine δx (N:=8) rfl ?_);(try (refine gate_guard (by rfl) ?_;dsimp only));refine Kd.R_lit Kd.string _ 9 ?hg (N:=8) ?hd (xs:=([]:List ByteArray)) (inner:=[]) (ok:=fun _=>True) (okp:=fun _=>True) ?hr ?hp (fun _ hk=>hk) trivial (Below.refl _ _) (Nat.le_refl _) (by simp) ?_;(case hd=>rfl);(case hg=>rfl);(case hr=>first|(go_simp;done)|(go_simp;rfl));(case hp=>exact (Reps.none _ _));intro v317 w3 ho4 hb hg_ hnew_;clear hg_ hnew_;(first|rw [← Ny316.out] at ho4|(simp only [Int.reduceToNat] at ho4;rw [← Ny316.out] at ho4));have n0_:=ζa (Kd.R_lower ho4 (δs (by repeat (first|(with_reducible first|exact HB.out|apply δk|apply δi|apply δj)|exact HB.out))));have n1_:=ζa (δr (by repeat (first|(with_reducible first|exact HB.out|apply δk|apply δi|apply δj)|exact HB.out)) hb);clear HB;have HO318:=n0_;have HB:=n1_;clear n0_ n1_;clear hb ho4)))
 (try simp only [ζl,δa,δb,δc])
 go_cut [15] (fun v15 wc => ∃ (kq:Nat) (x15_1:Bool),v15 = .bool x15_1∧Aside0 (spec_l02Read.j0 kq a0 y316 x15_1=some (r1,r2))∧Aside0 (kq≤k)∧Aside0 (Kd.R Kd.string 9 wc w.heap.size (fun _=>True) v317 y316)∧Aside0 (Below w.heap.size w wc))
 case first =>
  have H:=HC2.out
  clear HC2
  by_cases c5:a0.toList=([]:List UInt8)
  ·
   rw [if_pos c5] at H
   have c5b0:(a0.toList == ([]:List UInt8))=τ:=beq_iff_eq.mpr c5
   have c5b1:(a0.toList != ([]:List UInt8))=φ:=bne_eq_false_iff_eq.mpr c5
   clear c5
   (first|rw [c5b0]|(simp only [i64_w,i32_w];rw [c5b0])|skip)
   have H':=ζa H
   clear H
   go_wp2
   repeat (go_quiet (fail);try go_wp2)
   go_meet
   case rel=>exact ⟨_,(τ),(by first|rfl|(simp;done)|(simp [*];done)),H',⟨by first|omega|exact Nat.le_refl _⟩,⟨by (with_reducible repeat (first|apply ζd|apply ζc|apply ζe));exact HO318.out⟩,⟨by repeat (first|(with_reducible first|exact HB.out|apply δk|apply δi|apply δj)|exact HB.out)⟩⟩
  ·
   rw [if_neg c5] at H
   have c5b0:(a0.toList == ([]:List UInt8))=φ:=beq_eq_false_iff_ne.mpr c5
   have c5b1:(a0.toList != ([]:List UInt8))=τ:=bne_iff_ne.mpr c5
   (first|rw [c5b0]|(simp only [i64_w,i32_w];rw [c5b0])|skip)
   by_cases c6:0<(a0.size:Int)
   ·
    rw [if_pos c6] at H
    have c6b0:decide (0<(a0.size:Int))=τ:=decide_eq_true c6
    have c6b1:decide (0<a0.size)=τ:=decide_eq_true (by omega)
    clear c6
    have H':=ζa H
    clear H
    have p7:0≤(0:Int):=(by omega)
    have q7:0<a0.size:=(by have:(0:Int)<(a0.size:Int):=of_decide_eq_true (by first|(with_reducible assumption)|assumption);omega)
    have hx7 : ∀ h:0<a0.size,((a0[0]'h).toNat:Int)=bt a0 0:=bt_at a0 0
    clear p7
    have qi7:(0<(a0.size:Int))=True:=eq_true (of_decide_eq_true (by first|(with_reducible assumption)|assumption))
    replace q7:=eq_true q7
    go_wp2
    repeat (go_quiet (fail);try go_wp2)
    go_meet
    case rel=>exact ⟨_,(decide ((bt a0 0) > 40)),(by first|rfl|(simp;done)|(simp [*];done)),H',⟨by first|omega|exact Nat.le_refl _⟩,⟨by (with_reducible repeat (first|apply ζd|apply ζc|apply ζe));exact HO318.out⟩,⟨by repeat (first|(with_reducible first|exact HB.out|apply δk|apply δi|apply δj)|exact HB.out)⟩⟩
   ·
    rw [if_neg c6] at H
    exact absurd H (by simp)
 case rest =>
  clear HC2
  try clear c1
  try clear p2
  try clear c5
  try clear c5b0
  try clear c5b1
  try clear c6
  try clear c6b0
  try clear c6b1
  try clear p7
  try clear q7
  try clear hx7
  try clear qi7
  try clear p7
  try clear q7
  obtain ⟨kq,x15_1,rfl,HA,HJ1,HO_4,HB⟩:=hcut
  cases kq with
  | zero=>exact absurd HA.out (by simp [spec_l02Read.j0])
  | succ kj1 =>
   have H:=HA.out
   clear HA
   simp only [spec_l02Read.j0] at H
   by_cases c8:x15_1=τ
   ·
    subst c8
    have H1:(some (y316,φ))=some (r1,r2):=by rw [if_pos rfl] at H;exact H
    clear H
    have H:=H1
    clear H1
    simp only [Option.some.injEq,Prod.mk.injEq] at H
    obtain ⟨rfl,rfl⟩:=H
    go_wp2
    repeat (go_quiet (fail);try go_wp2)
    go_ret2
    exact ⟨_,by first|rfl|(simp [errW_none,errW_some] <;> rfl)|(simp [*,errW_none,errW_some] <;> rfl),by (with_reducible repeat (first|apply ζd|apply ζc|apply ζe));exact HO_4.out,by repeat (first|(with_reducible first|exact HB.out|apply δk|apply δi|apply δj)|exact HB.out)⟩
   ·
    replace c8:=Bool.eq_false_iff.mpr c8
    subst c8
    have H1:(if 0<(a0.size:Int) then (spec_l02Read.l0 kj1 a0 y316 1 (ζm (bt a0 0))) else (none))=some (r1,r2):=by rw [if_neg (show ¬ (φ=τ) by decide)] at H;exact H
    clear H
    have H:=H1
    clear H1
    by_cases c9:0<(a0.size:Int)
    ·
     rw [if_pos c9] at H
     have c9b0:decide (0<(a0.size:Int))=τ:=decide_eq_true c9
     have c9b1:decide (0<a0.size)=τ:=decide_eq_true (by omega)
     clear c9
     have H':=ζa H
     clear H
     have p10:0≤(0:Int):=(by omega)
     have q10:0<a0.size:=(by have:(0:Int)<(a0.size:Int):=of_decide_eq_true (by first|(with_reducible assumption)|assumption);omega)
     have hx10 : ∀ h:0<a0.size,((a0[0]'h).toNat:Int)=bt a0 0:=bt_at a0 0
     clear p10
     have qi10:(0<(a0.size:Int))=True:=eq_true (of_decide_eq_true (by first|(with_reducible assumption)|assumption))
     replace q10:=eq_true q10
     go_wp2
     repeat (go_quiet (fail);try go_wp2)
     go_loopg [4,5,6] kj1 (fun kq v4 v5 v6 w' => ∃ (x4_2:List ByteArray) (x5_2:Int) (x6_2:Int),v5 = .int .i64 x5_2∧v6 = .int .i64 x6_2∧Aside0 (spec_l02Read.l0 kq a0 x4_2 x5_2 x6_2=some (r1,r2))∧Aside0 (kq≤kj1)∧Aside0 (Kd.R Kd.string 9 w' w.heap.size (fun _=>True) v4 x4_2)∧Aside0 (Below w.heap.size w w'))
     case atStart=>exact ⟨(y316),(1),(ζm (bt a0 0)),(by first|rfl|(simp;done)|(simp [*];done)),(by first|rfl|(simp;done)|(simp [*];done)),H',⟨Nat.le_refl _⟩,⟨by (with_reducible repeat (first|apply ζd|apply ζc|apply ζe));exact HO_4.out⟩,⟨by repeat (first|(with_reducible first|exact HB.out|apply δk|apply δi|apply δj)|exact HB.out)⟩⟩
     case round =>
      clear H'
      try clear c1
      try clear p1
      try clear q1
      try clear hx1
      try clear qi1
      try clear p2
      try clear c5
      try clear c5b0
      try clear c5b1
      try clear c6
      try clear c6b0
      try clear c6b1
      try clear p6
      try clear p7
      try clear q7
      try clear hx7
      try clear qi7
      try clear c8
      try clear c9
      try clear c9b0
      try clear c9b1
      try clear p10
      try clear q10
      try clear hx10
      try clear qi10
      try clear p10
      try clear p2
      try clear p7
      try clear q10
      try clear q7
      obtain ⟨x4_2,x5_2,x6_2,rfl,rfl,HA,HK2,HO_4,HB⟩:=hrel
      cases gk with
      | zero=>exact absurd HA.out (by simp [spec_l02Read.l0])
      | succ k2 =>
       have H:=HA.out
       clear HA
       simp only [spec_l02Read.l0] at H
       by_cases c11:x6_2 > 0
       ·
        rw [if_pos c11] at H
        have c11b0:decide (0<x6_2)=τ:=decide_eq_true c11
        clear c11
        by_cases c12:(ζm (x5_2+2)) > (a0.size:Int)
        ·
         rw [if_pos c12] at H
         have c12b0:decide ((a0.size:Int)<(ζm (x5_2+2)))=τ:=decide_eq_true c12
         clear c12
         obtain ⟨y322,hy322⟩ : ∃ y_:List ByteArray,y_=(([]:List ByteArray)):=⟨_,rfl⟩
         replace H:(some (y322,φ))=some (r1,r2):=by first|(rw [hy322];with_reducible exact H)|(have H2_:=(Option.bind_some _ _).symm.trans H;rw [hy322];with_reducible exact H2_)|(have H2_:=(Option.bind_some _ _).symm.trans H;with_reducible exact H2_)|with_reducible exact H|(rw [hy322];exact H)|exact H
         have Ny322:=ζa hy322
         clear hy322
         simp only [Option.some.injEq,Prod.mk.injEq] at H
         obtain ⟨rfl,rfl⟩:=H
         go_wp2_with (first|((with_reducible refine δx (N:=29) rfl ?_);(try (refine gate_guard (by rfl) ?_;dsimp only));refine Kd.R_lit Kd.string _ 9 ?hg (N:=29) ?hd (xs:=([]:List ByteArray)) (inner:=[]) (ok:=fun _=>True) (okp:=fun _=>True) ?hr ?hp (fun _ hk=>hk) trivial (Below.refl _ _) (Nat.le_refl _) (by simp) ?_;(case hd=>rfl);(case hg=>rfl);(case hr=>first|(go_simp;done)|(go_simp;rfl));(case hp=>exact (Reps.none _ _));intro v323 w13 ho14 hb hg_ hnew_;clear hg_ hnew_;(first|rw [← Ny322.out] at ho14|(simp only [Int.reduceToNat] at ho14;rw [← Ny322.out] at ho14));have n0_:=ζa (Kd.R_elder' (by (with_reducible repeat (first|apply ζd|apply ζc|apply ζe));exact HO_4.out) (Kd.R_base ho14) hb);have n1_:=ζa (Kd.R_lower (Kd.R_new' ho14 (Kd.R_lt (by (with_reducible repeat (first|apply ζd|apply ζc|apply ζe));exact HO_4.out))) (δs (by repeat (first|(with_reducible first|exact HB.out|apply δk|apply δi|apply δj)|exact HB.out))));have n2_:=ζa (δr (by repeat (first|(with_reducible first|exact HB.out|apply δk|apply δi|apply δj)|exact HB.out)) hb);clear HO_4;clear HB;have HO_4:=n0_;have HO324:=n1_;have HB:=n2_;clear n0_ n1_ n2_;clear hb ho14))
         repeat (go_quiet (first|((with_reducible refine δx (N:=29) rfl ?_);(try (refine gate_guard (by rfl) ?_;dsimp only));refine Kd.R_lit Kd.string _ 9 ?hg (N:=29) ?hd (xs:=([]:List ByteArray)) (inner:=[]) (ok:=fun _=>True) (okp:=fun _=>True) ?hr ?hp (fun _ hk=>hk) trivial (Below.refl _ _) (Nat.le_refl _) (by simp) ?_;(case hd=>rfl);(case hg=>rfl);(case hr=>first|(go_simp;done)|(go_simp;rfl));(case hp=>exact (Reps.none _ _));intro v323 w13 ho14 hb hg_ hnew_;clear hg_ hnew_;(first|rw [← Ny322.out] at ho14|(simp only [Int.reduceToNat] at ho14;rw [← Ny322.out] at ho14));have n0_:=ζa (Kd.R_elder' (by (with_reducible repeat (first|apply ζd|apply ζc|apply ζe));exact HO_4.out) (Kd.R_base ho14) hb);have n1_:=ζa (Kd.R_lower (Kd.R_new' ho14 (Kd.R_lt (by (with_reducible repeat (first|apply ζd|apply ζc|apply ζe));exact HO_4.out))) (δs (by repeat (first|(with_reducible first|exact HB.out|apply δk|apply δi|apply δj)|exact HB.out))));have n2_:=ζa (δr (by repeat (first|(with_reducible first|exact HB.out|apply δk|apply δi|apply δj)|exact HB.out)) hb);clear HO_4;clear HB;have HO_4:=n0_;have HO324:=n1_;have HB:=n2_;clear n0_ n1_ n2_;clear hb ho14));try go_wp2_with (first|((with_reducible refine δx (N:=29) rfl ?_);(try (refine gate_guard (by rfl) ?_;dsimp only));refine Kd.R_lit Kd.string _ 9 ?hg (N:=29) ?hd (xs:=([]:List ByteArray)) (inner:=[]) (ok:=fun _=>True) (okp:=fun _=>True) ?hr ?hp (fun _ hk=>hk) trivial (Below.refl _ _) (Nat.le_refl _) (by simp) ?_;(case hd=>rfl);(case hg=>rfl);(case hr=>first|(go_simp;done)|(go_simp;rfl));(case hp=>exact (Reps.none _ _));intro v323 w13 ho14 hb hg_ hnew_;clear hg_ hnew_;(first|rw [← Ny322.out] at ho14|(simp only [Int.reduceToNat] at ho14;rw [← Ny322.out] at ho14));have n0_:=ζa (Kd.R_elder' (by (with_reducible repeat (first|apply ζd|apply ζc|apply ζe));exact HO_4.out) (Kd.R_base ho14) hb);have n1_:=ζa (Kd.R_lower (Kd.R_new' ho14 (Kd.R_lt (by (with_reducible repeat (first|apply ζd|apply ζc|apply ζe));exact HO_4.out))) (δs (by repeat (first|(with_reducible first|exact HB.out|apply δk|apply δi|apply δj)|exact HB.out))));have n2_:=ζa (δr (by repeat (first|(with_reducible first|exact HB.out|apply δk|apply δi|apply δj)|exact HB.out)) hb);clear HO_4;clear HB;have HO_4:=n0_;have HO324:=n1_;have HB:=n2_;clear n0_ n1_ n2_;clear hb ho14)))
         go_ret2
         exact ⟨_,by first|rfl|(simp [errW_none,errW_some] <;> rfl)|(simp [*,errW_none,errW_some] <;> rfl),by (with_reducible repeat (first|apply ζd|apply ζc|apply ζe));exact Kd.R_mono HO324.out (fun _ hk=>trivial),by repeat (first|(with_reducible first|exact HB.out|apply δk|apply δi|apply δj)|exact HB.out)⟩
        ·
         rw [if_neg c12] at H
         have c12b0:decide ((a0.size:Int)<(ζm (x5_2+2)))=φ:=decide_eq_false c12
         clear c12
         by_cases c15:0≤x5_2
         ·
          rw [if_pos c15] at H
          have c15b0:decide (0≤x5_2)=τ:=decide_eq_true c15
          clear c15
          by_cases c16:x5_2<(a0.size:Int)
          ·
           rw [if_pos c16] at H
           have c16b0:decide (x5_2<(a0.size:Int))=τ:=decide_eq_true c16
           clear c16
           obtain ⟨ji18,hji18⟩ : ∃ j_:Int,(ζm (x5_2+1))=j_:=⟨_,rfl⟩
           replace H:(if 0≤(ji18) then (if (ji18)<(a0.size:Int) then (if (ζm ((ζm ((ζm (bt a0 x5_2)) * 256))+(ζm (bt a0 (ji18))))) > 1000 then (some ((([]:List ByteArray)),φ)) else (if (ζm ((ζm (x5_2+2))+(ζm ((ζm ((ζm (bt a0 x5_2)) * 256))+(ζm (bt a0 (ji18))))))) > (a0.size:Int) then (some ((([]:List ByteArray)),φ)) else (if 0≤(ζm (x5_2+2)) then (if (ζm (x5_2+2))≤(ζm ((ζm (x5_2+2))+(ζm ((ζm ((ζm (bt a0 x5_2)) * 256))+(ζm (bt a0 (ji18))))))) then (if (ζm ((ζm (x5_2+2))+(ζm ((ζm ((ζm (bt a0 x5_2)) * 256))+(ζm (bt a0 (ji18)))))))≤(a0.size:Int) then (if x4_2.length<8796093022208 then (spec_l02Read.l0 k2 a0 (x4_2 ++ [a0.extract ((ζm (x5_2+2)):Int).toNat ((ζm ((ζm (x5_2+2))+(ζm ((ζm ((ζm (bt a0 x5_2)) * 256))+(ζm (bt a0 (ji18))))))):Int).toNat]) (ζm (x5_2+(ζm (2+(ζm ((ζm ((ζm (bt a0 x5_2)) * 256))+(ζm (bt a0 (ji18))))))))) (ζm (x6_2 - 1))) else (none)) else (none)) else (none)) else (none)))) else (none)) else (none))=some (r1,r2):=by first|(rw [hji18] at H;exact H)|(simp only [hji18] at H ⊢;exact H)
           have hji18w:(IntKind.i64.wrap (x5_2+1))=ji18:=(i64_w _).trans hji18
           by_cases c19:0≤(ji18)
           ·
            rw [if_pos c19] at H
            have c19b0:decide (0≤(ji18))=τ:=decide_eq_true c19
            clear c19
            by_cases c20:(ji18)<(a0.size:Int)
            ·
             rw [if_pos c20] at H
             have c20b0:decide ((ji18)<(a0.size:Int))=τ:=decide_eq_true c20
             clear c20
             by_cases c22:(ζm ((ζm ((ζm (bt a0 x5_2)) * 256))+(ζm (bt a0 (ji18))))) > 1000
             ·
              rw [if_pos c22] at H
              have c22b0:decide (1000<(ζm ((ζm ((ζm (bt a0 x5_2)) * 256))+(ζm (bt a0 (ji18))))))=τ:=decide_eq_true c22
              clear c22
              obtain ⟨y325,hy325⟩ : ∃ y_:List ByteArray,y_=(([]:List ByteArray)):=⟨_,rfl⟩
              replace H:(some (y325,φ))=some (r1,r2):=by first|(rw [hy325];with_reducible exact H)|(have H2_:=(Option.bind_some _ _).symm.trans H;rw [hy325];with_reducible exact H2_)|(have H2_:=(Option.bind_some _ _).symm.trans H;with_reducible exact H2_)|with_reducible exact H|(rw [hy325];exact H)|exact H
              have Ny325:=ζa hy325
              clear hy325
              simp only [Option.some.injEq,Prod.mk.injEq] at H
              obtain ⟨rfl,rfl⟩:=H
              have p17:0≤(x5_2:Int):=of_decide_eq_true (by first|(with_reducible assumption)|assumption)
              have q17:x5_2<(a0.size:Int):=of_decide_eq_true (by first|(with_reducible assumption)|assumption)
              have hx17:=bt_at a0 x5_2
              replace p17:=eq_true p17
              replace q17:=eq_true q17
              have p21:0≤((ji18):Int):=of_decide_eq_true (by first|(with_reducible assumption)|assumption)
              have q21:(ji18)<(a0.size:Int):=of_decide_eq_true (by first|(with_reducible assumption)|assumption)
              have hx21:=bt_at a0 (ji18)
              replace p21:=eq_true p21
              replace q21:=eq_true q21
              go_wp2_with (first|((with_reducible refine δx (N:=52) rfl ?_);(try (refine gate_guard (by rfl) ?_;dsimp only));refine Kd.R_lit Kd.string _ 9 ?hg (N:=52) ?hd (xs:=([]:List ByteArray)) (inner:=[]) (ok:=fun _=>True) (okp:=fun _=>True) ?hr ?hp (fun _ hk=>hk) trivial (Below.refl _ _) (Nat.le_refl _) (by simp) ?_;(case hd=>rfl);(case hg=>rfl);(case hr=>first|(go_simp;done)|(go_simp;rfl));(case hp=>exact (Reps.none _ _));intro v326 w23 ho24 hb hg_ hnew_;clear hg_ hnew_;(first|rw [← Ny325.out] at ho24|(simp only [Int.reduceToNat] at ho24;rw [← Ny325.out] at ho24));have n0_:=ζa (Kd.R_elder' (by (with_reducible repeat (first|apply ζd|apply ζc|apply ζe));exact HO_4.out) (Kd.R_base ho24) hb);have n1_:=ζa (Kd.R_lower (Kd.R_new' ho24 (Kd.R_lt (by (with_reducible repeat (first|apply ζd|apply ζc|apply ζe));exact HO_4.out))) (δs (by repeat (first|(with_reducible first|exact HB.out|apply δk|apply δi|apply δj)|exact HB.out))));have n2_:=ζa (δr (by repeat (first|(with_reducible first|exact HB.out|apply δk|apply δi|apply δj)|exact HB.out)) hb);clear HO_4;clear HB;have HO_4:=n0_;have HO327:=n1_;have HB:=n2_;clear n0_ n1_ n2_;clear hb ho24))
              repeat (go_quiet (first|((with_reducible refine δx (N:=52) rfl ?_);(try (refine gate_guard (by rfl) ?_;dsimp only));refine Kd.R_lit Kd.string _ 9 ?hg (N:=52) ?hd (xs:=([]:List ByteArray)) (inner:=[]) (ok:=fun _=>True) (okp:=fun _=>True) ?hr ?hp (fun _ hk=>hk) trivial (Below.refl _ _) (Nat.le_refl _) (by simp) ?_;(case hd=>rfl);(case hg=>rfl);(case hr=>first|(go_simp;done)|(go_simp;rfl));(case hp=>exact (Reps.none _ _));intro v326 w23 ho24 hb hg_ hnew_;clear hg_ hnew_;(first|rw [← Ny325.out] at ho24|(simp only [Int.reduceToNat] at ho24;rw [← Ny325.out] at ho24));have n0_:=ζa (Kd.R_elder' (by (with_reducible repeat (first|apply ζd|apply ζc|apply ζe));exact HO_4.out) (Kd.R_base ho24) hb);have n1_:=ζa (Kd.R_lower (Kd.R_new' ho24 (Kd.R_lt (by (with_reducible repeat (first|apply ζd|apply ζc|apply ζe));exact HO_4.out))) (δs (by repeat (first|(with_reducible first|exact HB.out|apply δk|apply δi|apply δj)|exact HB.out))));have n2_:=ζa (δr (by repeat (first|(with_reducible first|exact HB.out|apply δk|apply δi|apply δj)|exact HB.out)) hb);clear HO_4;clear HB;have HO_4:=n0_;have HO327:=n1_;have HB:=n2_;clear n0_ n1_ n2_;clear hb ho24));try go_wp2_with (first|((with_reducible refine δx (N:=52) rfl ?_);(try (refine gate_guard (by rfl) ?_;dsimp only));refine Kd.R_lit Kd.string _ 9 ?hg (N:=52) ?hd (xs:=([]:List ByteArray)) (inner:=[]) (ok:=fun _=>True) (okp:=fun _=>True) ?hr ?hp (fun _ hk=>hk) trivial (Below.refl _ _) (Nat.le_refl _) (by simp) ?_;(case hd=>rfl);(case hg=>rfl);(case hr=>first|(go_simp;done)|(go_simp;rfl));(case hp=>exact (Reps.none _ _));intro v326 w23 ho24 hb hg_ hnew_;clear hg_ hnew_;(first|rw [← Ny325.out] at ho24|(simp only [Int.reduceToNat] at ho24;rw [← Ny325.out] at ho24));have n0_:=ζa (Kd.R_elder' (by (with_reducible repeat (first|apply ζd|apply ζc|apply ζe));exact HO_4.out) (Kd.R_base ho24) hb);have n1_:=ζa (Kd.R_lower (Kd.R_new' ho24 (Kd.R_lt (by (with_reducible repeat (first|apply ζd|apply ζc|apply ζe));exact HO_4.out))) (δs (by repeat (first|(with_reducible first|exact HB.out|apply δk|apply δi|apply δj)|exact HB.out))));have n2_:=ζa (δr (by repeat (first|(with_reducible first|exact HB.out|apply δk|apply δi|apply δj)|exact HB.out)) hb);clear HO_4;clear HB;have HO_4:=n0_;have HO327:=n1_;have HB:=n2_;clear n0_ n1_ n2_;clear hb ho24)))
              go_ret2
              exact ⟨_,by first|rfl|(simp [errW_none,errW_some] <;> rfl)|(simp only [← hji18];first|rfl|(simp [errW_none,errW_some] <;> rfl))|(simp [*,errW_none,errW_some] <;> rfl),by (with_reducible repeat (first|apply ζd|apply ζc|apply ζe));exact Kd.R_mono HO327.out (fun _ hk=>trivial),by repeat (first|(with_reducible first|exact HB.out|apply δk|apply δi|apply δj)|exact HB.out)⟩
             ·
              rw [if_neg c22] at H
              have c22b0:decide (1000<(ζm ((ζm ((ζm (bt a0 x5_2)) * 256))+(ζm (bt a0 (ji18))))))=φ:=decide_eq_false c22
              clear c22
              by_cases c25:(ζm ((ζm (x5_2+2))+(ζm ((ζm ((ζm (bt a0 x5_2)) * 256))+(ζm (bt a0 (ji18))))))) > (a0.size:Int)
              ·
               rw [if_pos c25] at H
               have c25b0:decide ((a0.size:Int)<(ζm ((ζm (x5_2+2))+(ζm ((ζm ((ζm (bt a0 x5_2)) * 256))+(ζm (bt a0 (ji18))))))))=τ:=decide_eq_true c25
               clear c25
               obtain ⟨y328,hy328⟩ : ∃ y_:List ByteArray,y_=(([]:List ByteArray)):=⟨_,rfl⟩
               replace H:(some (y328,φ))=some (r1,r2):=by first|(rw [hy328];with_reducible exact H)|(have H2_:=(Option.bind_some _ _).symm.trans H;rw [hy328];with_reducible exact H2_)|(have H2_:=(Option.bind_some _ _).symm.trans H;with_reducible exact H2_)|with_reducible exact H|(rw [hy328];exact H)|exact H
               have Ny328:=ζa hy328
               clear hy328
               simp only [Option.some.injEq,Prod.mk.injEq] at H
               obtain ⟨rfl,rfl⟩:=H
               have p17:0≤(x5_2:Int):=of_decide_eq_true (by first|(with_reducible assumption)|assumption)
               have q17:x5_2<(a0.size:Int):=of_decide_eq_true (by first|(with_reducible assumption)|assumption)
               have hx17:=bt_at a0 x5_2
               replace p17:=eq_true p17
               replace q17:=eq_true q17
               have p21:0≤((ji18):Int):=of_decide_eq_true (by first|(with_reducible assumption)|assumption)
               have q21:(ji18)<(a0.size:Int):=of_decide_eq_true (by first|(with_reducible assumption)|assumption)
               have hx21:=bt_at a0 (ji18)
               replace p21:=eq_true p21
               replace q21:=eq_true q21
               go_wp2_with (first|((with_reducible refine δx (N:=52) rfl ?_);(try (refine gate_guard (by rfl) ?_;dsimp only));refine Kd.R_lit Kd.string _ 9 ?hg (N:=52) ?hd (xs:=([]:List ByteArray)) (inner:=[]) (ok:=fun _=>True) (okp:=fun _=>True) ?hr ?hp (fun _ hk=>hk) trivial (Below.refl _ _) (Nat.le_refl _) (by simp) ?_;(case hd=>rfl);(case hg=>rfl);(case hr=>first|(go_simp;done)|(go_simp;rfl));(case hp=>exact (Reps.none _ _));intro v329 w26 ho27 hb hg_ hnew_;clear hg_ hnew_;(first|rw [← Ny328.out] at ho27|(simp only [Int.reduceToNat] at ho27;rw [← Ny328.out] at ho27));have n0_:=ζa (Kd.R_elder' (by (with_reducible repeat (first|apply ζd|apply ζc|apply ζe));exact HO_4.out) (Kd.R_base ho27) hb);have n1_:=ζa (Kd.R_lower (Kd.R_new' ho27 (Kd.R_lt (by (with_reducible repeat (first|apply ζd|apply ζc|apply ζe));exact HO_4.out))) (δs (by repeat (first|(with_reducible first|exact HB.out|apply δk|apply δi|apply δj)|exact HB.out))));have n2_:=ζa (δr (by repeat (first|(with_reducible first|exact HB.out|apply δk|apply δi|apply δj)|exact HB.out)) hb);clear HO_4;clear HB;have HO_4:=n0_;have HO330:=n1_;have HB:=n2_;clear n0_ n1_ n2_;clear hb ho27))
               repeat (go_quiet (first|((with_reducible refine δx (N:=52) rfl ?_);(try (refine gate_guard (by rfl) ?_;dsimp only));refine Kd.R_lit Kd.string _ 9 ?hg (N:=52) ?hd (xs:=([]:List ByteArray)) (inner:=[]) (ok:=fun _=>True) (okp:=fun _=>True) ?hr ?hp (fun _ hk=>hk) trivial (Below.refl _ _) (Nat.le_refl _) (by simp) ?_;(case hd=>rfl);(case hg=>rfl);(case hr=>first|(go_simp;done)|(go_simp;rfl));(case hp=>exact (Reps.none _ _));intro v329 w26 ho27 hb hg_ hnew_;clear hg_ hnew_;(first|rw [← Ny328.out] at ho27|(simp only [Int.reduceToNat] at ho27;rw [← Ny328.out] at ho27));have n0_:=ζa (Kd.R_elder' (by (with_reducible repeat (first|apply ζd|apply ζc|apply ζe));exact HO_4.out) (Kd.R_base ho27) hb);have n1_:=ζa (Kd.R_lower (Kd.R_new' ho27 (Kd.R_lt (by (with_reducible repeat (first|apply ζd|apply ζc|apply ζe));exact HO_4.out))) (δs (by repeat (first|(with_reducible first|exact HB.out|apply δk|apply δi|apply δj)|exact HB.out))));have n2_:=ζa (δr (by repeat (first|(with_reducible first|exact HB.out|apply δk|apply δi|apply δj)|exact HB.out)) hb);clear HO_4;clear HB;have HO_4:=n0_;have HO330:=n1_;have HB:=n2_;clear n0_ n1_ n2_;clear hb ho27));try go_wp2_with (first|((with_reducible refine δx (N:=52) rfl ?_);(try (refine gate_guard (by rfl) ?_;dsimp only));refine Kd.R_lit Kd.string _ 9 ?hg (N:=52) ?hd (xs:=([]:List ByteArray)) (inner:=[]) (ok:=fun _=>True) (okp:=fun _=>True) ?hr ?hp (fun _ hk=>hk) trivial (Below.refl _ _) (Nat.le_refl _) (by simp) ?_;(case hd=>rfl);(case hg=>rfl);(case hr=>first|(go_simp;done)|(go_simp;rfl));(case hp=>exact (Reps.none _ _));intro v329 w26 ho27 hb hg_ hnew_;clear hg_ hnew_;(first|rw [← Ny328.out] at ho27|(simp only [Int.reduceToNat] at ho27;rw [← Ny328.out] at ho27));have n0_:=ζa (Kd.R_elder' (by (with_reducible repeat (first|apply ζd|apply ζc|apply ζe));exact HO_4.out) (Kd.R_base ho27) hb);have n1_:=ζa (Kd.R_lower (Kd.R_new' ho27 (Kd.R_lt (by (with_reducible repeat (first|apply ζd|apply ζc|apply ζe));exact HO_4.out))) (δs (by repeat (first|(with_reducible first|exact HB.out|apply δk|apply δi|apply δj)|exact HB.out))));have n2_:=ζa (δr (by repeat (first|(with_reducible first|exact HB.out|apply δk|apply δi|apply δj)|exact HB.out)) hb);clear HO_4;clear HB;have HO_4:=n0_;have HO330:=n1_;have HB:=n2_;clear n0_ n1_ n2_;clear hb ho27)))
               go_ret2
               exact ⟨_,by first|rfl|(simp [errW_none,errW_some] <;> rfl)|(simp only [← hji18];first|rfl|(simp [errW_none,errW_some] <;> rfl))|(simp [*,errW_none,errW_some] <;> rfl),by (with_reducible repeat (first|apply ζd|apply ζc|apply ζe));exact Kd.R_mono HO330.out (fun _ hk=>trivial),by repeat (first|(with_reducible first|exact HB.out|apply δk|apply δi|apply δj)|exact HB.out)⟩
              ·
               rw [if_neg c25] at H
               have c25b0:decide ((a0.size:Int)<(ζm ((ζm (x5_2+2))+(ζm ((ζm ((ζm (bt a0 x5_2)) * 256))+(ζm (bt a0 (ji18))))))))=φ:=decide_eq_false c25
               clear c25
               obtain ⟨ji28,hji28⟩ : ∃ j_:Int,(ζm (x5_2+2))=j_:=⟨_,rfl⟩
               replace H:(if 0≤(ji28) then (if (ji28)≤(ζm ((ji28)+(ζm ((ζm ((ζm (bt a0 x5_2)) * 256))+(ζm (bt a0 (ji18))))))) then (if (ζm ((ji28)+(ζm ((ζm ((ζm (bt a0 x5_2)) * 256))+(ζm (bt a0 (ji18)))))))≤(a0.size:Int) then (if x4_2.length<8796093022208 then (spec_l02Read.l0 k2 a0 (x4_2 ++ [a0.extract ((ji28):Int).toNat ((ζm ((ji28)+(ζm ((ζm ((ζm (bt a0 x5_2)) * 256))+(ζm (bt a0 (ji18))))))):Int).toNat]) (ζm (x5_2+(ζm (2+(ζm ((ζm ((ζm (bt a0 x5_2)) * 256))+(ζm (bt a0 (ji18))))))))) (ζm (x6_2 - 1))) else (none)) else (none)) else (none)) else (none))=some (r1,r2):=by first|(rw [hji28] at H;exact H)|(simp only [hji28] at H ⊢;exact H)
               (try rw [hji28] at c12b0)
               (try rw [hji28] at c25b0)
               have hji28w:(IntKind.i64.wrap (x5_2+2))=ji28:=(i64_w _).trans hji28
               by_cases c29:0≤(ji28)
               ·
                rw [if_pos c29] at H
                have c29b0:=eq_true c29
                have c29b1:decide (0≤(ji28))=τ:=decide_eq_true c29
                clear c29
                by_cases c30:(ji28)≤(ζm ((ji28)+(ζm ((ζm ((ζm (bt a0 x5_2)) * 256))+(ζm (bt a0 (ji18)))))))
                ·
                 rw [if_pos c30] at H
                 have c30b0:=eq_true c30
                 have c30b1:decide ((ji28)≤(ζm ((ji28)+(ζm ((ζm ((ζm (bt a0 x5_2)) * 256))+(ζm (bt a0 (ji18))))))))=τ:=decide_eq_true c30
                 by_cases c31:(ζm ((ji28)+(ζm ((ζm ((ζm (bt a0 x5_2)) * 256))+(ζm (bt a0 (ji18)))))))≤(a0.size:Int)
                 ·
                  rw [if_pos c31] at H
                  have c31b0:=eq_true c31
                  have c31b1:decide ((ζm ((ji28)+(ζm ((ζm ((ζm (bt a0 x5_2)) * 256))+(ζm (bt a0 (ji18)))))))≤(a0.size:Int))=τ:=decide_eq_true c31
                  by_cases c32:x4_2.length<8796093022208
                  ·
                   rw [if_pos c32] at H
                   have LMc32:=ζa c32
                   clear c32
                   obtain ⟨y331,hy331⟩ : ∃ y_:List ByteArray,y_=(x4_2 ++ [a0.extract ((ji28):Int).toNat ((ζm ((ji28)+(ζm ((ζm ((ζm (bt a0 x5_2)) * 256))+(ζm (bt a0 (ji18))))))):Int).toNat]):=⟨_,rfl⟩
                   replace H:(spec_l02Read.l0 k2 a0 y331 (ζm (x5_2+(ζm (2+(ζm ((ζm ((ζm (bt a0 x5_2)) * 256))+(ζm (bt a0 (ji18))))))))) (ζm (x6_2 - 1)))=some (r1,r2):=by first|(rw [hy331];with_reducible exact H)|(have H2_:=(Option.bind_some _ _).symm.trans H;rw [hy331];with_reducible exact H2_)|(have H2_:=(Option.bind_some _ _).symm.trans H;with_reducible exact H2_)|with_reducible exact H|(rw [hy331];exact H)|exact H
                   have Ny331:=ζa hy331
                   clear hy331
                   have H':=ζa H
                   clear H
                   have p17:0≤(x5_2:Int):=of_decide_eq_true (by first|(with_reducible assumption)|assumption)
                   have q17:x5_2<(a0.size:Int):=of_decide_eq_true (by first|(with_reducible assumption)|assumption)
                   have hx17:=bt_at a0 x5_2
                   replace p17:=eq_true p17
                   replace q17:=eq_true q17
                   have p21:0≤((ji18):Int):=of_decide_eq_true (by first|(with_reducible assumption)|assumption)
                   have q21:(ji18)<(a0.size:Int):=of_decide_eq_true (by first|(with_reducible assumption)|assumption)
                   have hx21:=bt_at a0 (ji18)
                   replace p21:=eq_true p21
                   replace q21:=eq_true q21
                   go_wp2_with (first|((with_reducible refine δy (b:=.append) (xs:=#[.tmp 53,.tmp 62]) rfl ?_);(try (refine gate_guard (by rfl) ?_;dsimp only));at_builtin;refine Kd.R_append Kd.string (w0:=w) w.heap.size rfl (.tmp 53) (.tmp 62) 75 9 (.string ⟨#[]⟩) 16 rfl Tryz.underlying75 info9 rfl (by decide) (by omega) u4 x4_2 (a0.extract ((ji28):Int).toNat ((ζm ((ji28)+(ζm ((ζm ((ζm (bt a0 x5_2)) * 256))+(ζm (bt a0 (ji18))))))):Int).toNat) [.string (a0.extract ((ji28):Int).toNat ((ζm ((ji28)+(ζm ((ζm ((ζm (bt a0 x5_2)) * 256))+(ζm (bt a0 (ji18))))))):Int).toNat)] (fun _=>True) (fun _=>False) rfl rfl ?aP (fun _ hk=>hk.elim) ?aF ?aO ?aB ?aS ?aL ?_;(case aP=>exact rfl);(case aB=>exact (by repeat (first|(with_reducible first|exact HB.out|apply δk|apply δi|apply δj)|exact HB.out)));(case aF=>exact (fun _ _=>trivial));(case aO=>exact (by (with_reducible repeat (first|apply ζd|apply ζc|apply ζe));exact HO_4.out));(case aS=>exact (δs (by repeat (first|(with_reducible first|exact HB.out|apply δk|apply δi|apply δj)|exact HB.out))));(case aL=>have:=LMc32.out;omega);intro v332 w33 ho hb hg hat;rw [← Ny331.out] at ho;have n0_:=ζa (hb);have n1_:=ζa (ho);clear HB;clear HO_4;have HB:=n0_;have HO333:=n1_;clear n0_ n1_;clear ho hb hg hat))
                   repeat (go_quiet (first|((with_reducible refine δy (b:=.append) (xs:=#[.tmp 53,.tmp 62]) rfl ?_);(try (refine gate_guard (by rfl) ?_;dsimp only));at_builtin;refine Kd.R_append Kd.string (w0:=w) w.heap.size rfl (.tmp 53) (.tmp 62) 75 9 (.string ⟨#[]⟩) 16 rfl Tryz.underlying75 info9 rfl (by decide) (by omega) u4 x4_2 (a0.extract ((ji28):Int).toNat ((ζm ((ji28)+(ζm ((ζm ((ζm (bt a0 x5_2)) * 256))+(ζm (bt a0 (ji18))))))):Int).toNat) [.string (a0.extract ((ji28):Int).toNat ((ζm ((ji28)+(ζm ((ζm ((ζm (bt a0 x5_2)) * 256))+(ζm (bt a0 (ji18))))))):Int).toNat)] (fun _=>True) (fun _=>False) rfl rfl ?aP (fun _ hk=>hk.elim) ?aF ?aO ?aB ?aS ?aL ?_;(case aP=>exact rfl);(case aB=>exact (by repeat (first|(with_reducible first|exact HB.out|apply δk|apply δi|apply δj)|exact HB.out)));(case aF=>exact (fun _ _=>trivial));(case aO=>exact (by (with_reducible repeat (first|apply ζd|apply ζc|apply ζe));exact HO_4.out));(case aS=>exact (δs (by repeat (first|(with_reducible first|exact HB.out|apply δk|apply δi|apply δj)|exact HB.out))));(case aL=>have:=LMc32.out;omega);intro v332 w33 ho hb hg hat;rw [← Ny331.out] at ho;have n0_:=ζa (hb);have n1_:=ζa (ho);clear HB;clear HO_4;have HB:=n0_;have HO333:=n1_;clear n0_ n1_;clear ho hb hg hat));try go_wp2_with (first|((with_reducible refine δy (b:=.append) (xs:=#[.tmp 53,.tmp 62]) rfl ?_);(try (refine gate_guard (by rfl) ?_;dsimp only));at_builtin;refine Kd.R_append Kd.string (w0:=w) w.heap.size rfl (.tmp 53) (.tmp 62) 75 9 (.string ⟨#[]⟩) 16 rfl Tryz.underlying75 info9 rfl (by decide) (by omega) u4 x4_2 (a0.extract ((ji28):Int).toNat ((ζm ((ji28)+(ζm ((ζm ((ζm (bt a0 x5_2)) * 256))+(ζm (bt a0 (ji18))))))):Int).toNat) [.string (a0.extract ((ji28):Int).toNat ((ζm ((ji28)+(ζm ((ζm ((ζm (bt a0 x5_2)) * 256))+(ζm (bt a0 (ji18))))))):Int).toNat)] (fun _=>True) (fun _=>False) rfl rfl ?aP (fun _ hk=>hk.elim) ?aF ?aO ?aB ?aS ?aL ?_;(case aP=>exact rfl);(case aB=>exact (by repeat (first|(with_reducible first|exact HB.out|apply δk|apply δi|apply δj)|exact HB.out)));(case aF=>exact (fun _ _=>trivial));(case aO=>exact (by (with_reducible repeat (first|apply ζd|apply ζc|apply ζe));exact HO_4.out));(case aS=>exact (δs (by repeat (first|(with_reducible first|exact HB.out|apply δk|apply δi|apply δj)|exact HB.out))));(case aL=>have:=LMc32.out;omega);intro v332 w33 ho hb hg hat;rw [← Ny331.out] at ho;have n0_:=ζa (hb);have n1_:=ζa (ho);clear HB;clear HO_4;have HB:=n0_;have HO333:=n1_;clear n0_ n1_;clear ho hb hg hat)))
                   go_roundg k2
                   case measure=>have:=HJ1.out;have:=HK2.out;omega
                   case rel=>exact ⟨(y331),(ζm (x5_2+(ζm (2+(ζm ((ζm ((ζm (bt a0 x5_2)) * 256))+(ζm (bt a0 (ji18))))))))),(ζm (x6_2 - 1)),(by first|rfl|(simp;done)|(simp only [← hji18] <;> (first|rfl|simp))|(simp [*];done)),(by first|rfl|(simp;done)|(simp [*];done)),H',⟨by have:=HJ1.out;have:=HK2.out;omega⟩,⟨by (with_reducible repeat (first|apply ζd|apply ζc|apply ζe));exact HO333.out⟩,⟨by repeat (first|(with_reducible first|exact HB.out|apply δk|apply δi|apply δj)|exact HB.out)⟩⟩
                  ·
                   rw [if_neg c32] at H
                   exact absurd H (by simp)
                 ·
                  rw [if_neg c31] at H
                  exact absurd H (by simp)
                ·
                 rw [if_neg c30] at H
                 exact absurd H (by simp)
               ·
                rw [if_neg c29] at H
                exact absurd H (by simp)
            ·
             rw [if_neg c20] at H
             exact absurd H (by simp)
           ·
            rw [if_neg c19] at H
            exact absurd H (by simp)
          ·
           rw [if_neg c16] at H
           exact absurd H (by simp)
         ·
          rw [if_neg c15] at H
          exact absurd H (by simp)
       ·
        rw [if_neg c11] at H
        have c11b0:decide (0<x6_2)=φ:=decide_eq_false c11
        clear c11
        by_cases c34:x5_2=(a0.size:Int)
        ·
         rw [if_pos c34] at H
         have c34b0:(x5_2 == (a0.size:Int))=τ:=beq_iff_eq.mpr c34
         have c34b1:(x5_2 != (a0.size:Int))=φ:=bne_eq_false_iff_eq.mpr c34
         clear c34
         simp only [Option.some.injEq,Prod.mk.injEq] at H
         obtain ⟨rfl,rfl⟩:=H
         go_wp2
         repeat (go_quiet (fail);try go_wp2)
         go_ret2
         exact ⟨_,by first|rfl|(simp [errW_none,errW_some] <;> rfl)|(simp [*,errW_none,errW_some] <;> rfl),by (with_reducible repeat (first|apply ζd|apply ζc|apply ζe));exact HO_4.out,by repeat (first|(with_reducible first|exact HB.out|apply δk|apply δi|apply δj)|exact HB.out)⟩
        ·
         rw [if_neg c34] at H
         have c34b0:(x5_2 == (a0.size:Int))=φ:=beq_eq_false_iff_ne.mpr c34
         have c34b1:(x5_2 != (a0.size:Int))=τ:=bne_iff_ne.mpr c34
         obtain ⟨y319,hy319⟩ : ∃ y_:List ByteArray,y_=(([]:List ByteArray)):=⟨_,rfl⟩
         replace H:(some (y319,φ))=some (r1,r2):=by first|(rw [hy319];with_reducible exact H)|(have H2_:=(Option.bind_some _ _).symm.trans H;rw [hy319];with_reducible exact H2_)|(have H2_:=(Option.bind_some _ _).symm.trans H;with_reducible exact H2_)|with_reducible exact H|(rw [hy319];exact H)|exact H
         have Ny319:=ζa hy319
         clear hy319
         simp only [Option.some.injEq,Prod.mk.injEq] at H
         obtain ⟨rfl,rfl⟩:=H
         go_wp2_with (first|((with_reducible refine δx (N:=72) rfl ?_);(try (refine gate_guard (by rfl) ?_;dsimp only));refine Kd.R_lit Kd.string _ 9 ?hg (N:=72) ?hd (xs:=([]:List ByteArray)) (inner:=[]) (ok:=fun _=>True) (okp:=fun _=>True) ?hr ?hp (fun _ hk=>hk) trivial (Below.refl _ _) (Nat.le_refl _) (by simp) ?_;(case hd=>rfl);(case hg=>rfl);(case hr=>first|(go_simp;done)|(go_simp;rfl));(case hp=>exact (Reps.none _ _));intro v320 w35 ho36 hb hg_ hnew_;clear hg_ hnew_;(first|rw [← Ny319.out] at ho36|(simp only [Int.reduceToNat] at ho36;rw [← Ny319.out] at ho36));have n0_:=ζa (Kd.R_elder' (by (with_reducible repeat (first|apply ζd|apply ζc|apply ζe));exact HO_4.out) (Kd.R_base ho36) hb);have n1_:=ζa (Kd.R_lower (Kd.R_new' ho36 (Kd.R_lt (by (with_reducible repeat (first|apply ζd|apply ζc|apply ζe));exact HO_4.out))) (δs (by repeat (first|(with_reducible first|exact HB.out|apply δk|apply δi|apply δj)|exact HB.out))));have n2_:=ζa (δr (by repeat (first|(with_reducible first|exact HB.out|apply δk|apply δi|apply δj)|exact HB.out)) hb);clear HO_4;clear HB;have HO_4:=n0_;have HO321:=n1_;have HB:=n2_;clear n0_ n1_ n2_;clear hb ho36))
         repeat (go_quiet (first|((with_reducible refine δx (N:=72) rfl ?_);(try (refine gate_guard (by rfl) ?_;dsimp only));refine Kd.R_lit Kd.string _ 9 ?hg (N:=72) ?hd (xs:=([]:List ByteArray)) (inner:=[]) (ok:=fun _=>True) (okp:=fun _=>True) ?hr ?hp (fun _ hk=>hk) trivial (Below.refl _ _) (Nat.le_refl _) (by simp) ?_;(case hd=>rfl);(case hg=>rfl);(case hr=>first|(go_simp;done)|(go_simp;rfl));(case hp=>exact (Reps.none _ _));intro v320 w35 ho36 hb hg_ hnew_;clear hg_ hnew_;(first|rw [← Ny319.out] at ho36|(simp only [Int.reduceToNat] at ho36;rw [← Ny319.out] at ho36));have n0_:=ζa (Kd.R_elder' (by (with_reducible repeat (first|apply ζd|apply ζc|apply ζe));exact HO_4.out) (Kd.R_base ho36) hb);have n1_:=ζa (Kd.R_lower (Kd.R_new' ho36 (Kd.R_lt (by (with_reducible repeat (first|apply ζd|apply ζc|apply ζe));exact HO_4.out))) (δs (by repeat (first|(with_reducible first|exact HB.out|apply δk|apply δi|apply δj)|exact HB.out))));have n2_:=ζa (δr (by repeat (first|(with_reducible first|exact HB.out|apply δk|apply δi|apply δj)|exact HB.out)) hb);clear HO_4;clear HB;have HO_4:=n0_;have HO321:=n1_;have HB:=n2_;clear n0_ n1_ n2_;clear hb ho36));try go_wp2_with (first|((with_reducible refine δx (N:=72) rfl ?_);(try (refine gate_guard (by rfl) ?_;dsimp only));refine Kd.R_lit Kd.string _ 9 ?hg (N:=72) ?hd (xs:=([]:List ByteArray)) (inner:=[]) (ok:=fun _=>True) (okp:=fun _=>True) ?hr ?hp (fun _ hk=>hk) trivial (Below.refl _ _) (Nat.le_refl _) (by simp) ?_;(case hd=>rfl);(case hg=>rfl);(case hr=>first|(go_simp;done)|(go_simp;rfl));(case hp=>exact (Reps.none _ _));intro v320 w35 ho36 hb hg_ hnew_;clear hg_ hnew_;(first|rw [← Ny319.out] at ho36|(simp only [Int.reduceToNat] at ho36;rw [← Ny319.out] at ho36));have n0_:=ζa (Kd.R_elder' (by (with_reducible repeat (first|apply ζd|apply ζc|apply ζe));exact HO_4.out) (Kd.R_base ho36) hb);have n1_:=ζa (Kd.R_lower (Kd.R_new' ho36 (Kd.R_lt (by (with_reducible repeat (first|apply ζd|apply ζc|apply ζe));exact HO_4.out))) (δs (by repeat (first|(with_reducible first|exact HB.out|apply δk|apply δi|apply δj)|exact HB.out))));have n2_:=ζa (δr (by repeat (first|(with_reducible first|exact HB.out|apply δk|apply δi|apply δj)|exact HB.out)) hb);clear HO_4;clear HB;have HO_4:=n0_;have HO321:=n1_;have HB:=n2_;clear n0_ n1_ n2_;clear hb ho36)))
         go_ret2
         exact ⟨_,by first|rfl|(simp [errW_none,errW_some] <;> rfl)|(simp [*,errW_none,errW_some] <;> rfl),by (with_reducible repeat (first|apply ζd|apply ζc|apply ζe));exact Kd.R_mono HO321.out (fun _ hk=>trivial),by repeat (first|(with_reducible first|exact HB.out|apply δk|apply δi|apply δj)|exact HB.out)⟩
    ·
     rw [if_neg c9] at H
     exact absurd H (by simp)



/-! ### impl_numberOf: function 191 -/
def impl_numberOf.l0:Nat→ByteArray→Int→Int→Int→Option (Int)
 | 0,_,_,_,_=>none
 | k+1,x0,x3,x6,x7=>if x7<x6 then (if 0≤x7 then (if x7<(x0.size:Int) then (impl_numberOf.l0 k x0 (ζm ((ζm (x3 * 256))+(ζm (bt x0 x7)))) x6 (ζm (x7+1))) else (none)) else (none)) else (some x3)
def impl_numberOf.f (k:Nat) (a0:ByteArray):Option (Int):=impl_numberOf.l0 k a0 0 (a0.size:Int) 0
set_option maxHeartbeats 8000000 in
set_option maxRecDepth 100000 in
theorem impl_numberOf.calls (k:Nat) (a0:ByteArray) (r:Int) (w:World) (h:impl_numberOf.f k a0=some r) :
  Calls Tryz.prog 191 #[.string a0] w fun e w'=>e = .returned (.int .i64 r)∧Drawn0 w w':=by
 have H:(impl_numberOf.l0 k a0 0 (a0.size:Int) 0)=some r:=h
 clear h
 have H':=ζa H
 clear H
 go_enter Tryz.func191,Tryz.ntmps191
 go_wp2
 go_loopg [3,7] k (fun kq v3 v7 w' => ∃ (x3_1:Int) (x7_1:Int),v3 = .int .i64 x3_1∧v7 = .int .i64 x7_1∧Aside0 (impl_numberOf.l0 kq a0 x3_1 (a0.size:Int) x7_1=some r)∧Aside0 (kq≤k)∧Drawn0 w w')
 case atStart=>exact ⟨(0),(0),(by first|rfl|(simp;done)|(simp [*];done)),(by first|rfl|(simp;done)|(simp [*];done)),H',⟨Nat.le_refl _⟩,by repeat (first|exact Drawn0.refl _|apply Drawn0.step)⟩
 case round =>
  clear H'
  try clear c1
  obtain ⟨x3_1,x7_1,rfl,rfl,HA,HK1,⟨m1,rfl⟩⟩:=hrel
  cases gk with
  | zero=>exact absurd HA.out (by simp [impl_numberOf.l0])
  | succ k1 =>
   have H:=HA.out
   clear HA
   simp only [impl_numberOf.l0] at H
   by_cases c2:x7_1<(a0.size:Int)
   ·
    rw [if_pos c2] at H
    have c2b0:decide (x7_1<(a0.size:Int))=τ:=decide_eq_true c2
    clear c2
    by_cases c3:0≤x7_1
    ·
     rw [if_pos c3] at H
     have c3b0:decide (0≤x7_1)=τ:=decide_eq_true c3
     clear c3
     by_cases c4:x7_1<(a0.size:Int)
     ·
      rw [if_pos c4] at H
      have c4b0:decide (x7_1<(a0.size:Int))=τ:=decide_eq_true c4
      clear c4
      have H':=ζa H
      clear H
      have p5:0≤(x7_1:Int):=of_decide_eq_true (by first|(with_reducible assumption)|assumption)
      have q5:x7_1<(a0.size:Int):=of_decide_eq_true (by first|(with_reducible assumption)|assumption)
      have hx5:=bt_at a0 x7_1
      replace p5:=eq_true p5
      replace q5:=eq_true q5
      go_wp2
      go_roundg k1
      case measure=>have:=HK1.out;omega
      case rel=>exact ⟨(ζm ((ζm (x3_1 * 256))+(ζm (bt a0 x7_1)))),(ζm (x7_1+1)),(by first|rfl|(simp;done)|(simp [*];done)),(by first|rfl|(simp;done)|(simp [*];done)),H',⟨by have:=HK1.out;omega⟩,by repeat (first|exact Drawn0.refl _|apply Drawn0.step)⟩
     ·
      rw [if_neg c4] at H
      exact absurd H (by simp)
    ·
     rw [if_neg c3] at H
     exact absurd H (by simp)
   ·
    rw [if_neg c2] at H
    have c2b0:decide (x7_1<(a0.size:Int))=φ:=decide_eq_false c2
    clear c2
    obtain rfl:=Option.some.inj H
    go_wp2
    go_ret
    exact ⟨by first|rfl|(simp;done)|(simp [*];done),by repeat (first|exact Drawn0.refl _|apply Drawn0.step)⟩

end Go.Proofs.YtabmfhnhmoiljaaGreatDoor.Q
